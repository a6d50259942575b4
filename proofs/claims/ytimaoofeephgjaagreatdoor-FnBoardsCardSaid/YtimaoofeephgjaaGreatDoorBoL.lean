/- The plain law: what the models compute, no program in sight. -/
import Derived.Test.YtimaoofeephgjaaGreatDoorBoM
import Derived.Test.YtimaoofeephgjaaGreatDoorAbStb
namespace Go.Proofs.YtimaoofeephgjaaGreatDoor
open Go Go.Ab
set_option maxHeartbeats 4000000
set_option linter.unusedVariables false
set_option linter.unusedSimpArgs false
def Cur (k : Nat) (c : l1Cur) : Prop := 0 ≤ c.at_ ∧ c.at_ ≤ k
theorem Cur.mono {k k' : Nat} {c : l1Cur} (h : Cur k c) (hk : k ≤ k') : Cur k' c := ⟨h.1, by have := h.2; omega⟩
theorem next_ok {k : Nat} {c : l1Cur} (h : Cur k c) (hk : k ≤ 4000000000) : ∃ r, zq51 c = some r ∧ Cur (k + 1) r.2 ∧ 0 ≤ r.1 ∧ r.1 ≤ 255 := by
 obtain ⟨h0, h1⟩ := h
 have hw : w64 (c.at_ + 1) = c.at_ + 1 := w64_id (by omega)
 have hcur : ∀ s, Cur (k + 1) ⟨c.code_, w64 (c.at_ + 1), s⟩ := fun s => by rw [hw]; exact ⟨by show 0 ≤ c.at_ + 1; omega, by show c.at_ + 1 ≤ _; omega⟩
 unfold zq51
 have hv : ∃ v, (if (decide (c.at_ < (c.code_.length : Int))) = true then (idx c.code_ c.at_).bind fun e1 => some (w64 ((e1.toNat : Int))) else some 0) = some v ∧ 0 ≤ v ∧ v ≤ 255 := by
  by_cases hlt : c.at_ < c.code_.length
  ·obtain ⟨x, hx, _, _⟩ := idx_lt h0 hlt
   have := x.toNat_lt
   refine ⟨(x.toNat : Int), ?_, by omega, by omega⟩
   simp only [hlt, decide_true, if_true, hx, Option.bind_some]
   rw [w64_id (by omega)]
  ·exact ⟨0, by simp [hlt], by omega, by omega⟩
 obtain ⟨v, hv, hv0, hv1⟩ := hv
 rw [hv]
 simp only [Option.bind_some]
 split
 ·exact ⟨_, rfl, hcur _, hv0, hv1⟩
 ·rw [chk_of (by omega)]
  exact ⟨_, rfl, hcur _, and255 _⟩
theorem pick_ok {k : Nat} {c : l1Cur} (n : Int) (h : Cur k c) (hk : k ≤ 3000000000) : ∃ r, zq56 c n = some r ∧ Cur (k + 2) r.2 ∧ 0 ≤ r.1 ∧ (r.1 < n ∨ r.1 = 0) := by
 unfold zq56
 by_cases hn : n ≤ 1
 ·exact ⟨(0, c), by simp [hn], h.mono (by omega), by simp, .inr rfl⟩
 ·obtain ⟨r, hr, hc, h0, h1⟩ := next_ok h (by omega)
  have hn' : decide (n ≤ 1) = false := by simpa using hn
  simp only [hn', Bool.false_eq_true, if_false, hr, Option.bind_some]
  have hne : chk (n ≠ 0) = some () := chk_of (by omega)
  by_cases h2 : 200 < n
  ·obtain ⟨r', hr', hc', h0', h1'⟩ := next_ok hc (by omega)
   have e1 : w64 (r.1 * 256) = r.1 * 256 := w64_id (by omega)
   have e2 : w64 (r.1 * 256 + r'.1) = r.1 * 256 + r'.1 := w64_id (by omega)
   have h3 := tmod_rng (a := r.1 * 256 + r'.1) (b := n) (by omega) (by omega)
   simp only [h2, decide_true, if_true, hr', Option.bind_some, hne, e1, e2]
   exact ⟨_, rfl, hc'.mono (by omega), h3.1, .inl h3.2⟩
  ·have h2' : decide (200 < n) = false := by simpa using h2
   have h3 := tmod_rng (a := r.1) (b := n) (by omega) (by omega)
   simp only [h2', Bool.false_eq_true, if_false, Option.bind_some, hne]
   exact ⟨_, rfl, hc.mono (by omega), h3.1, .inl h3.2⟩
theorem amongw_ok {k : Nat} {c : l1Cur} (l : List Int) (hl : l ≠ []) (h : Cur k c) (hk : k ≤ 3000000000) : ∃ r, zq43 c l = some r ∧ Cur (k + 2) r.2 ∧ r.1 ∈ l := by
 unfold zq43
 obtain ⟨r, hr, hc, h0, h1⟩ := pick_ok (l.length : Int) h hk
 have hpos : 0 < l.length := List.length_pos_iff.2 hl
 obtain ⟨x, hx, _, hm⟩ := idx_lt (l := l) h0 (by omega)
 simp only [hr, Option.bind_some, hx]
 exact ⟨_, rfl, hc, hm⟩
theorem among_ok {k : Nat} {c : l1Cur} (l : List Int) (hl : l ≠ []) (h : Cur k c) (hk : k ≤ 3000000000) : ∃ r, zq42 c l = some r ∧ Cur (k + 2) r.2 ∧ r.1 ∈ l := by
 have : zq42 c l = zq43 c l := rfl
 rw [this]; exact amongw_ok l hl h hk
theorem one_ok {k : Nat} {c : l1Cur} (n : Int) (h : Cur k c) (hk : k ≤ 3000000000) : ∃ r, zq55 c n = some r ∧ Cur (k + 2) r.2 := by
 unfold zq55
 obtain ⟨r, hr, hc, _, _⟩ := pick_ok n h hk
 simp only [hr, Option.bind_some]
 exact ⟨_, rfl, hc⟩
theorem of_ok {k : Nat} {c : l1Cur} (l : List ByteArray) (hl : l ≠ []) (h : Cur k c) (hk : k ≤ 3000000000) : ∃ r, zq53 c l = some r ∧ Cur (k + 2) r.2 ∧ r.1 ∈ l := by
 unfold zq53
 obtain ⟨r, hr, hc, h0, h1⟩ := pick_ok (l.length : Int) h hk
 have hpos : 0 < l.length := List.length_pos_iff.2 hl
 obtain ⟨x, hx, _, hm⟩ := idx_lt (l := l) h0 (by omega)
 simp only [hr, Option.bind_some, hx]
 exact ⟨_, rfl, hc, hm⟩
theorem ofw_ok {k : Nat} {c : l1Cur} (l : List ByteArray) (hl : l ≠ []) (h : Cur k c) (hk : k ≤ 3000000000) : ∃ r, zq54 c l = some r ∧ Cur (k + 2) r.2 ∧ r.1 ∈ l := by
 have : zq54 c l = zq53 c l := rfl
 rw [this]; exact of_ok l hl h hk
theorem cur0 (code : List UInt8) : Cur 0 ⟨code, 0, ⟨0⟩⟩ := ⟨by show (0 : Int) ≤ 0; omega, by show (0 : Int) ≤ _; omega⟩
theorem str_of (x : ByteArray) : x = str x.data.toList := rfl
theorem str_l (l : List UInt8) : (str l).data.toList = l := rfl
theorem str_s (l : List UInt8) : (str l).size = l.length := rfl
theorem str_app (a b : List UInt8) : str a ++ str b = str (a ++ b) := by
 apply ByteArray.ext; simp [str]
theorem str_ext (l : List UInt8) (i j : Nat) : (str l).extract i j = str ((l.take j).drop i) := by
 apply ByteArray.ext
 simp [str, List.drop_take]
theorem getD_some {l : List UInt8} {i : Nat} {x : UInt8} (h : l[i]? = some x) : l.getD i 0 = x := by rw [List.getD_eq_getElem?_getD, h]; rfl
theorem all_loop {α : Type} (l : List α) (p : α → Prop) [DecidablePred p] {step : Int → Option (Lp Int (Fl Bool Unit))} (hl : l.length ≤ 4294967296) (b : Bool)
  (h1 : ∀ (i : Nat) x, l[i]? = some x → p x → step (i : Int) = some (.nx (w64 ((i : Int) + 1)))) (h2 : ∀ (i : Nat) x, l[i]? = some x → ¬ p x → step (i : Int) = some (.dn (.ret b)))
  (h3 : step (l.length : Int) = some (.dn (.go ()))) : iter step (0 : Int) = if (∀ x ∈ l, p x) then some (.go ()) else some (.ret b) := by
 have h : ∀ k i : Nat, k + i = l.length → (∀ x ∈ l.take i, p x) → iter step (i : Int) = if (∀ x ∈ l, p x) then some (.go ()) else some (.ret b) := by
  intro k
  induction k with
  | zero =>
   intro i hi hp
   have e : i = l.length := by omega
   subst e
   rw [List.take_length] at hp
   rw [iter_dn h3, if_pos hp]
  | succ k ih =>
   intro i hi hp
   obtain ⟨x, hx⟩ := get_ex (l := l) (i := i) (by omega)
   by_cases hpx : p x
   ·rw [iter_nx (h1 i x hx hpx), w64_succ (by omega)]
    refine ih (i + 1) (by omega) fun y hy => ?_
    rw [take_succ hx] at hy
    rcases List.mem_append.1 hy with hy | hy
    ·exact hp y hy
    ·simp at hy; subst hy; exact hpx
   ·rw [iter_dn (h2 i x hx hpx), if_neg (fun h => hpx (h x (List.mem_of_getElem? hx)))]
 exact h l.length 0 (by omega) (by simp)
def num (n : Nat) : List UInt8 := Lib.decDigits n
theorem dd_big {u : Nat} (h : ¬ u < 10) : Lib.decDigits u = Lib.decDigits (u / 10) ++ [UInt8.ofNat (48 + u % 10)] := by
 rw [Lib.decDigits, dif_neg h]
theorem dig_ext {n : Int} (h0 : 0 ≤ n) (h1 : n < 10) : (str [48, 49, 50, 51, 52, 53, 54, 55, 56, 57]).extract n.toNat (w64 (n + 1)).toNat = str [UInt8.ofNat (48 + n.toNat)] := by
 rw [w64_id (by omega)]
 have : n = 0 ∨ n = 1 ∨ n = 2 ∨ n = 3 ∨ n = 4 ∨ n = 5 ∨ n = 6 ∨ n = 7 ∨ n = 8 ∨ n = 9 := by omega
 rcases this with rfl | rfl | rfl | rfl | rfl | rfl | rfl | rfl | rfl | rfl <;> rw [str_ext] <;> rfl
theorem lnum_k : ∀ (d : Nat) (k : Nat) (n : Int), 0 ≤ n → n < 10 ^ (d + 1) → d ≤ 8 → d < k → zq62_k k n = some (str (num n.toNat))
 | d, k, n, h0, h1, hd, hk => by
  obtain ⟨k, rfl⟩ : ∃ j, k = j + 1 := ⟨k - 1, by omega⟩
  have hb : n < 1000000000 := by
   have h9 : (10 : Nat) ^ (d + 1) ≤ 10 ^ 9 := Nat.pow_le_pow_right (by decide) (by omega)
   have h10 : ((10 ^ (d + 1) : Nat) : Int) = (10 : Int) ^ (d + 1) := by simp
   omega
  show zq62_F (zq62_k k) n = _
  unfold zq62_F
  by_cases hn : n < 10
  ·have e2 : decide (n < 0) = false := decide_eq_false (by omega)
   simp only [e2, hn, decide_true, Bool.false_eq_true, if_false, if_true]
   rw [chk_of (by rw [w64_id (by omega)]; exact ⟨h0, by omega, by show n + 1 ≤ 10; omega⟩), Option.bind_some, dig_ext h0 hn]
   unfold num
   rw [Lib.decDigits_one (by omega)]
  ·match d, h1, hd, hk with
   | 0, h1, _, _ => simp at h1; omega
   | d + 1, h1, hd, hk =>
    have e2 : decide (n < 0) = false := decide_eq_false (by omega)
    have e3 : decide (n < 10) = false := decide_eq_false hn
    have et : n.tdiv 10 = n / 10 := Int.tdiv_eq_ediv_of_nonneg h0
    have em : n.tmod 10 = n % 10 := Int.tmod_eq_emod_of_nonneg h0
    have ew : w64 (n.tdiv 10) = n / 10 := by rw [et, w64_id (by omega)]
    have hr := lnum_k d k (n / 10) (by omega) (by rw [Int.pow_succ] at h1; omega) (by omega) (by omega)
    have hm0 : 0 ≤ n % 10 := by omega
    have hm1 : n % 10 < 10 := by omega
    simp only [e2, e3, Bool.false_eq_true, if_false, ew, hr, em]
    have c10 : chk ((10 : Int) ≠ 0) = some () := chk_of (by decide)
    simp only [c10, Option.bind_some]
    rw [chk_of (by rw [w64_id (by omega)]; exact ⟨hm0, by omega, by show n % 10 + 1 ≤ 10; omega⟩), Option.bind_some, dig_ext hm0 hm1]
    have hlen : (num (n / 10).toNat).length ≤ 100 := by
     unfold num
     rw [Lib.decDigits_length]
     have key : ∀ (k n : Nat), n < 10 ^ (k + 1) → Lib.nDigits n ≤ k + 1 := by
      intro k
      induction k with
      | zero => intro n h; rw [Lib.nDigits_small (by simpa using h)]; omega
      | succ k ih =>
       intro n h
       by_cases h0 : n < 10
       ·rw [Lib.nDigits_small h0]; omega
       ·rw [Lib.nDigits_big h0]
        have := ih (n / 10) (by rw [Nat.pow_succ] at h; omega)
        omega
     have := key 9 (n / 10).toNat (by omega)
     omega
    rw [chk_of (by rw [str_s, str_s]; simp; omega), Option.bind_some, str_app]
    unfold num
    rw [dd_big (u := n.toNat) (by omega)]
    have e5 : (n / 10).toNat = n.toNat / 10 := by omega
    have e6 : (n % 10).toNat = n.toNat % 10 := by omega
    rw [e5, e6]
theorem lnum_ok {n : Int} (h0 : 0 ≤ n) (h1 : n < 1000000) : zq62 n = some (str (num n.toNat)) := by
 unfold zq62
 exact lnum_k 5 4294967296 n h0 (by simpa using h1) (by omega) (by omega)
theorem lin_eq (x a b : Int) : zq60 x a b = some (decide (a ≤ x ∧ x ≤ b)) := by
 unfold zq60
 by_cases h1 : a ≤ x <;> by_cases h2 : x ≤ b <;> simp [h1, h2]
def sumF (i : Int) (b : UInt8) : Int := (41 * i + b.toNat + 1).tmod 999979
def sumL (l : List UInt8) : Int := l.foldl sumF 7
def tail (l : List UInt8) : List UInt8 := l ++ 35 :: num (sumL l).toNat
theorem itoa_n {n : Int} (h : 0 ≤ n) : Lib.itoa n = num n.toNat := by
 unfold Lib.itoa; rw [if_neg (by omega)]; rfl
theorem iItoa {n : Int} (h0 : -1000000 < n) (h1 : n < 1000000) : zq105 n = some (str (Lib.itoa n)) := by
 unfold zq105 itoaM
 rw [if_pos (by omega)]
 rfl
theorem within_eq (n lo hi : Int) : zq36 n lo hi = some (decide (lo ≤ n ∧ n ≤ hi)) := by
 unfold zq36
 by_cases h : lo ≤ n <;> simp [h]
theorem l1In_eq (n lo hi : Int) : zq60 n lo hi = some (decide (lo ≤ n ∧ n ≤ hi)) := by
 unfold zq60
 by_cases h : lo ≤ n <;> simp [h]
def ChOK (i : Nat) (c : UInt8) : Prop := (97 ≤ (c.toNat : Int) ∧ (c.toNat : Int) ≤ 122) ∨ (i ≠ 0 ∧ 48 ≤ (c.toNat : Int) ∧ (c.toNat : Int) ≤ 57)
def NameOK (s : ByteArray) : Prop := (1 ≤ s.size ∧ s.size ≤ 8) ∧ ∀ (i : Nat) c, s.data.toList[i]? = some c → ChOK i c
open Classical in
noncomputable instance (s : ByteArray) : Decidable (NameOK s) := Classical.propDecidable _
theorem size_list (s : ByteArray) : s.data.toList.length = s.size := by simp
theorem getD_of {α : Type} {l : List α} {i : Nat} {x d : α} (h : l[i]? = some x) : l.getD i d = x := by rw [List.getD_eq_getElem?_getD, h]; rfl
theorem isName_eq (s : ByteArray) : zq24 s = some (decide (NameOK s)) := by
 unfold zq24
 by_cases h1 : 1 ≤ s.size ∧ s.size ≤ 8
 ·have e1 : decide ((s.size : Int) < 1) = false := by simp; omega
  have e2 : decide (8 < (s.size : Int)) = false := by simp; omega
  simp only [e1, e2, Bool.false_eq_true, if_false, Option.bind_some]
  have hsz := size_list s
  have key := Go.Ab.all_loop s.data.toList ChOK (step := zq24_L1 s) ?_ ?_ 0 0 rfl (by omega)
  ·rcases key with ⟨g1, g2⟩ | ⟨g1, g2⟩
   ·rw [g1, flb_go]
    have : NameOK s := ⟨h1, fun i c hc => g2 i c (by omega) hc⟩
    simp [this]
   ·rw [g1, flb_ret]
    have : ¬ NameOK s := fun hn => g2 fun i c _ hc => hn.2 i c hc
    simp [this]
  ·intro i x hx
   have hi := (List.getElem?_eq_some_iff.1 hx).1
   have hg : s.data.toList.getD (i : Int).toNat 0 = x := by rw [Int.toNat_natCast]; exact getD_of hx
   have hc : chk ((0 : Int) ≤ (i : Int) ∧ (i : Int) < (s.size : Int)) = some () := chk_of (by omega)
   have hlt : decide ((i : Int) < (s.size : Int)) = true := by simp; omega
   unfold zq24_L1
   simp only [hlt, if_true, hc, hg, Option.bind_some, w64_succ (n := i) (by omega)]
   unfold ChOK
   by_cases a1 : (97 : Int) ≤ (x.toNat : Int)
   ·by_cases a2 : (x.toNat : Int) ≤ 122
    ·left; refine ⟨by simp [a1, a2], .inl ⟨a1, a2⟩⟩
    ·right
     refine ⟨?_, by omega⟩
     have b1 : decide ((x.toNat : Int) < 48) = false := by simp; omega
     have b2 : decide ((57 : Int) < (x.toNat : Int)) = true := by simp; omega
     have c1 : ¬ (x.toNat : Int) < 48 := by omega
     have c2 : (57 : Int) < (x.toNat : Int) := by omega
     by_cases hi0 : i = 0
     ·simp [a1, a2, hi0]
     ·have hi0' : ((i : Int) == 0) = false := by simp; omega
      simp [a1, a2, hi0', c1, c2]
   ·by_cases hi0 : i = 0
    ·right
     refine ⟨by simp [a1, hi0], by omega⟩
    ·have hi0' : ((i : Int) == 0) = false := by simp; omega
     by_cases b1 : (x.toNat : Int) < 48
     ·right
      refine ⟨by simp [a1, hi0', b1], by omega⟩
     ·by_cases b2 : (57 : Int) < (x.toNat : Int)
      ·right
       refine ⟨by simp [a1, hi0', b1, b2], by omega⟩
      ·left
       refine ⟨by simp [a1, hi0', b1, b2], .inr ⟨hi0, by omega, by omega⟩⟩
  ·unfold zq24_L1
   rw [hsz]
   simp
 ·have : ¬ NameOK s := fun h => h1 h.1
  have e : (if (decide ((s.size : Int) < 1)) = true then some true else some (decide (8 < (s.size : Int)))) = some true := by
   by_cases h2 : s.size < 1
   ·have : decide ((s.size : Int) < 1) = true := by simp; omega
    simp [this]
   ·have e1 : decide ((s.size : Int) < 1) = false := by simp; omega
    have e2 : decide (8 < (s.size : Int)) = true := by simp; omega
    simp [e1, e2]
  rw [e]
  simp [this]
theorem l2Name_eq (s : ByteArray) : zq78 s = some (decide (NameOK s)) := by
 unfold zq78
 rw [l1In_eq]
 simp only [Option.bind_some]
 by_cases h1 : 1 ≤ s.size ∧ s.size ≤ 8
 ·have e1 : decide ((1 : Int) ≤ (s.size : Int) ∧ (s.size : Int) ≤ 8) = true := by simp; omega
  have hsz := size_list s
  obtain ⟨x0, hx0⟩ := get_ex (l := s.data.toList) (i := 0) (by omega)
  have hg0 : s.data.toList.getD (0 : Int).toNat 0 = x0 := getD_of hx0
  have hc0 : chk ((0 : Int) ≤ 0 ∧ 0 < (s.size : Int)) = some () := chk_of (by omega)
  simp only [e1, Bool.not_true, Bool.false_eq_true, if_false, hc0, hg0, Option.bind_some]
  by_cases a0 : 97 ≤ (x0.toNat : Int) ∧ (x0.toNat : Int) ≤ 122
  ·have b1 : decide ((x0.toNat : Int) < 97) = false := by simp; omega
   have b2 : decide ((122 : Int) < (x0.toNat : Int)) = false := by simp; omega
   simp only [b1, b2, Bool.false_eq_true, if_false, Option.bind_some]
   have key := Go.Ab.all_loop s.data.toList ChOK (step := zq78_L1 s) ?_ ?_ 0 0 rfl (by omega)
   ·rcases key with ⟨g1, g2⟩ | ⟨g1, g2⟩
    ·rw [g1, flb_go]
     have : NameOK s := ⟨h1, fun i c hc => g2 i c (by omega) hc⟩
     simp [this]
    ·rw [g1, flb_ret]
     have : ¬ NameOK s := fun hn => g2 fun i c _ hc => hn.2 i c hc
     simp [this]
   ·intro i x hx
    have hi := (List.getElem?_eq_some_iff.1 hx).1
    have hg : s.data.toList.getD (i : Int).toNat 0 = x := by rw [Int.toNat_natCast]; exact getD_of hx
    have hc : chk ((0 : Int) ≤ (i : Int) ∧ (i : Int) < (s.size : Int)) = some () := chk_of (by omega)
    have hlt : decide ((i : Int) < (s.size : Int)) = true := by simp; omega
    have h0 : i = 0 → x = x0 := fun h => by subst h; rw [hx0] at hx; cases hx; rfl
    unfold zq78_L1
    simp only [hlt, if_true, hc, hg, Option.bind_some, w64_succ (n := i) (by omega)]
    unfold ChOK
    by_cases a1 : (x.toNat : Int) < 97
    ·have hi0 : i ≠ 0 := fun h => by have := h0 h; subst this; omega
     by_cases c1 : (x.toNat : Int) < 48
     ·right; refine ⟨by simp [a1, c1], by omega⟩
     ·by_cases c2 : (57 : Int) < (x.toNat : Int)
      ·right; refine ⟨by simp [a1, c1, c2], by omega⟩
      ·left; refine ⟨by simp [a1, c1, c2], .inr ⟨hi0, by omega, by omega⟩⟩
    ·by_cases a2 : (122 : Int) < (x.toNat : Int)
     ·right
      have c1 : ¬ (x.toNat : Int) < 48 := by omega
      have c2 : (57 : Int) < (x.toNat : Int) := by omega
      refine ⟨by simp [a1, a2, c1, c2], by omega⟩
     ·left; refine ⟨by simp [a1, a2], .inl ⟨by omega, by omega⟩⟩
   ·unfold zq78_L1
    rw [hsz]
    simp
  ·have : ¬ NameOK s := fun hn => by
    have := hn.2 0 x0 hx0
    unfold ChOK at this
    omega
   have e : (if (decide ((x0.toNat : Int) < 97)) = true then some true else some (decide ((122 : Int) < (x0.toNat : Int)))) = some true := by
    by_cases h2 : (x0.toNat : Int) < 97
    ·simp [h2]
    ·have : (122 : Int) < (x0.toNat : Int) := by omega
     simp [h2, this]
   rw [e]
   simp [this]
 ·have e1 : decide ((1 : Int) ≤ (s.size : Int) ∧ (s.size : Int) ≤ 8) = false := by simp; omega
  have : ¬ NameOK s := fun h => h1 h.1
  simp [e1, this]
theorem index_str_eq (l : List ByteArray) (hl : l.length ≤ 4000000000) (v : ByteArray) : zq95 l v = some (fixI (fun e => v.toList == e.toList) l) := by
 unfold zq95
 refine find_val l (fun e => v.toList == e.toList) (fun i x hx => ?_) (by unfold zq95_L1; simp)
 have hi := (List.getElem?_eq_some_iff.1 hx).1
 unfold zq95_L1
 have hlt : decide ((i : Int) < (l.length : Int)) = true := by simp; omega
 simp only [hlt, if_true, idx_nat, hx, Option.bind_some, w64_succ (n := i) (by omega)]
 split <;> rfl
theorem index_int_eq (l : List Int) (hl : l.length ≤ 4000000000) (v : Int) : zq94 l v = some (fixI (fun e => v == e) l) := by
 unfold zq94
 refine find_val l (fun e => v == e) (fun i x hx => ?_) (by unfold zq94_L1; simp)
 have hi := (List.getElem?_eq_some_iff.1 hx).1
 unfold zq94_L1
 have hlt : decide ((i : Int) < (l.length : Int)) = true := by simp; omega
 simp only [hlt, if_true, idx_nat, hx, Option.bind_some, w64_succ (n := i) (by omega)]
 split <;> rfl
theorem l2Place_eq (x : Line) (hl : x.Stops.length ≤ 4000000000) (v : Int) : zq81 x v = some (fixI (fun e => v == e) x.Stops) := by
 have hc : fixI (fun e => v == e) x.Stops = fixI (fun e => e == v) x.Stops := fixI_congr _ fun e => BEq.comm
 rw [hc]
 unfold zq81
 refine find_val x.Stops (fun e => e == v) (fun i y hx => ?_) (by unfold zq81_L1; simp)
 have hi := (List.getElem?_eq_some_iff.1 hx).1
 unfold zq81_L1
 have hlt : decide ((i : Int) < (x.Stops.length : Int)) = true := by simp; omega
 simp only [hlt, if_true, idx_nat, hx, Option.bind_some, w64_succ (n := i) (by omega)]
 split <;> rfl
theorem bl_comm (a b : List UInt8) : (a == b) = (b == a) := BEq.comm
theorem l2Find_eq (l : List ByteArray) (hl : l.length ≤ 4000000000) (v : ByteArray) : zq74 l v = some (fixI (fun e => v.toList == e.toList) l) := by
 rw [fixI_congr l (q := fun e => e.toList == v.toList) fun e => bl_comm _ _]
 unfold zq74
 refine find_val l (fun e => e.toList == v.toList) (fun i x hx => ?_) (by unfold zq74_L1; simp)
 have hi := (List.getElem?_eq_some_iff.1 hx).1
 unfold zq74_L1
 have hlt : decide ((i : Int) < (l.length : Int)) = true := by simp; omega
 simp only [hlt, if_true, idx_nat, hx, Option.bind_some, w64_succ (n := i) (by omega)]
 split <;> rfl
theorem l2LineNamed_eq (n : Network) (hl : n.Lines.length ≤ 4000000000) (v : ByteArray) : zq77 n v = some (fixI (fun e => v.toList == e.toList) (n.Lines.map (·.Name))) := by
 rw [fixI_map, fixI_congr n.Lines (q := fun e => e.Name.toList == v.toList) fun e => bl_comm _ _]
 unfold zq77
 refine find_val n.Lines (fun e => e.Name.toList == v.toList) (fun i x hx => ?_) (by unfold zq77_L1; simp)
 have hi := (List.getElem?_eq_some_iff.1 hx).1
 unfold zq77_L1
 have hlt : decide ((i : Int) < (n.Lines.length : Int)) = true := by simp; omega
 simp only [hlt, if_true, idx_nat, hx, Option.bind_some, w64_succ (n := i) (by omega)]
 split <;> rfl
def NamesP (l : List ByteArray) : Prop := ∀ (i : Nat) x, l[i]? = some x → NameOK x ∧ fixI (fun e => x.toList == e.toList) l = (i : Int)
def LineP (st : Nat) (x : Line) : Prop := (2 ≤ x.Stops.length ∧ x.Stops.length ≤ 6) ∧ (x.Runs.length : Int) = (x.Stops.length : Int) - 1 ∧
 (∀ (i : Nat) e, x.Stops[i]? = some e → (0 ≤ e ∧ e < (st : Int)) ∧ fixI (fun y => e == y) x.Stops = (i : Int)) ∧ ∀ (i : Nat) r, x.Runs[i]? = some r → 1 ≤ r ∧ r ≤ 60
def Good (n : Network) : Prop := (2 ≤ n.Stops.length ∧ n.Stops.length ≤ 8) ∧ (1 ≤ n.Lines.length ∧ n.Lines.length ≤ 5) ∧ NamesP n.Stops ∧ NamesP (n.Lines.map (·.Name)) ∧ ∀ (i : Nat) x, n.Lines[i]? = some x → LineP n.Stops.length x
noncomputable instance (l : List ByteArray) : Decidable (NamesP l) := Classical.propDecidable _
noncomputable instance (st : Nat) (x : Line) : Decidable (LineP st x) := Classical.propDecidable _
noncomputable instance (n : Network) : Decidable (Good n) := Classical.propDecidable _
def Bd (n : Network) : Prop := n.Stops.length ≤ 1000 ∧ n.Lines.length ≤ 1000 ∧ ∀ x ∈ n.Lines, x.Stops.length ≤ 1000 ∧ x.Runs.length ≤ 1000
theorem areNames_eq (l : List ByteArray) (hl : l.length ≤ 1000) : zq11 l = some (decide (NamesP l)) := by
 unfold zq11
 rw [all_val (hd := Classical.propDecidable _) l (fun i x => NameOK x ∧ fixI (fun e => x.toList == e.toList) l = (i : Int)) (fun i x hx => ?_) (by unfold zq11_L1; simp)]
 ·by_cases h : NamesP l
  ·rw [if_pos (show ∀ (i : Nat) x, l[i]? = some x → NameOK x ∧ fixI (fun e => x.toList == e.toList) l = (i : Int) from h)]; simp [h]
  ·rw [if_neg (show ¬ ∀ (i : Nat) x, l[i]? = some x → NameOK x ∧ fixI (fun e => x.toList == e.toList) l = (i : Int) from h)]; simp [h]
 ·have hi := (List.getElem?_eq_some_iff.1 hx).1
  unfold zq11_L1
  have hlt : decide ((i : Int) < (l.length : Int)) = true := by simp; omega
  simp only [hlt, if_true, idx_nat, hx, Option.bind_some, isName_eq, index_str_eq l (by omega), w64_succ (n := i) (by omega)]
  by_cases h1 : NameOK x
  ·by_cases h2 : fixI (fun e => x.toList == e.toList) l = (i : Int)
   ·left; simp [h1, h2]
   ·right; simp [h1, h2]
  ·right; simp [h1]
theorem lineNames_eq (n : Network) (hl : n.Lines.length ≤ 1000) : zq28 n = some (n.Lines.map (·.Name)) := by
 unfold zq28
 rw [chk_of (by omega)]
 simp only [Option.bind_some]
 rw [fill_loop (fun x : Line => x.Name) n.Lines _ (by simp) (fun i a x y ha hy hx => ?_) (fun a ha => ?_)]
 ·rfl
 ·have hi := (List.getElem?_eq_some_iff.1 hx).1
  unfold zq28_L1
  have hlt : decide ((i : Int) < (n.Lines.length : Int)) = true := by simp; omega
  simp only [hlt, if_true, idx_nat, hx, hy, Option.bind_some, w64_succ (n := i) (by omega), Int.toNat_natCast]
 ·unfold zq28_L1; simp
theorem isStop_eq (n : Network) (e : Int) : zq25 n e = some (decide (0 ≤ e ∧ e < (n.Stops.length : Int))) := by
 unfold zq25
 by_cases h : 0 ≤ e <;> simp [h]
theorem isLine_eq (n : Network) (e : Int) : zq23 n e = some (decide (0 ≤ e ∧ e < (n.Lines.length : Int))) := by
 unfold zq23
 by_cases h : 0 ≤ e <;> simp [h]
theorem isValidLine_eq (n : Network) (l : Line) (h1 : l.Stops.length ≤ 1000) (h2 : l.Runs.length ≤ 1000) : zq26 n l = some (decide (LineP n.Stops.length l)) := by
 unfold zq26
 rw [within_eq]
 have e0 : w64 ((l.Stops.length : Int) - 1) = (l.Stops.length : Int) - 1 := w64_id (by omega)
 simp only [Option.bind_some, e0]
 by_cases a1 : 2 ≤ l.Stops.length ∧ l.Stops.length ≤ 6
 ·have d1 : decide ((2 : Int) ≤ (l.Stops.length : Int) ∧ (l.Stops.length : Int) ≤ 6) = true := by simp; omega
  simp only [d1, Bool.not_true, Bool.false_eq_true, if_false]
  by_cases a2 : (l.Runs.length : Int) = (l.Stops.length : Int) - 1
  ·have d2 : ((l.Runs.length : Int) != (l.Stops.length : Int) - 1) = false := by simp [a2]
   simp only [d2, Option.bind_some, Bool.false_eq_true, if_false]
   rw [all_val (hd := Classical.propDecidable _) l.Stops (fun i e => (0 ≤ e ∧ e < (n.Stops.length : Int)) ∧ fixI (fun y => e == y) l.Stops = (i : Int)) (fun i x hx => ?_) (by unfold zq26_L1; simp)]
   ·rw [all_val (hd := Classical.propDecidable _) l.Runs (fun i r => 1 ≤ r ∧ r ≤ 60) (fun i x hx => ?_) (by unfold zq26_L2; simp)]
    ·by_cases b1 : ∀ (i : Nat) e, l.Stops[i]? = some e → (0 ≤ e ∧ e < (n.Stops.length : Int)) ∧ fixI (fun y => e == y) l.Stops = (i : Int)
     ·rw [if_pos b1]
      by_cases b2 : ∀ (i : Nat) r, l.Runs[i]? = some r → 1 ≤ r ∧ r ≤ 60
      ·rw [if_pos b2]
       have : LineP n.Stops.length l := ⟨a1, a2, b1, b2⟩
       simp [this]
      ·rw [if_neg b2]
       have : ¬ LineP n.Stops.length l := fun h => b2 h.2.2.2
       simp [this]
     ·rw [if_neg b1]
      have : ¬ LineP n.Stops.length l := fun h => b1 h.2.2.1
      simp [this]
    ·have hi := (List.getElem?_eq_some_iff.1 hx).1
     unfold zq26_L2
     have hlt : decide ((i : Int) < (l.Runs.length : Int)) = true := by simp; omega
     simp only [hlt, if_true, idx_nat, hx, Option.bind_some, within_eq, w64_succ (n := i) (by omega)]
     by_cases b : 1 ≤ x ∧ x ≤ 60
     ·left; simp [b]
     ·right; simp [b]
   ·have hi := (List.getElem?_eq_some_iff.1 hx).1
    unfold zq26_L1
    have hlt : decide ((i : Int) < (l.Stops.length : Int)) = true := by simp; omega
    simp only [hlt, if_true, idx_nat, hx, Option.bind_some, isStop_eq, index_int_eq l.Stops (by omega), w64_succ (n := i) (by omega)]
    by_cases b1 : 0 ≤ x ∧ x < (n.Stops.length : Int)
    ·by_cases b2 : fixI (fun y => x == y) l.Stops = (i : Int)
     ·left; simp [b1, b2]
     ·right; simp [b1, b2]
    ·right; simp [b1]
  ·have d2 : ((l.Runs.length : Int) != (l.Stops.length : Int) - 1) = true := by simp [a2]
   have : ¬ LineP n.Stops.length l := fun h => a2 h.2.1
   simp [d2, this]
 ·have d1 : decide ((2 : Int) ≤ (l.Stops.length : Int) ∧ (l.Stops.length : Int) ≤ 6) = false := by simp; omega
  have : ¬ LineP n.Stops.length l := fun h => a1 h.1
  simp [d1, this]
theorem l2Line_eq (l : Line) (st : Nat) (hst : st ≤ 1000) (h1 : l.Stops.length ≤ 1000) (h2 : l.Runs.length ≤ 1000) : zq76 l (st : Int) = some (decide (NameOK l.Name ∧ LineP st l)) := by
 unfold zq76
 rw [l2Name_eq]
 have e0 : w64 ((l.Stops.length : Int) - 1) = (l.Stops.length : Int) - 1 := w64_id (by omega)
 have e1 : w64 ((st : Int) - 1) = (st : Int) - 1 := w64_id (by omega)
 simp only [Option.bind_some, e0, l1In_eq]
 by_cases a0 : NameOK l.Name
 ·simp only [a0, decide_true, Bool.not_true, Bool.false_eq_true, if_false, true_and]
  by_cases a1 : 2 ≤ l.Stops.length ∧ l.Stops.length ≤ 6
  ·have d1 : decide ((2 : Int) ≤ (l.Stops.length : Int) ∧ (l.Stops.length : Int) ≤ 6) = true := by simp; omega
   simp only [d1, Bool.not_true, Bool.false_eq_true, if_false]
   by_cases a2 : (l.Runs.length : Int) = (l.Stops.length : Int) - 1
   ·have d2 : ((l.Runs.length : Int) != (l.Stops.length : Int) - 1) = false := by simp [a2]
    simp only [d2, Option.bind_some, Bool.false_eq_true, if_false]
    rw [all_val (hd := Classical.propDecidable _) l.Stops (fun i e => (0 ≤ e ∧ e < (st : Int)) ∧ fixI (fun y => e == y) l.Stops = (i : Int)) (fun i x hx => ?_) (by unfold zq76_L1; simp)]
    ·rw [all_val (hd := Classical.propDecidable _) l.Runs (fun i r => 1 ≤ r ∧ r ≤ 60) (fun i x hx => ?_) (by unfold zq76_L2; simp)]
     ·by_cases b1 : ∀ (i : Nat) e, l.Stops[i]? = some e → (0 ≤ e ∧ e < (st : Int)) ∧ fixI (fun y => e == y) l.Stops = (i : Int)
      ·rw [if_pos b1]
       by_cases b2 : ∀ (i : Nat) r, l.Runs[i]? = some r → 1 ≤ r ∧ r ≤ 60
       ·rw [if_pos b2]
        have : LineP st l := ⟨a1, a2, b1, b2⟩
        simp [this]
       ·rw [if_neg b2]
        have : ¬ LineP st l := fun h => b2 h.2.2.2
        simp [this]
      ·rw [if_neg b1]
       have : ¬ LineP st l := fun h => b1 h.2.2.1
       simp [this]
     ·have hi := (List.getElem?_eq_some_iff.1 hx).1
      unfold zq76_L2
      have hlt : decide ((i : Int) < (l.Runs.length : Int)) = true := by simp; omega
      simp only [hlt, if_true, idx_nat, hx, Option.bind_some, l1In_eq, w64_succ (n := i) (by omega)]
      by_cases b : 1 ≤ x ∧ x ≤ 60
      ·left; simp [b]
      ·right; simp [b]
    ·have hi := (List.getElem?_eq_some_iff.1 hx).1
     unfold zq76_L1
     have hlt : decide ((i : Int) < (l.Stops.length : Int)) = true := by simp; omega
     simp only [hlt, if_true, idx_nat, hx, Option.bind_some, l1In_eq, e1, l2Place_eq l (by omega), w64_succ (n := i) (by omega)]
     by_cases b1 : 0 ≤ x ∧ x < (st : Int)
     ·have d3 : decide (0 ≤ x ∧ x ≤ (st : Int) - 1) = true := by simp; omega
      by_cases b2 : fixI (fun y => x == y) l.Stops = (i : Int)
      ·left; simp only [d3]; simp [b1, b2]
      ·right; simp only [d3]; simp [b1, b2]
     ·have d3 : decide (0 ≤ x ∧ x ≤ (st : Int) - 1) = false := by simp; omega
      right; simp only [d3]; simp [b1]
   ·have d2 : ((l.Runs.length : Int) != (l.Stops.length : Int) - 1) = true := by simp [a2]
    have : ¬ LineP st l := fun h => a2 h.2.1
    simp [d2, this]
  ·have d1 : decide ((2 : Int) ≤ (l.Stops.length : Int) ∧ (l.Stops.length : Int) ≤ 6) = false := by simp; omega
   have : ¬ LineP st l := fun h => a1 h.1
   simp [d1, this]
 ·simp [a0]
theorem valid_eq (n : Network) (h : Bd n) : zq5 n = some (decide (Good n)) := by
 obtain ⟨h1, h2, h3⟩ := h
 unfold zq5
 simp only [within_eq, Option.bind_some, areNames_eq n.Stops h1, lineNames_eq n h2, areNames_eq (n.Lines.map (·.Name)) (by simpa using h2)]
 by_cases a1 : 2 ≤ n.Stops.length ∧ n.Stops.length ≤ 8
 ·have d1 : decide ((2 : Int) ≤ (n.Stops.length : Int) ∧ (n.Stops.length : Int) ≤ 8) = true := by simp; omega
  simp only [d1, Bool.not_true, Bool.false_eq_true, if_false]
  by_cases a2 : 1 ≤ n.Lines.length ∧ n.Lines.length ≤ 5
  ·have d2 : decide ((1 : Int) ≤ (n.Lines.length : Int) ∧ (n.Lines.length : Int) ≤ 5) = true := by simp; omega
   simp only [d2, Bool.not_true, Bool.false_eq_true, if_false]
   by_cases a3 : NamesP n.Stops
   ·simp only [a3, decide_true, Bool.not_true, Bool.false_eq_true, if_false]
    by_cases a4 : NamesP (n.Lines.map (·.Name))
    ·simp only [a4, decide_true, Bool.not_true, Option.bind_some, Bool.false_eq_true, if_false]
     rw [all_val (hd := Classical.propDecidable _) n.Lines (fun i x => LineP n.Stops.length x) (fun i x hx => ?_) (by unfold zq5_L1; simp)]
     ·by_cases b1 : ∀ (i : Nat) x, n.Lines[i]? = some x → LineP n.Stops.length x
      ·rw [if_pos b1]
       have : Good n := ⟨a1, a2, a3, a4, b1⟩
       simp [this]
      ·rw [if_neg b1]
       have : ¬ Good n := fun h => b1 h.2.2.2.2
       simp [this]
     ·have hi := (List.getElem?_eq_some_iff.1 hx).1
      obtain ⟨g1, g2⟩ := h3 x (List.mem_of_getElem? hx)
      unfold zq5_L1
      have hlt : decide ((i : Int) < (n.Lines.length : Int)) = true := by simp; omega
      simp only [hlt, if_true, idx_nat, hx, Option.bind_some, isValidLine_eq n x g1 g2, w64_succ (n := i) (by omega)]
      by_cases b : LineP n.Stops.length x
      ·left; simp [b]
      ·right; simp [b]
    ·have : ¬ Good n := fun h => a4 h.2.2.2.1
     simp [a4, this]
   ·have : ¬ Good n := fun h => a3 h.2.2.1
    simp [a3, this]
  ·have d2 : decide ((1 : Int) ≤ (n.Lines.length : Int) ∧ (n.Lines.length : Int) ≤ 5) = false := by simp; omega
   have : ¬ Good n := fun h => a2 h.2.1
   simp [d2, this]
 ·have d1 : decide ((2 : Int) ≤ (n.Stops.length : Int) ∧ (n.Stops.length : Int) ≤ 8) = false := by simp; omega
  have : ¬ Good n := fun h => a1 h.1
  simp [d1, this]
theorem good_eq (n : Network) (h : Bd n) : zq75 n = some (decide (Good n)) := by
 obtain ⟨h1, h2, h3⟩ := h
 unfold zq75
 simp only [l1In_eq, Option.bind_some]
 by_cases a1 : 2 ≤ n.Stops.length ∧ n.Stops.length ≤ 8
 ·have d1 : decide ((2 : Int) ≤ (n.Stops.length : Int) ∧ (n.Stops.length : Int) ≤ 8) = true := by simp; omega
  simp only [d1, Bool.not_true, Bool.false_eq_true, if_false]
  by_cases a2 : 1 ≤ n.Lines.length ∧ n.Lines.length ≤ 5
  ·have d2 : decide ((1 : Int) ≤ (n.Lines.length : Int) ∧ (n.Lines.length : Int) ≤ 5) = true := by simp; omega
   simp only [d2, Bool.not_true, Option.bind_some, Bool.false_eq_true, if_false]
   rw [all_val (hd := Classical.propDecidable _) n.Stops (fun i x => NameOK x ∧ fixI (fun e => x.toList == e.toList) n.Stops = (i : Int)) (fun i x hx => ?_) (by unfold zq75_L1; simp)]
   ·rw [all_val (hd := Classical.propDecidable _) n.Lines (fun i x => (NameOK x.Name ∧ LineP n.Stops.length x) ∧ fixI (fun e => x.Name.toList == e.toList) (n.Lines.map (·.Name)) = (i : Int)) (fun i x hx => ?_) (by unfold zq75_L2; simp)]
    ·by_cases b1 : NamesP n.Stops
     ·rw [if_pos (show ∀ (i : Nat) x, n.Stops[i]? = some x → NameOK x ∧ fixI (fun e => x.toList == e.toList) n.Stops = (i : Int) from b1)]
      by_cases b2 : ∀ (i : Nat) x, n.Lines[i]? = some x → (NameOK x.Name ∧ LineP n.Stops.length x) ∧ fixI (fun e => x.Name.toList == e.toList) (n.Lines.map (·.Name)) = (i : Int)
      ·rw [if_pos b2]
       have : Good n := ⟨a1, a2, b1, fun i y hy => by
        rw [List.getElem?_map] at hy
        obtain ⟨x, hx, rfl⟩ := Option.map_eq_some_iff.1 hy
        exact ⟨(b2 i x hx).1.1, (b2 i x hx).2⟩, fun i x hx => (b2 i x hx).1.2⟩
       simp [this]
      ·rw [if_neg b2]
       have : ¬ Good n := fun h => b2 fun i x hx => by
        have h4 := h.2.2.2.1 i x.Name (by rw [List.getElem?_map, hx]; rfl)
        exact ⟨⟨h4.1, h.2.2.2.2 i x hx⟩, h4.2⟩
       simp [this]
     ·rw [if_neg (show ¬ ∀ (i : Nat) x, n.Stops[i]? = some x → NameOK x ∧ fixI (fun e => x.toList == e.toList) n.Stops = (i : Int) from b1)]
      have : ¬ Good n := fun h => b1 h.2.2.1
      simp [this]
    ·have hi := (List.getElem?_eq_some_iff.1 hx).1
     obtain ⟨g1, g2⟩ := h3 x (List.mem_of_getElem? hx)
     unfold zq75_L2
     have hlt : decide ((i : Int) < (n.Lines.length : Int)) = true := by simp; omega
     simp only [hlt, if_true, idx_nat, hx, Option.bind_some, l2Line_eq x n.Stops.length h1 g1 g2, l2LineNamed_eq n (by omega), w64_succ (n := i) (by omega)]
     by_cases b1 : NameOK x.Name ∧ LineP n.Stops.length x
     ·by_cases b2 : fixI (fun e => x.Name.toList == e.toList) (n.Lines.map (·.Name)) = (i : Int)
      ·left; simp [b1, b2]
      ·right; simp [b1, b2]
     ·right; simp [b1]
   ·have hi := (List.getElem?_eq_some_iff.1 hx).1
    unfold zq75_L1
    have hlt : decide ((i : Int) < (n.Stops.length : Int)) = true := by simp; omega
    simp only [hlt, if_true, idx_nat, hx, Option.bind_some, l2Name_eq, l2Find_eq n.Stops (by omega), w64_succ (n := i) (by omega)]
    by_cases b1 : NameOK x
    ·by_cases b2 : fixI (fun e => x.toList == e.toList) n.Stops = (i : Int)
     ·left; simp [b1, b2]
     ·right; simp [b1, b2]
    ·right; simp [b1]
  ·have d2 : decide ((1 : Int) ≤ (n.Lines.length : Int) ∧ (n.Lines.length : Int) ≤ 5) = false := by simp; omega
   have : ¬ Good n := fun h => a2 h.2.1
   simp [d2, this]
 ·have d1 : decide ((2 : Int) ≤ (n.Stops.length : Int) ∧ (n.Stops.length : Int) ≤ 8) = false := by simp; omega
  have : ¬ Good n := fun h => a1 h.1
  simp [d1, this]
theorem l1Own_eq (l : List Int) (h : l.length ≤ 1000) : zq64 l = some l := by
 unfold zq64
 rw [chk_of (by simp; omega)]; rfl
theorem l2Own_eq (n : Network) (h : Bd n) : zq79 n = some n := by
 obtain ⟨h1, h2, h3⟩ := h
 unfold zq79
 rw [chk_of (by simp; omega)]
 simp only [Option.bind_some]
 rw [app_loop (fun x : Line => x) n.Lines (fun i a x ha hx => ?_) (fun a ha => ?_)]
 ·simp only [Option.bind_some, List.map_id', List.nil_append]
 ·have hi := (List.getElem?_eq_some_iff.1 hx).1
  obtain ⟨g1, g2⟩ := h3 x (List.mem_of_getElem? hx)
  unfold zq79_L1
  have hlt : decide ((i : Int) < (n.Lines.length : Int)) = true := by simp; omega
  have hch : ∀ y : Line, chk (a.length + ([y] : List Line).length ≤ 4294967296) = some () := fun y => chk_of (by simp; omega)
  simp only [hlt, if_true, idx_nat, hx, Option.bind_some, l1Own_eq _ g1, l1Own_eq _ g2, hch, w64_succ (n := i) (by omega)]
 ·unfold zq79_L1; simp
theorem l2Own_t_eq (n : Network) (h : Bd n) : zq80 n = some n := by
 have : zq80 n = zq79 n := rfl
 rw [this]; exact l2Own_eq n h
theorem l2Back_eq (s : List Int) (hs : s.length ≤ 1000) : zq72 s = some s.reverse := by
 unfold zq72
 have e0 : w64 ((s.length : Int) - 1) = (s.length : Int) - 1 := w64_id (by omega)
 rw [e0]
 have h := iter_rule (step := zq72_L1 s) (fun m a => ∃ j : Nat, a.1 = (s.length : Int) - 1 - j ∧ m + j = s.length ∧ a.2 = s.reverse.take j) (fun b => b = s.reverse) ?_ (k := s.length) (a := ((s.length : Int) - 1, [])) ⟨0, by simp, by omega, by simp⟩
 ·obtain ⟨b, hb, rfl⟩ := h
  rw [hb]; rfl
 rintro m ⟨v, i⟩ ⟨j, hv, hm, hi⟩
 simp only at hv hi
 subst hv
 by_cases hlt : j < s.length
 ·left
  have ev : (s.length : Int) - 1 - j = ((s.length - 1 - j : Nat) : Int) := by omega
  rw [ev]
  obtain ⟨e, he⟩ := get_ex (l := s) (i := s.length - 1 - j) (by omega)
  have hd : decide ((0 : Int) ≤ ((s.length - 1 - j : Nat) : Int)) = true := by simp
  have hlen : i.length = j := by rw [hi]; simp; omega
  have hch : chk (i.length + ([e] : List Int).length ≤ 4294967296) = some () := chk_of (by simp; omega)
  have ev2 : w64 (((s.length - 1 - j : Nat) : Int) - 1) = (s.length : Int) - 1 - ((j + 1 : Nat) : Int) := by rw [w64_id (by omega)]; omega
  refine ⟨((s.length : Int) - 1 - ((j + 1 : Nat) : Int), i ++ [e]), m - 1, ?_, by omega, j + 1, rfl, by omega, ?_⟩
  ·unfold zq72_L1
   simp only [hd, if_true, idx_nat, he, hch, Option.bind_some, ev2]
  ·show i ++ [e] = _
   rw [take_succ (x := e) (by rw [List.getElem?_reverse hlt]; exact he), hi]
 ·right
  have ej : j = s.length := by omega
  subst ej
  have hd : decide ((0 : Int) ≤ (s.length : Int) - 1 - (s.length : Int)) = false := by simp; omega
  refine ⟨i, by unfold zq72_L1; simp only [hd, Bool.false_eq_true, if_false], ?_⟩
  rw [hi, List.take_of_length_le (by simp)]
theorem l2BackF_eq (s : List Int) (hs : s.length ≤ 1000) : zq73 s = some s.reverse := l2Back_eq s hs
def LB (x : Line) : Prop := (2 ≤ x.Stops.length ∧ x.Stops.length ≤ 10) ∧ 1 ≤ x.Runs.length ∧ x.Runs.length ≤ 10
def NB (n : Network) : Prop := (2 ≤ n.Stops.length ∧ n.Stops.length ≤ 6) ∧ (1 ≤ n.Lines.length ∧ n.Lines.length ≤ 8) ∧ ∀ x ∈ n.Lines, LB x
theorem NB.bd {n : Network} (h : NB n) : Bd n := ⟨by have := h.1; omega, by have := h.2.1; omega, fun x hx => by have := h.2.2 x hx; unfold LB at this; omega⟩
theorem l1Num_ok (n : Int) (h0 : 0 ≤ n) (h1 : n < 10) : ∃ r, zq62 n = some r ∧ r.size ≤ 10 := by
 have e : zq62 n = zq62_F (zq62_k 4294967295) n := rfl
 rw [e]
 unfold zq62_F
 have d1 : decide (n < 0) = false := by simp; omega
 have d2 : decide (n < 10) = true := by simp; omega
 have e1 : w64 (n + 1) = n + 1 := w64_id (by omega)
 have hs : (str [48, 49, 50, 51, 52, 53, 54, 55, 56, 57]).size = 10 := rfl
 simp only [d1, d2, Bool.false_eq_true, if_false, if_true, e1, hs]
 rw [chk_of (by omega)]
 refine ⟨_, rfl, ?_⟩
 rw [ByteArray.size_extract, hs]
 omega
theorem line_ok {k : Nat} {c : l1Cur} (name : ByteArray) (stops : Int) (hs : 2 ≤ stops ∧ stops ≤ 1000) (h : Cur k c) (hk : k ≤ 1000000000) : ∃ r, zq47 c name stops = some r ∧ Cur (k + 40) r.2 ∧ LB r.1 := by
 unfold zq47
 obtain ⟨r, hr, hc, h0, h1⟩ := pick_ok stops h (by omega)
 obtain ⟨r1, hr1, hc1, h10, h11⟩ := pick_ok 3 hc (by omega)
 simp only [hr, hr1, Option.bind_some]
 have e1 : w64 (2 + r1.1) = ((2 + r1.1.toNat : Nat) : Int) := by rw [w64_id (by omega)]; omega
 rw [e1]
 have loop : ∃ b, iter (zq47_L1 name stops) (r.1, ((2 + r1.1.toNat : Nat) : Int), r1.2.code_, r1.2.at_, r1.2.seed_.v, []) = some b ∧ (Cur (k + 4 + 2 * 4) ⟨b.1, b.2.1, ⟨b.2.2.1⟩⟩ ∧ 1 ≤ b.2.2.2.length ∧ b.2.2.2.length ≤ 4) := by
  refine iter_rule (fun m a => (0 ≤ a.1 ∧ a.1 < stops) ∧ a.2.1 = (m : Int) ∧ m + a.2.2.2.2.2.length ≤ 4 ∧ (1 ≤ m ∨ 1 ≤ a.2.2.2.2.2.length) ∧ Cur (k + 4 + 2 * (4 - m)) ⟨a.2.2.1, a.2.2.2.1, ⟨a.2.2.2.2.1⟩⟩) _ ?_ (k := 2 + r1.1.toNat) ⟨⟨h0, by show r.1 < stops; omega⟩, rfl, by simp; omega, .inl (by omega), hc1.mono (by omega)⟩
  rintro m ⟨v, v1, v2, v3, v4, v5⟩ ⟨hv, hv1, hl, hne, hcur⟩
  simp only at hv hv1 hl hne hcur
  subst hv1
  unfold zq47_L1
  cases m with
  | zero => right; exact ⟨_, by simp; rfl, hcur, by show 1 ≤ v5.length; omega, by show v5.length ≤ 4; omega⟩
  | succ m =>
   left
   have hpos : decide ((0 : Int) < ((m + 1 : Nat) : Int)) = true := by simp
   obtain ⟨r3, hr3, hc3, h30, h31⟩ := pick_ok 2 hcur (by omega)
   have hpl := l2Place_eq (⟨name, v5, []⟩ : Line) (by show v5.length ≤ _; omega) v
   have hch : chk (v5.length + ([v] : List Int).length ≤ 4294967296) = some () := chk_of (by simp; omega)
   have hne0 : chk (stops ≠ 0) = some () := chk_of (by omega)
   have w1 : w64 (v + 1) = v + 1 := w64_id (by omega)
   have w2 : w64 (v + 1 + r3.1) = v + 1 + r3.1 := w64_id (by omega)
   have ht := tmod_rng (a := v + 1 + r3.1) (b := stops) (by omega) (by omega)
   simp only [hpos, if_true, hpl, hch, hr3, hne0, w1, w2, Option.bind_some]
   have w3 : w64 (((m + 1 : Nat) : Int) - 1) = (m : Int) := w64_pred (by omega)
   split
   ·refine ⟨_, m, by simp only [Option.bind_some]; rfl, by omega, ht, w3, ?_, .inr ?_, ?_⟩
    ·simp; omega
    ·simp
    ·exact hc3.mono (by omega)
   ·rename_i hn
    refine ⟨_, m, by simp only [Option.bind_some]; rfl, by omega, ht, w3, ?_, .inr ?_, ?_⟩
    ·show m + v5.length ≤ 4; omega
    ·show 1 ≤ v5.length
     cases v5 with
     | nil => simp [fixI] at hn
     | cons a l => simp
    ·exact hc3.mono (by omega)
 obtain ⟨⟨v7, v8, v9, v10⟩, hb, hcb, hlb⟩ := loop
 simp only at hcb hlb
 rw [hb]
 simp only [Option.bind_some]
 -- at least two stops
 have two : ∃ v11 : List Int, (if decide ((v10.length : Int) < 2) = true then (idx v10 0).bind fun e1 => (chk ((stops : Int) ≠ 0)).bind fun u4 => (chk (v10.length + ([((w64 (e1 + 1)).tmod stops)] : List Int).length ≤ 4294967296)).bind fun u5 => some (v10 ++ ([((w64 (e1 + 1)).tmod stops)] : List Int)) else some v10) = some v11 ∧ 2 ≤ v11.length ∧ v11.length ≤ 5 := by
  by_cases h2 : (v10.length : Int) < 2
  ·obtain ⟨e, he, _⟩ := idx_lt (l := v10) (i := 0) (by omega) (by omega)
   have hch : ∀ y : Int, chk (v10.length + ([y] : List Int).length ≤ 4294967296) = some () := fun y => chk_of (by simp; omega)
   have hne0 : chk (stops ≠ 0) = some () := chk_of (by omega)
   refine ⟨v10 ++ [(w64 (e + 1)).tmod stops], by simp only [h2, decide_true, if_true, he, hne0, hch, Option.bind_some], ?_, ?_⟩
   ·simp; omega
   ·simp; omega
  ·exact ⟨v10, by simp [h2], by omega, by omega⟩
 obtain ⟨v11, hv11, l1, l2⟩ := two
 rw [hv11]
 simp only [Option.bind_some]
 have loop2 : ∃ b, iter (zq47_L2 v11) (1, v7, v8, v9, []) = some b ∧ (Cur (k + 40) ⟨b.1, b.2.1, ⟨b.2.2.1⟩⟩ ∧ b.2.2.2.length + 1 = v11.length) := by
  refine iter_rule (fun m a => ∃ i : Nat, a.1 = (i : Int) ∧ m + i = v11.length ∧ a.2.2.2.2.length + 1 = i ∧ Cur (k + 12 + 2 * i) ⟨a.2.1, a.2.2.1, ⟨a.2.2.2.1⟩⟩) _ ?_ (k := v11.length - 1) ⟨1, rfl, by omega, rfl, hcb.mono (by omega)⟩
  rintro m ⟨v12, v13, v14, v15, v16⟩ ⟨i, hi, hm, hl, hcur⟩
  simp only at hi hl hcur
  subst hi
  unfold zq47_L2
  by_cases hlt : i < v11.length
  ·left
   have hd : decide ((i : Int) < (v11.length : Int)) = true := by simp; omega
   obtain ⟨r5, hr5, hc5, _⟩ := pick_ok 12 hcur (by omega)
   have hch : ∀ y : Int, chk (v16.length + ([y] : List Int).length ≤ 4294967296) = some () := fun y => chk_of (by simp; omega)
   refine ⟨_, m - 1, by simp only [hd, if_true, hr5, hch, Option.bind_some, w64_succ (n := i) (by omega)]; rfl, by omega, i + 1, rfl, by omega, ?_, ?_⟩
   ·simp; omega
   ·exact hc5.mono (by omega)
  ·right
   have hd : decide ((i : Int) < (v11.length : Int)) = false := by simp; omega
   refine ⟨_, by simp only [hd, Bool.false_eq_true, if_false]; rfl, ?_, ?_⟩
   ·exact hcur.mono (by omega)
   ·show v16.length + 1 = _; omega
 obtain ⟨⟨v17, v18, v19, v20⟩, hb2, hcb2, hl2⟩ := loop2
 simp only at hcb2 hl2
 rw [hb2]
 simp only [Option.bind_some]
 exact ⟨_, rfl, hcb2, ⟨l1, by show v11.length ≤ 10; omega⟩, by show 1 ≤ v20.length; omega, by show v20.length ≤ 10; omega⟩
theorem lineF_ok {k : Nat} {c : l1Cur} (name : ByteArray) (stops : Int) (hs : 2 ≤ stops ∧ stops ≤ 1000) (h : Cur k c) (hk : k ≤ 1000000000) : ∃ r, zq48 c name stops = some r ∧ Cur (k + 40) r.2 ∧ LB r.1 := line_ok name stops hs h hk
theorem six_len (i : Nat) (h2 : 2 ≤ i) (h6 : i ≤ 6) (l : List ByteArray) (hl : l.length = 6) : 2 ≤ ((l.take i).drop (0 : Int).toNat).length ∧ ((l.take i).drop (0 : Int).toNat).length ≤ 6 := by
 simp; omega
theorem networkT_ok {k : Nat} {c : l1Cur} (h : Cur k c) (hk : k ≤ 500000000) : ∃ r, zq50 c = some r ∧ Cur (k + 300) r.2 ∧ NB r.1 := by
 unfold zq50
 obtain ⟨r, hr, hc, h0, h1⟩ := pick_ok 5 h (by omega)
 have e1 : w64 (2 + r.1) = 2 + r.1 := w64_id (by omega)
 have hsix : ([(str [112, 111, 114, 116]), (str [109, 105, 108, 108]), (str [112, 97, 114, 107]), (str [104, 97, 108, 108]), (str [100, 111, 99, 107]), (str [102, 97, 105, 114])] : List ByteArray).length = 6 := rfl
 simp only [hr, Option.bind_some, e1, hsix]
 rw [chk_of (by omega)]
 obtain ⟨r1, hr1, hc1, h10, h11⟩ := pick_ok 3 hc (by omega)
 have e2 : w64 (1 + r1.1) = ((1 + r1.1.toNat : Nat) : Int) := by rw [w64_id (by omega)]; omega
 simp only [hr1, Option.bind_some, e2]
 have loop : ∃ b, iter (zq50_L1 r) (((1 + r1.1.toNat : Nat) : Int), r1.2.code_, r1.2.at_, r1.2.seed_.v, []) = some b ∧ (Cur (k + 4 + 40 * 3) ⟨b.1, b.2.1, ⟨b.2.2.1⟩⟩ ∧ (1 ≤ b.2.2.2.length ∧ b.2.2.2.length ≤ 3) ∧ ∀ x ∈ b.2.2.2, LB x) := by
  refine iter_rule (fun m a => a.1 = (m : Int) ∧ m + a.2.2.2.2.length ≤ 3 ∧ 1 ≤ m + a.2.2.2.2.length ∧ (∀ x ∈ a.2.2.2.2, LB x) ∧ Cur (k + 4 + 40 * (3 - m)) ⟨a.2.1, a.2.2.1, ⟨a.2.2.2.1⟩⟩) _ ?_ (k := 1 + r1.1.toNat) ⟨rfl, by simp; omega, by simp, by simp, hc1.mono (by omega)⟩
  rintro m ⟨x, v, v1, v2, v3⟩ ⟨hx, hl, hl1, hlb, hcur⟩
  simp only at hx hl hl1 hlb hcur
  subst hx
  unfold zq50_L1
  cases m with
  | zero => right; exact ⟨_, by simp; rfl, hcur, ⟨by show 1 ≤ v3.length; omega, by show v3.length ≤ 3; omega⟩, hlb⟩
  | succ m =>
   left
   have hpos : decide ((0 : Int) < ((m + 1 : Nat) : Int)) = true := by simp
   obtain ⟨r4, hr4, hs4⟩ := l1Num_ok ((m + 1 : Nat) : Int) (by omega) (by omega)
   have hs : (str [108]).size = 1 := rfl
   have hch : chk ((str [108]).size + r4.size ≤ 4294967296) = some () := chk_of (by omega)
   obtain ⟨r5, hr5, hc5, hb5⟩ := lineF_ok (str [108] ++ r4) (2 + r.1) (by omega) hcur (by omega)
   have hch2 : ∀ y : Line, chk (v3.length + ([y] : List Line).length ≤ 4294967296) = some () := fun y => chk_of (by simp; omega)
   refine ⟨_, m, by simp only [hpos, if_true, hr4, hch, e1, hr5, hch2, Option.bind_some]; rfl, by omega, ?_, ?_, ?_, ?_, ?_⟩
   ·exact w64_pred (by omega)
   ·simp; omega
   ·simp; omega
   ·intro y hy
    rcases List.mem_append.1 hy with hy | hy
    ·exact hlb y hy
    ·simp at hy; subst hy; exact hb5
   ·exact hc5.mono (by omega)
 obtain ⟨⟨v4, v5, v6, v7⟩, hb, hcb, hlb, hall⟩ := loop
 simp only at hcb hlb hall
 rw [hb]
 simp only [Option.bind_some]
 obtain ⟨r6, hr6, hc6⟩ := one_ok 2 hcb (by omega)
 simp only [hr6, Option.bind_some]
 have fin : ∀ (v8 : List UInt8) (v9 v10 : Int) (v11 : List Line), Cur (k + 200) ⟨v8, v9, ⟨v10⟩⟩ → (1 ≤ v11.length ∧ v11.length ≤ 8) → (∀ x ∈ v11, LB x) →
   ∃ r', ((zq80 (⟨((([(str [112, 111, 114, 116]), (str [109, 105, 108, 108]), (str [112, 97, 114, 107]), (str [104, 97, 108, 108]), (str [100, 111, 99, 107]), (str [102, 97, 105, 114])] : List ByteArray).take (2 + r.1).toNat).drop (0 : Int).toNat), v11⟩ : Network)).bind fun r11 => some ((⟨r11.Stops, r11.Lines⟩ : Network), (⟨v8, v9, (⟨v10⟩ : IK .u64)⟩ : l1Cur))) = some r' ∧ Cur (k + 300) r'.2 ∧ NB r'.1 := by
  intro v8 v9 v10 v11 g1 g2 g3
  have hst := six_len (2 + r.1).toNat (by omega) (by omega) _ hsix
  have hnb : NB (⟨((([(str [112, 111, 114, 116]), (str [109, 105, 108, 108]), (str [112, 97, 114, 107]), (str [104, 97, 108, 108]), (str [100, 111, 99, 107]), (str [102, 97, 105, 114])] : List ByteArray).take (2 + r.1).toNat).drop (0 : Int).toNat), v11⟩ : Network) := ⟨hst, g2, g3⟩
  rw [l2Own_t_eq _ hnb.bd]
  exact ⟨_, rfl, g1.mono (by omega), hnb⟩
 split
 ·obtain ⟨e, he, _, hem⟩ := idx_lt (l := v7) (i := 0) (by omega) (by omega)
  obtain ⟨g1, g2⟩ := hall e hem
  have hch2 : ∀ y : Line, chk (v7.length + ([y] : List Line).length ≤ 4294967296) = some () := fun y => chk_of (by simp; omega)
  simp only [he, l2BackF_eq e.Stops (by omega), l2BackF_eq e.Runs (by omega), hch2, Option.bind_some]
  refine fin _ _ _ _ (hc6.mono (by omega)) (by simp; omega) fun y hy => ?_
  rcases List.mem_append.1 hy with hy | hy
  ·exact hall y hy
  ·simp at hy; subst hy
   exact ⟨by simpa using g1, by simpa using g2⟩
 ·simp only [Option.bind_some]
  exact fin _ _ _ _ (hc6.mono (by omega)) (by omega) hall
theorem anyNetwork_ok {k : Nat} {c : l1Cur} (h : Cur k c) (hk : k ≤ 200000000) : ∃ r, zq44 c = some r ∧ Cur (k + 1000) r.2 ∧ Bd r.1 := by
 unfold zq44
 obtain ⟨r, hr, hc, hnb⟩ := networkT_ok h (by omega)
 obtain ⟨n1, n2, n3⟩ := hnb
 obtain ⟨r1, hr1, hc1, h10, h11⟩ := pick_ok (r.1.Lines.length : Int) hc (by omega)
 obtain ⟨e, he, he2, hem⟩ := idx_lt (l := r.1.Lines) (i := r1.1) h10 (by omega)
 obtain ⟨g1, g2⟩ := n3 e hem
 obtain ⟨r2, hr2, hc2, _⟩ := pick_ok 24 hc1 (by omega)
 simp only [hr, hr1, he, hr2, Option.bind_some]
 have fin : ∀ (v : List UInt8) (v1 v2 : Int) (v3 : ByteArray) (v4 : List ByteArray) (v5 : List Line) (v6 : List Int), Cur (k + 900) ⟨v, v1, ⟨v2⟩⟩ → v4.length ≤ 6 → v5.length = r.1.Lines.length → (∀ x ∈ v5, LB x) → v6.length ≤ 11 →
   ∃ r', ((idx v5 r1.1).bind fun e9 => some ((⟨v4, (v5.set r1.1.toNat (⟨v3, e9.Stops, v6⟩ : Line))⟩ : Network), (⟨v, v1, (⟨v2⟩ : IK .u64)⟩ : l1Cur))) = some r' ∧ Cur (k + 1000) r'.2 ∧ Bd r'.1 := by
  intro v v1 v2 v3 v4 v5 v6 q1 q2 q3 q4 q5
  obtain ⟨e9, he9, _, hm9⟩ := idx_lt (l := v5) (i := r1.1) h10 (by omega)
  rw [he9]
  refine ⟨_, rfl, q1.mono (by omega), by show v4.length ≤ _; omega, by simp; omega, fun x hx => ?_⟩
  rcases List.mem_or_eq_of_mem_set hx with hx | hx
  ·have := q4 x hx
   unfold LB at this; omega
  ·subst hx
   have := q4 e9 hm9
   unfold LB at this
   exact ⟨by show e9.Stops.length ≤ _; omega, by show v6.length ≤ _; omega⟩
 split
 ·obtain ⟨r4, hr4, hc4, _⟩ := ofw_ok ([(str [109, 105, 108, 108]), (str []), (str [65]), (str [97, 98, 99, 100, 101, 102, 103, 104]), (str [97, 98, 99, 100, 101, 102, 103, 104, 105])] : List ByteArray) (by simp) hc2 (by omega)
  obtain ⟨e2, he2', _⟩ := idx_lt (l := r.1.Stops) (i := 0) (by omega) (by omega)
  simp only [hr4, he2', Option.bind_some, flb_go]
  exact fin _ _ _ _ _ _ _ (hc4.mono (by omega)) (by simp; omega) rfl n3 (by omega)
 split
 ·obtain ⟨r5, hr5, hc5, _⟩ := ofw_ok ([(str [114, 49]), (str [108, 49]), (str []), (str [88])] : List ByteArray) (by simp) hc2 (by omega)
  simp only [hr5, Option.bind_some, flb_go]
  exact fin _ _ _ _ _ _ _ (hc5.mono (by omega)) (by omega) rfl n3 (by omega)
 split
 ·obtain ⟨r8, hr8, hc8, h80, h81⟩ := pick_ok (e.Stops.length : Int) hc2 (by omega)
  obtain ⟨r9, hr9, hc9, _⟩ := pick_ok 10 hc8 (by omega)
  obtain ⟨e4, he4, _⟩ := idx_lt (l := e.Stops) (i := r8.1) h80 (by omega)
  simp only [hr8, hr9, he4, Option.bind_some, flb_go]
  refine fin _ _ _ _ _ _ _ (hc9.mono (by omega)) (by omega) (by simp) (fun x hx => ?_) (by show e.Runs.length ≤ 11; omega)
  rcases List.mem_or_eq_of_mem_set hx with hx | hx
  ·exact n3 x hx
  ·subst hx; exact ⟨by simpa using g1, g2⟩
 split
 ·obtain ⟨r12, hr12, hc12, h120, h121⟩ := pick_ok (e.Runs.length : Int) hc2 (by omega)
  obtain ⟨r13, hr13, hc13, _⟩ := amongw_ok ([0, 60, 61, (-1)] : List Int) (by simp) hc12 (by omega)
  obtain ⟨e6, he6, _⟩ := idx_lt (l := e.Runs) (i := r12.1) h120 (by omega)
  simp only [hr12, hr13, he6, Option.bind_some, flb_go]
  refine fin _ _ _ _ _ _ _ (hc13.mono (by omega)) (by omega) (by simp) (fun x hx => ?_) (by simp; omega)
  rcases List.mem_or_eq_of_mem_set hx with hx | hx
  ·exact n3 x hx
  ·subst hx; exact ⟨g1, by simpa using g2⟩
 split
 ·have hch : chk (e.Runs.length + ([3] : List Int).length ≤ 4294967296) = some () := chk_of (by simp; omega)
  simp only [hch, Option.bind_some, flb_go]
  exact fin _ _ _ _ _ _ _ (hc2.mono (by omega)) (by omega) rfl n3 (by simp; omega)
 split
 ·simp only [flb_ret]
  exact ⟨_, rfl, hc2.mono (by omega), by show r.1.Stops.length ≤ _; omega, by simp, by simp⟩
 split
 ·have loop : ∃ b, iter (zq44_L1 r) (0, r2.2.code_, r2.2.at_, r2.2.seed_.v, r.1.Lines) = some b ∧ (Cur (k + 900) ⟨b.1, b.2.1, ⟨b.2.2.1⟩⟩ ∧ b.2.2.2.length ≤ 20 ∧ ∀ x ∈ b.2.2.2, LB x) := by
   refine iter_rule (fun m a => ∃ i : Nat, a.1 = (i : Int) ∧ m + i = 8 ∧ i ≤ 7 ∧ a.2.2.2.2.length ≤ 8 + i ∧ (∀ x ∈ a.2.2.2.2, LB x) ∧ Cur (k + 310 + 50 * i) ⟨a.2.1, a.2.2.1, ⟨a.2.2.2.1⟩⟩) _ ?_ (k := 8) ⟨0, rfl, rfl, by omega, by simpa using n2.2, n3, hc2.mono (by omega)⟩
   rintro m ⟨v7, v8, v9, v10, v11⟩ ⟨i, hi, hm, hi7, hl, hlb, hcur⟩
   simp only at hi hl hlb hcur
   subst hi
   unfold zq44_L1
   obtain ⟨r16, hr16, hc16, h160, h161⟩ := pick_ok 2 hcur (by omega)
   have w1 : w64 (5 + r16.1) = 5 + r16.1 := w64_id (by omega)
   simp only [hr16, w1, Option.bind_some]
   by_cases a1 : (v11.length : Int) < 5 + r16.1 ∧ (i : Int) < 7
   ·left
    have d1 : decide ((v11.length : Int) < 5 + r16.1) = true := by simp; omega
    have d2 : decide ((i : Int) < 7) = true := by simp; omega
    obtain ⟨r19, hr19, hs19⟩ := l1Num_ok (i : Int) (by omega) (by omega)
    have hs : (str [120]).size = 1 := rfl
    have hch : chk ((str [120]).size + r19.size ≤ 4294967296) = some () := chk_of (by omega)
    obtain ⟨r20, hr20, hc20, hb20⟩ := line_ok (str [120] ++ r19) (r.1.Stops.length : Int) (by omega) hc16 (by omega)
    have hch2 : ∀ y : Line, chk (v11.length + ([y] : List Line).length ≤ 4294967296) = some () := fun y => chk_of (by simp; omega)
    refine ⟨_, m - 1, by simp only [d1, d2, if_true, hr19, hch, hr20, hch2, Option.bind_some, w64_succ (n := i) (by omega)]; rfl, by omega, i + 1, rfl, by omega, by omega, ?_, fun x hx => ?_, ?_⟩
    ·simp; omega
    ·rcases List.mem_append.1 hx with hx | hx
     ·exact hlb x hx
     ·simp at hx; subst hx; exact hb20
    ·exact hc20.mono (by omega)
   ·right
    have hcond : (if decide ((v11.length : Int) < 5 + r16.1) = true then some (decide ((i : Int) < 7)) else some false) = some false := by
     by_cases b1 : (v11.length : Int) < 5 + r16.1
     ·have : decide ((i : Int) < 7) = false := by simp; omega
      simp [b1, this]
     ·simp [b1]
    refine ⟨_, by simp only [hcond, Option.bind_some, Bool.false_eq_true, if_false]; rfl, ?_, ?_, hlb⟩
    ·exact hc16.mono (by omega)
    ·show v11.length ≤ 20; omega
  obtain ⟨⟨v13, v14, v15, v16⟩, hb, hcb, hlb, hall⟩ := loop
  simp only at hcb hlb hall
  rw [hb]
  simp only [Option.bind_some, flb_ret]
  refine ⟨_, rfl, hcb.mono (by omega), by show r.1.Stops.length ≤ _; omega, by show v16.length ≤ _; omega, fun x hx => ?_⟩
  have := hall x hx
  unfold LB at this; omega
 ·simp only [flb_go]
  exact fin _ _ _ _ _ _ _ (hc2.mono (by omega)) (by omega) rfl n3 (by omega)
def TB (t : Timetable) : Prop := Bd t.Network ∧ t.Trips.length ≤ 1000
def TripP (n : Network) (x : Trip) : Prop := (1 ≤ x.Id ∧ x.Id ≤ 999) ∧ ∃ l, idx n.Lines x.Line = some l ∧ (0 ≤ x.Start ∧ x.Start ≤ 1799) ∧ 0 ≤ x.Start + l.Runs.sum ∧ x.Start + l.Runs.sum ≤ 1799
def GoodT (t : Timetable) : Prop := Good t.Network ∧ t.Trips.length ≤ 12 ∧ (∀ (i : Nat) x, t.Trips[i]? = some x → TripP t.Network x) ∧ ∀ (i : Nat) a b, t.Trips[i]? = some a → t.Trips[i + 1]? = some b → a.Id < b.Id
noncomputable instance (t : Timetable) : Decidable (GoodT t) := Classical.propDecidable _
noncomputable instance (n : Network) (x : Trip) : Decidable (TripP n x) := Classical.propDecidable _
theorem time_eq (t : Int) : zq6 t = some (decide (0 ≤ t ∧ t ≤ 1799)) := by
 unfold zq6; rw [within_eq]; rfl
theorem l4Time_eq (t : Int) : zq84 t = some (decide (0 ≤ t ∧ t ≤ 1799)) := by
 unfold zq84; rw [l1In_eq]; rfl
theorem total_eq (l : List Int) (h1 : l.length ≤ 1000000) (h2 : ∀ x ∈ l, 0 ≤ x ∧ x ≤ 1000000) : zq33 l = some l.sum := by
 unfold zq33
 rw [sum_loop (fun x : Int => x) l h1 h2 (fun i s x hx => ?_) (fun s => ?_)]
 ·simp
 ·have := get_lt hx
  unfold zq33_L1
  simp (disch := omega) only [if_pos, if_neg, decide_eq_true_eq, decide_true, decide_false, Bool.not_true, Bool.not_false, Bool.false_eq_true, Bool.not_eq_true', decide_eq_false_iff_not, if_true, if_false, w64_id, chk_of, idx_nat, Option.bind_some, Option.map_some, Int.toNat_natCast, not_true_eq_false, not_false_eq_true, true_and, and_true, and_self, false_and, and_false, reduceIte, flb_go, flb_ret, beq_self_eq_true, ne_eq, bne_self_eq_false, Int.ofNat_lt.2 this, hx]
 ·unfold zq33_L1; simp
theorem l2Run_eq (x : Line) (a b : Nat) (hab : a ≤ b) (hb : b ≤ x.Runs.length) (hl : x.Runs.length ≤ 1000) (h2 : ∀ r ∈ x.Runs, 0 ≤ r ∧ r ≤ 1000000) : zq82 x (a : Int) (b : Int) = some (((x.Runs.take b).drop a).sum) := by
 unfold zq82
 refine Tot.val (.call (P := fun v => v = ((x.Runs.take b).drop a).sum) ?_ fun v h => .ok h)
 refine .iter (fun m s => ∃ k : Nat, s.2 = ((a + k : Nat) : Int) ∧ m + k = b - a ∧ s.1 = (((x.Runs.take b).drop a).take k).sum) (n := b - a) ⟨0, by simp, by omega, by simp⟩ ?_
 rintro m ⟨s, v⟩ ⟨k, hk, hm, hs⟩
 simp only at hk hs
 subst hk
 unfold zq82_L1
 refine .iteP (fun hc => ?_) (fun hc => .dn ?_)
 ·obtain ⟨r, hr⟩ := get_ex (l := x.Runs) (i := a + k) (by omega)
  have hr2 : ((x.Runs.take b).drop a)[k]? = some r := by
   rw [List.getElem?_drop, List.getElem?_take_of_lt (by omega)]; exact hr
  have hb1 := h2 r (List.mem_of_getElem? hr)
  have hb2 := sum_bd (l := ((x.Runs.take b).drop a).take k) (M := 1000000) fun y hy => h2 y (List.mem_of_mem_take (List.mem_of_mem_drop (List.mem_of_mem_take hy)))
  have hlen : ((((x.Runs.take b).drop a).take k).length : Int) ≤ 1000 := by simp; omega
  rw [← hs] at hb2
  refine .eq (by rw [idx_nat]; exact hr) (.nx ⟨m - 1, by omega, k + 1, ?_, by omega, ?_⟩)
  ·show w64 (((a + k : Nat) : Int) + 1) = _
   rw [w64_id (by omega)]; omega
  ·show w64 (s + r) = _
   rw [w64_id (by omega), sum_take_succ hr2, hs]
 ·rw [hs, List.take_of_length_le (by rw [List.length_drop, List.length_take]; omega)]
theorem good_line {n : Network} (h : Good n) {k : Int} {l : Line} (hl : idx n.Lines k = some l) : LineP n.Stops.length l := h.2.2.2.2 _ l (idx_some hl).2.2
theorem line_runs {st : Nat} {l : Line} (h : LineP st l) : (l.Runs.length + 1 = l.Stops.length ∧ 1 ≤ l.Runs.length ∧ l.Runs.length ≤ 5) ∧ ∀ r ∈ l.Runs, 1 ≤ r ∧ r ≤ 60 := by
 obtain ⟨h1, h2, h3, h4⟩ := h
 refine ⟨by omega, fun r hr => ?_⟩
 obtain ⟨i, hi⟩ := List.getElem?_of_mem hr
 exact h4 i r hi
theorem runs_sum {st : Nat} {l : Line} (h : LineP st l) (k : Nat) : 0 ≤ (l.Runs.take k).sum ∧ (l.Runs.take k).sum ≤ 300 := by
 obtain ⟨⟨h1, h2, h3⟩, h4⟩ := line_runs h
 have := sum_bd (l := l.Runs.take k) (M := 60) fun x hx => by have := h4 x (List.mem_of_mem_take hx); omega
 have hl : ((l.Runs.take k).length : Int) ≤ 5 := by simp; omega
 omega
theorem runs_sum' {st : Nat} {l : Line} (h : LineP st l) : 0 ≤ l.Runs.sum ∧ l.Runs.sum ≤ 300 := by
 have := runs_sum h l.Runs.length
 rwa [List.take_length] at this
theorem endOf_eq {t : Timetable} (hg : Good t.Network) {x : Trip} {l : Line} (hl : idx t.Network.Lines x.Line = some l) (hs : 0 ≤ x.Start ∧ x.Start ≤ 1799) : zq21 t x = some (x.Start + l.Runs.sum) := by
 have h := good_line hg hl
 obtain ⟨⟨h1, h2, h3⟩, h4⟩ := line_runs h
 have h5 := runs_sum' h
 unfold zq21
 rw [hl]
 simp only [Option.bind_some]
 rw [total_eq l.Runs (by omega) (fun x hx => by have := h4 x hx; omega)]
 simp (disch := omega) only [if_pos, if_neg, decide_eq_true_eq, decide_true, decide_false, Bool.not_true, Bool.not_false, Bool.false_eq_true, Bool.not_eq_true', decide_eq_false_iff_not, if_true, if_false, w64_id, chk_of, idx_nat, Option.bind_some, Option.map_some, Int.toNat_natCast, not_true_eq_false, not_false_eq_true, true_and, and_true, and_self, false_and, and_false, reduceIte, flb_go, flb_ret, beq_self_eq_true, ne_eq, bne_self_eq_false]
theorem l5Line_eq {t : Timetable} {i : Nat} {x : Trip} {l : Line} (hx : t.Trips[i]? = some x) (hl : idx t.Network.Lines x.Line = some l) : zq90 t (i : Int) = some l := by
 unfold zq90
 simp (disch := omega) only [if_pos, if_neg, decide_eq_true_eq, decide_true, decide_false, Bool.not_true, Bool.not_false, Bool.false_eq_true, Bool.not_eq_true', decide_eq_false_iff_not, if_true, if_false, w64_id, chk_of, idx_nat, Option.bind_some, Option.map_some, Int.toNat_natCast, not_true_eq_false, not_false_eq_true, true_and, and_true, and_self, false_and, and_false, reduceIte, flb_go, flb_ret, beq_self_eq_true, ne_eq, bne_self_eq_false, hx, hl]
theorem l5Stops_eq {t : Timetable} {i : Nat} {x : Trip} {l : Line} (hx : t.Trips[i]? = some x) (hl : idx t.Network.Lines x.Line = some l) : zq91 t (i : Int) = some l.Stops := by
 unfold zq91
 rw [l5Line_eq hx hl]; rfl
theorem l5At_eq {t : Timetable} (hg : Good t.Network) {i : Nat} {x : Trip} {l : Line} (hx : t.Trips[i]? = some x) (hl : idx t.Network.Lines x.Line = some l) (hs : 0 ≤ x.Start ∧ x.Start ≤ 1799) {k : Nat} (hk : k ≤ l.Runs.length) : zq86 t (i : Int) (k : Int) = some (x.Start + (l.Runs.take k).sum) := by
 have h := good_line hg hl
 obtain ⟨⟨h1, h2, h3⟩, h4⟩ := line_runs h
 have h5 := runs_sum h k
 have e := l2Run_eq l 0 k (by omega) hk (by omega) (fun x hx => by have := h4 x hx; omega)
 rw [List.drop_zero] at e
 have e' : zq82 l 0 (k : Int) = some (l.Runs.take k).sum := e
 unfold zq86
 simp (disch := omega) only [if_pos, if_neg, decide_eq_true_eq, decide_true, decide_false, Bool.not_true, Bool.not_false, Bool.false_eq_true, Bool.not_eq_true', decide_eq_false_iff_not, if_true, if_false, w64_id, chk_of, idx_nat, Option.bind_some, Option.map_some, Int.toNat_natCast, not_true_eq_false, not_false_eq_true, true_and, and_true, and_self, false_and, and_false, reduceIte, flb_go, flb_ret, beq_self_eq_true, ne_eq, bne_self_eq_false, hx, l5Line_eq hx hl, e']
theorem l5End_eq {t : Timetable} (hg : Good t.Network) {i : Nat} {x : Trip} {l : Line} (hx : t.Trips[i]? = some x) (hl : idx t.Network.Lines x.Line = some l) (hs : 0 ≤ x.Start ∧ x.Start ≤ 1799) : zq87 t (i : Int) = some (x.Start + l.Runs.sum) := by
 have h := good_line hg hl
 obtain ⟨⟨h1, h2, h3⟩, h4⟩ := line_runs h
 have e : w64 ((l.Stops.length : Int) - 1) = (l.Runs.length : Int) := by rw [w64_id (by omega)]; omega
 unfold zq87
 rw [l5Stops_eq hx hl]
 simp only [Option.bind_some, e, l5At_eq hg hx hl hs (Nat.le_refl _), List.take_length]
def TripsP (t : Timetable) : Prop := (∀ (i : Nat) x, t.Trips[i]? = some x → TripP t.Network x) ∧ ∀ (i : Nat) a b, t.Trips[i]? = some a → t.Trips[i + 1]? = some b → a.Id < b.Id
noncomputable instance (t : Timetable) : Decidable (TripsP t) := Classical.propDecidable _
theorem trip_i {t : Timetable} (hb : TB t) (hg : Good t.Network) (x : Trip) (last : Int) (hlast : 0 ≤ last) : ((if (decide (x.Id ≤ last)) = true then some true else if (decide (999 < x.Id)) = true then some true else (zq23 t.Network x.Line).bind fun r =>
   if (!r) = true then some true else (zq6 x.Start).bind fun r1 =>
   if (!r1) = true then some true else (zq21 t x).bind fun r2 =>
   (zq6 r2).bind fun r3 =>
   some (!r3))) = some (!decide (last < x.Id ∧ TripP t.Network x)) := by
 by_cases c1 : x.Id ≤ last
 ·have : ¬ (last < x.Id ∧ TripP t.Network x) := fun h => by omega
  simp [c1, this]
 ·by_cases c2 : 999 < x.Id
  ·have : ¬ (last < x.Id ∧ TripP t.Network x) := fun h => by have := h.2.1; omega
   simp [c1, c2, this]
  ·simp only [isLine_eq, time_eq, Option.bind_some, c1, c2, decide_false, Bool.false_eq_true, if_false]
   by_cases c3 : 0 ≤ x.Line ∧ x.Line < (t.Network.Lines.length : Int)
   ·obtain ⟨l, hl, _⟩ := idx_lt (l := t.Network.Lines) c3.1 c3.2
    by_cases c4 : 0 ≤ x.Start ∧ x.Start ≤ 1799
    ·have hT : (last < x.Id ∧ TripP t.Network x) ↔ (0 ≤ x.Start + l.Runs.sum ∧ x.Start + l.Runs.sum ≤ 1799) := by
      constructor
      ·rintro ⟨_, _, l', hl', _, h⟩
       rw [hl] at hl'; cases hl'; exact h
      ·intro h; exact ⟨by omega, ⟨by omega, by omega⟩, l, hl, c4, h⟩
     simp only [c3, c4, and_self, decide_true, Bool.not_true, Bool.false_eq_true, if_false, endOf_eq hg hl c4, time_eq, Option.bind_some, hT]
    ·have : ¬ (last < x.Id ∧ TripP t.Network x) := fun h => by
      obtain ⟨_, _, l', _, h4, _⟩ := h
      exact c4 h4
     simp only [c3, c4, this, and_self, decide_true, decide_false, Bool.not_true, Bool.not_false, Bool.false_eq_true, if_false, if_true]
   ·have : ¬ (last < x.Id ∧ TripP t.Network x) := fun h => by
     obtain ⟨_, _, l', hl', _⟩ := h
     have := idx_some hl'
     exact c3 ⟨this.1, this.2.1⟩
    simp only [c3, this, decide_false, Bool.not_false, if_true]
theorem areTrips_eq {t : Timetable} (hb : TB t) (hg : Good t.Network) : zq13 t = some (decide (t.Trips.length ≤ 12 ∧ TripsP t)) := by
 unfold zq13
 by_cases h12 : t.Trips.length ≤ 12
 ·have d : decide ((12 : Int) < (t.Trips.length : Int)) = false := by simp; omega
  have e : decide (t.Trips.length ≤ 12 ∧ TripsP t) = decide (TripsP t) := by simp [h12]
  rw [d, e]
  simp only [Bool.false_eq_true, if_false]
  refine flb_dec (.iter (fun m a => ∃ i : Nat, a.2 = (i : Int) ∧ m + i = t.Trips.length ∧ 0 ≤ a.1 ∧ (∀ y, 0 < i → t.Trips[i - 1]? = some y → a.1 = y.Id) ∧ (i = 0 → a.1 = 0) ∧ (∀ (j : Nat) x, j < i → t.Trips[j]? = some x → TripP t.Network x) ∧ ∀ (j : Nat) a b, j + 1 < i → t.Trips[j]? = some a → t.Trips[j + 1]? = some b → a.Id < b.Id)
   (n := t.Trips.length) ⟨0, rfl, rfl, by simp, by simp, by simp, fun j x h => by omega, fun j a b h => by omega⟩ ?_)
  rintro m ⟨last, v⟩ ⟨i, hv, hm, h0, h1, h2, h3, h4⟩
  simp only at hv h0 h1 h2
  subst hv
  unfold zq13_L1
  refine .iteP (fun hc => ?_) (fun hc => .dn (.inl ⟨rfl, fun j x hx => h3 j x (by have := get_lt hx; omega) hx, fun j a b ha hb' => h4 j a b (by have := get_lt hb'; omega) ha hb'⟩))
  obtain ⟨x, hx⟩ := get_ex (l := t.Trips) (i := i) (by omega)
  refine .eq (by rw [idx_nat]; exact hx) (.eq (trip_i hb hg x last h0) (.iteN (fun hn => .dn (.inr ⟨rfl, fun hp => hn ⟨?_, hp.1 i x hx⟩⟩)) (fun hp => .nx ⟨m - 1, by omega, i + 1, w64_succ (by omega), by omega, ?_, ?_, by simp, ?_, ?_⟩)))
  ·by_cases hi : i = 0
   ·rw [h2 hi]; have := (hp.1 i x hx).1; omega
   ·obtain ⟨y, hy⟩ := get_ex (l := t.Trips) (i := i - 1) (by omega)
    rw [h1 y (by omega) hy]
    exact hp.2 (i - 1) y x hy (by rw [show i - 1 + 1 = i by omega]; exact hx)
  ·show 0 ≤ x.Id
   have := hp.2.1; omega
  ·intro y _ hy
   rw [show i + 1 - 1 = i by omega, hx] at hy; cases hy; rfl
  ·intro j y hj hy
   by_cases hji : j = i
   ·subst hji; rw [hx] at hy; cases hy; exact hp.2
   ·exact h3 j y (by omega) hy
  ·intro j a b hj ha hb'
   by_cases hji : j + 1 = i
   ·subst hji; rw [hx] at hb'; cases hb'
    have := h1 a (by omega) (by simpa using ha)
    omega
   ·exact h4 j a b (by omega) ha hb'
 ·have d : decide ((12 : Int) < (t.Trips.length : Int)) = true := by simp; omega
  simp [d, h12]
def TripQ (t : Timetable) (i : Nat) (x : Trip) : Prop := TripP t.Network x ∧ ∀ y, 0 < i → t.Trips[i - 1]? = some y → y.Id < x.Id
noncomputable instance (t : Timetable) (i : Nat) (x : Trip) : Decidable (TripQ t i x) := Classical.propDecidable _
theorem goodT_iff (t : Timetable) : GoodT t ↔ Good t.Network ∧ t.Trips.length ≤ 12 ∧ TripsP t := Iff.rfl
theorem validT_eq {t : Timetable} (hb : TB t) : zq7 t = some (decide (GoodT t)) := by
 unfold zq7
 rw [valid_eq _ hb.1]
 by_cases hg : Good t.Network
 ·simp only [hg, decide_true, if_true, Option.bind_some, areTrips_eq hb hg, goodT_iff, true_and]
 ·have : ¬ GoodT t := fun h => hg h.1
  simp [hg, this]
theorem goodT_eq {t : Timetable} (hb : TB t) : zq89 t = some (decide (GoodT t)) := by
 unfold zq89
 rw [good_eq _ hb.1]
 by_cases hg : Good t.Network
 ·by_cases h12 : t.Trips.length ≤ 12
  ·have d : decide ((12 : Int) < (t.Trips.length : Int)) = false := by simp; omega
   have e : decide (GoodT t) = decide (TripsP t) := by rw [decide_eq_decide, goodT_iff]; simp [hg, h12]
   simp only [hg, decide_true, Bool.not_true, Bool.false_eq_true, if_false, Option.bind_some, d, e]
   refine flb_dec (.iter (fun m a => ∃ i : Nat, a = (i : Int) ∧ m + i = t.Trips.length ∧ (∀ (j : Nat) x, j < i → t.Trips[j]? = some x → TripP t.Network x) ∧ ∀ (j : Nat) a b, j + 1 < i → t.Trips[j]? = some a → t.Trips[j + 1]? = some b → a.Id < b.Id)
    (n := t.Trips.length) ⟨0, rfl, rfl, fun j x h => by omega, fun j a b h => by omega⟩ ?_)
   rintro m v ⟨i, hv, hm, h3, h4⟩
   subst hv
   unfold zq89_L1
   refine .iteP (fun hc => ?_) (fun hc => .dn (.inl ⟨rfl, fun j x hx => h3 j x (by have := get_lt hx; omega) hx, fun j a b ha hb' => h4 j a b (by have := get_lt hb'; omega) ha hb'⟩))
   obtain ⟨x, hx⟩ := get_ex (l := t.Trips) (i := i) (by omega)
   refine .eq (by rw [idx_nat]; exact hx) ?_
   have hll := hg.2.1
   have ew : w64 ((t.Network.Lines.length : Int) - 1) = (t.Network.Lines.length : Int) - 1 := w64_id (by omega)
   have key : ((zq60 x.Id 1 999).bind fun r6 =>
   (if (!r6) = true then some true else (zq60 x.Line 0 (w64 ((t.Network.Lines.length : Int) - 1))).bind fun r7 =>
   if (!r7) = true then some true else (zq84 x.Start).bind fun r8 =>
   if (!r8) = true then some true else (zq87 t (i : Int)).bind fun r9 =>
   (zq84 r9).bind fun r10 =>
   if (!r10) = true then some true else if (decide (0 < (i : Int))) = true then (idx t.Trips (w64 ((i : Int) - 1))).bind fun e2 =>
   some (decide (x.Id ≤ e2.Id)) else some false)) = some (!decide (TripQ t i x)) := by
    have no : ¬ TripP t.Network x → (!decide (TripQ t i x)) = true := fun h => (by simp [show ¬ TripQ t i x from fun q => h q.1])
    simp only [l1In_eq, l4Time_eq, ew, Option.bind_some]
    by_cases c1 : 1 ≤ x.Id ∧ x.Id ≤ 999
    ·by_cases c3 : 0 ≤ x.Line ∧ x.Line ≤ (t.Network.Lines.length : Int) - 1
     ·obtain ⟨l, hl, _⟩ := idx_lt (l := t.Network.Lines) c3.1 (by omega)
      by_cases c4 : 0 ≤ x.Start ∧ x.Start ≤ 1799
      ·simp only [c1, c3, c4, and_self, decide_true, Bool.not_true, Bool.false_eq_true, if_false, l5End_eq hg hx hl c4, l4Time_eq, Option.bind_some]
       by_cases c5 : 0 ≤ x.Start + l.Runs.sum ∧ x.Start + l.Runs.sum ≤ 1799
       ·have hT : TripP t.Network x := ⟨c1, l, hl, c4, c5⟩
        simp only [c5, and_self, decide_true, Bool.not_true, Bool.false_eq_true, if_false, ]
        by_cases c6 : 0 < i
        ·obtain ⟨y, hy⟩ := get_ex (l := t.Trips) (i := i - 1) (by omega)
         have e1 : w64 ((i : Int) - 1) = ((i - 1 : Nat) : Int) := by rw [w64_id (by omega)]; omega
         have c6' : (0 : Int) < (i : Int) := by omega
         simp only [c6', decide_true, if_true, e1, idx_nat, hy, Option.bind_some, Option.some.injEq]
         by_cases c7 : x.Id ≤ y.Id
         ·have : ¬ TripQ t i x := fun h => by have := h.2 y c6 hy; omega
          simp only [c7, decide_true, this, decide_false, Bool.not_false]
         ·have : TripQ t i x := ⟨hT, fun z _ hz => by rw [hy] at hz; cases hz; omega⟩
          simp only [c7, decide_false, this, decide_true, Bool.not_true]
        ·have c6' : ¬ (0 : Int) < (i : Int) := by omega
         have : TripQ t i x := ⟨hT, fun z h0 _ => absurd h0 c6⟩
         simp only [c6', decide_false, Bool.false_eq_true, if_false, this, decide_true, Bool.not_true]
       ·rw [no (fun hT => by
         obtain ⟨_, l', hl', _, h⟩ := hT
         rw [hl] at hl'; cases hl'; exact c5 h)]
        simp only [c5, decide_false, Bool.not_false, if_true]
      ·rw [no (fun hT => by obtain ⟨_, l', _, h, _⟩ := hT; exact c4 h)]
       simp only [c1, c3, c4, and_self, decide_true, decide_false, Bool.not_true, Bool.not_false, Bool.false_eq_true, if_false, if_true]
     ·rw [no (fun hT => by
       obtain ⟨_, l', hl', _⟩ := hT
       have := idx_some hl'
       exact c3 ⟨this.1, by omega⟩)]
      simp only [c1, c3, and_self, decide_true, decide_false, Bool.not_true, Bool.not_false, Bool.false_eq_true, if_false, if_true]
    ·rw [no (fun hT => c1 hT.1)]
     simp only [c1, decide_false, Bool.not_false, if_true]
   rw [bind_assoc', key]
   refine .iteN (fun hn => .dn (.inr ⟨rfl, fun hp => hn ⟨hp.1 i x hx, fun y hi hy => hp.2 (i - 1) y x hy (by rw [show i - 1 + 1 = i by omega]; exact hx)⟩⟩)) (fun hp => .nx ⟨m - 1, by omega, i + 1, w64_succ (by omega), by omega, ?_, ?_⟩)
   ·intro j y hj hy
    by_cases hji : j = i
    ·subst hji; rw [hx] at hy; cases hy; exact hp.1
    ·exact h3 j y (by omega) hy
   ·intro j a b hj ha hb'
    by_cases hji : j + 1 = i
    ·subst hji; rw [hx] at hb'; cases hb'
     exact hp.2 a (by omega) (by simpa using ha)
    ·exact h4 j a b (by omega) ha hb'
  ·have d : decide ((12 : Int) < (t.Trips.length : Int)) = true := by simp; omega
   have : ¬ GoodT t := fun h => h12 h.2.1
   simp [hg, d, this]
 ·have : ¬ GoodT t := fun h => hg h.1
  simp [hg, this]
theorem tripIndex_eq (t : Timetable) (h : t.Trips.length ≤ 1000) (id : Int) : zq34 t id = some (fixI (fun x => x.Id == id) t.Trips) := by
 unfold zq34 zq93 zq92
 rw [find_val t.Trips (fun x => x.Id == id) (fun i x hx => ?_) (by unfold zq92_L1; simp)]
 ·rfl
 ·have := get_lt hx
  unfold zq92_L1 zq35
  simp (disch := omega) only [if_pos, if_neg, decide_eq_true_eq, decide_true, decide_false, Bool.not_true, Bool.not_false, Bool.false_eq_true, Bool.not_eq_true', decide_eq_false_iff_not, if_true, if_false, w64_id, chk_of, idx_nat, Option.bind_some, Option.map_some, Int.toNat_natCast, not_true_eq_false, not_false_eq_true, true_and, and_true, and_self, false_and, and_false, reduceIte, flb_go, flb_ret, beq_self_eq_true, ne_eq, bne_self_eq_false, hx, Int.ofNat_lt.2 this]
  split <;> simp [*] <;> omega
theorem l5Find_eq (t : Timetable) (h : t.Trips.length ≤ 1000) (id : Int) : zq88 t id = some (fixI (fun x => x.Id == id) t.Trips) := by
 unfold zq88
 rw [find_val t.Trips (fun x => x.Id == id) (fun i x hx => ?_) (by unfold zq88_L1; simp)]
 have := get_lt hx
 unfold zq88_L1
 simp (disch := omega) only [if_pos, if_neg, decide_eq_true_eq, decide_true, decide_false, Bool.not_true, Bool.not_false, Bool.false_eq_true, Bool.not_eq_true', decide_eq_false_iff_not, if_true, if_false, w64_id, chk_of, idx_nat, Option.bind_some, Option.map_some, Int.toNat_natCast, not_true_eq_false, not_false_eq_true, true_and, and_true, and_self, false_and, and_false, reduceIte, flb_go, flb_ret, beq_self_eq_true, ne_eq, bne_self_eq_false, hx, Int.ofNat_lt.2 this]
 split <;> simp [*] <;> omega
theorem lineOf_eq {t : Timetable} {x : Trip} {l : Line} (hl : idx t.Network.Lines x.Line = some l) : zq29 t x = some l := by
 unfold zq29; rw [hl]; rfl
theorem trip_line {t : Timetable} (h : GoodT t) {i : Nat} {x : Trip} (hx : t.Trips[i]? = some x) : ∃ l, idx t.Network.Lines x.Line = some l ∧ LineP t.Network.Stops.length l ∧ (1 ≤ x.Id ∧ x.Id ≤ 999) ∧ (0 ≤ x.Start ∧ x.Start ≤ 1799) ∧ 0 ≤ x.Start + l.Runs.sum ∧ x.Start + l.Runs.sum ≤ 1799 := by
 obtain ⟨h1, l, hl, h2, h3⟩ := h.2.2.1 i x hx
 exact ⟨l, hl, good_line h.1 hl, h1, h2, h3⟩
def ST (l : Line) (s : Int) : List Int := (List.range (l.Runs.length + 1)).map fun k => s + (l.Runs.take k).sum
theorem ST_len (l : Line) (s : Int) : (ST l s).length = l.Runs.length + 1 := by simp [ST]
theorem ST_at {l : Line} {s : Int} {k : Nat} (hk : k ≤ l.Runs.length) : (ST l s)[k]? = some (s + (l.Runs.take k).sum) := by
 unfold ST; rw [List.getElem?_map, List.getElem?_range (by omega)]; rfl
theorem stopTimes_eq {t : Timetable} {x : Trip} {l : Line} {st : Nat} (hl : idx t.Network.Lines x.Line = some l) (hp : LineP st l) (hs : 0 ≤ x.Start ∧ x.Start ≤ 1799) : zq32 t x = some (ST l x.Start) := by
 obtain ⟨⟨h1, h2, h3⟩, h4⟩ := line_runs hp
 unfold zq32
 rw [lineOf_eq hl]
 simp only [Option.bind_some]
 refine Tot.val (.call (P := fun v => v = ST l x.Start) ?_ fun v h => .ok h)
 refine .iter (fun m s => ∃ k : Nat, s.1 = (k : Int) ∧ m + k = l.Runs.length ∧ s.2 = (ST l x.Start).take (k + 1)) (n := l.Runs.length) ⟨0, rfl, rfl, ?_⟩ ?_
 ·rw [take_succ (x := x.Start) (by have := ST_at (l := l) (s := x.Start) (k := 0) (by omega); simpa using this)]; rfl
 ·rintro m ⟨v, r⟩ ⟨k, hk, hm, hr⟩
  simp only at hk hr
  subst hk
  unfold zq32_L1
  have hlen := ST_len l x.Start
  refine .iteP (fun hc => ?_) (fun hc => .dn (by rw [hr, List.take_of_length_le (by omega)]))
  obtain ⟨e, he⟩ := get_ex (l := l.Runs) (i := k) (by omega)
  have hk1 := ST_at (l := l) (s := x.Start) (k := k) (by omega)
  have hk2 := ST_at (l := l) (s := x.Start) (k := k + 1) (by omega)
  have b1 := runs_sum hp k
  have b2 := h4 e (List.mem_of_getElem? he)
  refine .eq (by rw [idx_nat]; exact he) (.eq (by rw [idx_nat, hr, List.getElem?_take_of_lt (by omega)]; exact hk1) (.chk (by rw [hr]; simp; omega) (.nx ⟨m - 1, by omega, k + 1, w64_succ (by omega), by omega, ?_⟩)))
  show r ++ [w64 (x.Start + (l.Runs.take k).sum + e)] = _
  rw [take_succ hk2, hr, w64_id (by omega), sum_take_succ he, Int.add_assoc]
theorem found_or {t : Timetable} (id : Int) : (fixI (fun x => x.Id == id) t.Trips < 0 ∧ ∀ (k : Nat) y, t.Trips[k]? = some y → y.Id ≠ id) ∨ ∃ (k : Nat) (y : Trip), t.Trips[k]? = some y ∧ y.Id = id := by
 by_cases h : fixI (fun x => x.Id == id) t.Trips < 0
 ·refine .inl ⟨h, fun k y hy => ?_⟩
  have := fixI_neg h y (List.mem_of_getElem? hy)
  simpa using this
 ·obtain ⟨k, y, _, h2, h3, _⟩ := idx_fix h
  exact .inr ⟨k, y, h2, by simpa using h3⟩
theorem anyNet_ok {k : Nat} {c : l1Cur} (h : Cur k c) (hk : k ≤ 200000000) : Tot (zq44 c) fun r => Cur (k + 1000) r.2 ∧ Bd r.1 := anyNetwork_ok h hk
def DT (t : Timetable) : Prop := Bd t.Network ∧ t.Trips.length ≤ 30
theorem DT.tb {t : Timetable} (h : DT t) : TB t := ⟨h.1, by have := h.2; omega⟩
theorem timetable_ok {k : Nat} {c : l1Cur} (h : Cur k c) (hk : k ≤ 100000000) : Tot (zq59 c) fun r => Cur (k + 400) r.2 ∧ DT r.1 ∧ NB r.1.Network ∧ r.1.Trips.length ≤ 8 := by
 unfold zq59
 refine .call (networkT_ok h (by omega)) fun r ⟨hc, hn⟩ => .call (pick_ok 8 hc (by omega)) fun r1 ⟨hc1, h0, h1⟩ => ?_
 refine .call (P := fun o => Cur (k + 400) ⟨o.1, o.2.1, ⟨o.2.2.1⟩⟩ ∧ o.2.2.2.length ≤ 8) ?_ fun o ⟨ho1, ho2⟩ => .ok ⟨ho1, ⟨hn.bd, by show o.2.2.2.length ≤ 30; omega⟩, hn, ho2⟩
 refine .iter (fun m s => s.2.1 = (m : Int) ∧ m + s.2.2.2.2.2.length ≤ 8 ∧ Cur (k + 302 + 6 * (8 - m)) ⟨s.2.2.1, s.2.2.2.1, ⟨s.2.2.2.2.1⟩⟩) (n := r1.1.toNat) ⟨by show r1.1 = _; omega, by show r1.1.toNat + 0 ≤ 8; omega, hc1.mono (by omega)⟩ ?_
 rintro m ⟨n, v, v1, v2, v3, v4⟩ ⟨hv, hl, hcur⟩
 simp only at hv hl hcur
 subst hv
 unfold zq59_L1
 refine .iteP (fun hc => ?_) (fun hc => .dn ⟨hcur.mono (by omega), by show v4.length ≤ 8; omega⟩)
 refine .call (pick_ok 3 hcur (by omega)) fun r2 ⟨hc2, _⟩ => .call (pick_ok _ hc2 (by omega)) fun r5 ⟨hc5, _⟩ => .call (pick_ok 24 hc5 (by omega)) fun r6 ⟨hc6, _⟩ => .chk (by simp; omega) (.nx ⟨m - 1, by omega, ?_, ?_, ?_⟩)
 ·show w64 ((m : Int) - 1) = _; rw [w64_id (by omega)]; omega
 ·show m - 1 + (v4 ++ [_]).length ≤ 8; simp; omega
 ·exact hc6.mono (by omega)
theorem anyTimetable_ok {k : Nat} {c : l1Cur} (h : Cur k c) (hk : k ≤ 50000000) : Tot (zq45 c) fun r => Cur (k + 2000) r.2 ∧ DT r.1 := by
 unfold zq45
 refine .call (timetable_ok h (by omega)) fun r ⟨hc, hd, hn, hl⟩ => ?_
 refine .ite (fun _ => .ok ⟨hc.mono (by omega), hd⟩) fun he => ?_
 have hpos : 0 < r.1.Trips.length := by
  have : (r.1.Trips.length : Int) ≠ 0 := by simpa using he
  omega
 refine .call (pick_ok _ hc (by omega)) fun r1 ⟨hc1, h10, h11⟩ => ?_
 have h12 : r1.1 < (r.1.Trips.length : Int) := by omega
 refine .idx h10 h12 fun e _ => ?_
 have fin : ∀ (v : List UInt8) (v1 v2 : Int) (v3 : List Line) (v4 v5 v6 : Int) (v7 : List ByteArray), Cur (k + 2000) ⟨v, v1, ⟨v2⟩⟩ → Bd ⟨v7, v3⟩ → Tot ((idx r.1.Trips r1.1).bind fun e2 => some ((⟨(⟨v7, v3⟩ : Network), (r.1.Trips.set r1.1.toNat (⟨v4, v5, v6⟩ : Trip))⟩ : Timetable), (⟨v, v1, (⟨v2⟩ : IK .u64)⟩ : l1Cur))) fun r => Cur (k + 2000) r.2 ∧ DT r.1 := fun v v1 v2 v3 v4 v5 v6 v7 q1 q2 =>
  .idx h10 h12 fun e2 _ => .ok ⟨q1, q2, by show (r.1.Trips.set _ _).length ≤ 30; rw [List.length_set]; omega⟩
 refine .flb (.call (pick_ok 24 hc1 (by omega)) fun r2 ⟨hc2, _⟩ => ?_)
 refine .ite (fun _ => .call (among_ok _ (by simp) hc2 (by omega)) fun r3 ⟨hc3, _⟩ => .go (fin _ _ _ _ _ _ _ _ (hc3.mono (by omega)) hd.1)) fun _ => ?_
 refine .ite (fun _ => .call (pick_ok 7 hc2 (by omega)) fun r3 ⟨hc3, _⟩ => .go (fin _ _ _ _ _ _ _ _ (hc3.mono (by omega)) hd.1)) fun _ => ?_
 refine .ite (fun _ => .call (among_ok _ (by simp) hc2 (by omega)) fun r3 ⟨hc3, _⟩ => .go (fin _ _ _ _ _ _ _ _ (hc3.mono (by omega)) hd.1)) fun _ => ?_
 refine .ite (fun _ => .call (anyNet_ok hc2 (by omega)) fun r3 ⟨hc3, hb⟩ => .go (fin _ _ _ _ _ _ _ _ (hc3.mono (by omega)) hb)) fun _ => ?_
 refine .ite (fun _ => ?_) fun _ => .go (fin _ _ _ _ _ _ _ _ (hc2.mono (by omega)) hd.1)
 refine .call (P := fun o => Cur (k + 2000) ⟨o.1, o.2.1, ⟨o.2.2.1⟩⟩ ∧ o.2.2.2.length ≤ 30) ?_ fun o ⟨ho1, ho2⟩ => .ret ⟨ho1, hd.1, ho2⟩
 refine .iter (fun m s => ∃ i : Nat, s.1 = (i : Int) ∧ m + i = 14 ∧ s.2.2.2.2.length ≤ 8 + i ∧ Cur (k + 500 + 2 * i) ⟨s.2.1, s.2.2.1, ⟨s.2.2.2.1⟩⟩) (n := 14) ⟨0, rfl, rfl, by simpa using hl, hc2.mono (by omega)⟩ ?_
 rintro m ⟨v8, v9, v10, v11, v12⟩ ⟨i, hv, hm, hl12, hcur⟩
 simp only at hv hl12 hcur
 subst hv
 unfold zq45_L1
 refine .call (pick_ok 2 hcur (by omega)) fun r8 ⟨hc8, _⟩ => ?_
 refine .call (P := fun b => b = true → i < 14) (.ite (fun _ => .ok fun hb => by simp at hb; omega) fun _ => .ok fun hb => by cases hb) fun b hb => ?_
 refine .ite (fun ht => .chk (by simp; omega) (.nx ⟨m - 1, by have := hb ht; omega, i + 1, w64_succ (by omega), by have := hb ht; omega, ?_, hc8.mono (by omega)⟩)) (fun _ => .dn ⟨hc8.mono (by omega), by show v12.length ≤ 30; omega⟩)
 show (v12 ++ [_]).length ≤ 8 + (i + 1); simp; omega
theorem t_pick {k : Nat} {c : l1Cur} (n : Int) (h : Cur k c) (hk : k ≤ 3000000000) : Tot (zq56 c n) fun r => Cur (k + 2) r.2 ∧ 0 ≤ r.1 ∧ (r.1 < n ∨ r.1 = 0) := pick_ok n h hk
theorem t_one {k : Nat} {c : l1Cur} (n : Int) (h : Cur k c) (hk : k ≤ 3000000000) : Tot (zq55 c n) fun r => Cur (k + 2) r.2 := one_ok n h hk
theorem t_among {k : Nat} {c : l1Cur} (l : List Int) (hl : l ≠ []) (h : Cur k c) (hk : k ≤ 3000000000) : Tot (zq42 c l) fun r => Cur (k + 2) r.2 ∧ r.1 ∈ l := among_ok l hl h hk
theorem t_amongw {k : Nat} {c : l1Cur} (l : List Int) (hl : l ≠ []) (h : Cur k c) (hk : k ≤ 3000000000) : Tot (zq43 c l) fun r => Cur (k + 2) r.2 ∧ r.1 ∈ l := amongw_ok l hl h hk
theorem t_time {k : Nat} {c : l1Cur} (h : Cur k c) (hk : k ≤ 2000000000) : Tot (zq58 c) fun r => Cur (k + 4) r.2 := by
 unfold zq58
 refine Tot.call (t_one 16 h (by omega)) fun r hr => .ite (fun _ => ?_) (fun _ => ?_)
 ·exact Tot.call (t_among _ (by simp) hr (by omega)) fun r hr => .ok hr.1
 ·exact Tot.call (t_pick 240 hr (by omega)) fun r hr => .ok hr.1
theorem compare_int (x y : Int) : zq0 x y = some (if x < y then -1 else if y < x then 1 else 0) := by
 unfold zq0 zq2
 by_cases h : x < y
 ·simp [h]
 ·by_cases h2 : y < x <;> simp [h, h2]
def DelP (t : Timetable) (d : TripDelay) : Prop := (∃ (k : Nat) (y : Trip), t.Trips[k]? = some y ∧ y.Id = d.Id) ∧ 0 ≤ d.Minutes ∧ d.Minutes ≤ 600
def GoodD (t : Timetable) (l : List TripDelay) : Prop := ∀ (i : Nat) d, l[i]? = some d → DelP t d ∧ ∀ z, 0 < i → l[i - 1]? = some z → z.Id < d.Id
noncomputable instance (t : Timetable) (l : List TripDelay) : Decidable (GoodD t l) := Classical.propDecidable _
noncomputable instance (t : Timetable) (d : TripDelay) : Decidable (DelP t d) := Classical.propDecidable _
theorem tripIx_neg {t : Timetable} (id : Int) : fixI (fun x => x.Id == id) t.Trips < 0 ↔ ¬ ∃ (k : Nat) (y : Trip), t.Trips[k]? = some y ∧ y.Id = id := by
 constructor
 ·rintro h ⟨k, y, h1, h2⟩
  have := fixI_neg h y (List.mem_of_getElem? h1)
  simp at this; exact this h2
 ·intro h
  rcases found_or (t := t) id with h1 | ⟨k, y, h1, h2⟩
  ·exact h1.1
  ·exact absurd ⟨k, y, h1, h2⟩ h
theorem areDelays_eq {t : Timetable} (hb : TB t) (hT : GoodT t) (l : List TripDelay) (hl : l.length ≤ 100000) : zq12 t l = some (decide (GoodD t l)) := by
 unfold zq12
 refine flb_dec (.iter (fun m s => ∃ i : Nat, s.2 = (i : Int) ∧ m + i = l.length ∧ (i = 0 → s.1 = 0) ∧ (∀ x, 0 < i → l[i - 1]? = some x → s.1 = x.Id) ∧ ∀ (j : Nat) d, j < i → l[j]? = some d → DelP t d ∧ ∀ z, 0 < j → l[j - 1]? = some z → z.Id < d.Id) (n := l.length) ⟨0, rfl, by omega, fun _ => rfl, fun x h => by omega, fun j d h => by omega⟩ ?_)
 rintro m ⟨d, v⟩ ⟨i, hv, hm, h0, h1, h2⟩
 simp only at hv h0 h1
 subst hv
 unfold zq12_L1
 refine .iteP (fun hc => ?_) (fun hc => .dn (.inl ⟨rfl, fun j e he => h2 j e (by have := get_lt he; omega) he⟩))
 obtain ⟨e, he⟩ := get_ex (l := l) (i := i) (by omega)
 have hd : d < e.Id ∧ DelP t e ↔ DelP t e ∧ ∀ z, 0 < i → l[i - 1]? = some z → z.Id < e.Id := by
  constructor
  ·rintro ⟨g1, g2⟩
   exact ⟨g2, fun z hz hz2 => by rw [← h1 z hz hz2]; exact g1⟩
  ·rintro ⟨g1, g2⟩
   refine ⟨?_, g1⟩
   by_cases hi : i = 0
   ·rw [h0 hi]
    obtain ⟨⟨k, y, hy, hy2⟩, _⟩ := g1
    obtain ⟨_, _, _, hid, _⟩ := trip_line hT hy
    omega
   ·obtain ⟨z, hz⟩ := get_ex (l := l) (i := i - 1) (by omega)
    rw [h1 z (by omega) hz]; exact g2 z (by omega) hz
 refine .eq (ixs he) (.call (P := fun b => b = !decide (d < e.Id ∧ DelP t e)) ?_ fun b hb' => ?_)
 ·refine .iteP (fun c => .ok ?_) (fun c => .eq (tripIndex_eq t hb.2 _) (.iteP (fun c2 => .ok ?_) (fun c2 => .eq (within_eq _ _ _) (.ok ?_))))
  ·have : ¬ (d < e.Id ∧ DelP t e) := fun h => by omega
   simp [this]
  ·have : ¬ (d < e.Id ∧ DelP t e) := fun h => (tripIx_neg e.Id).1 c2 h.2.1
   simp [this]
  ·have hex : ∃ (k : Nat) (y : Trip), t.Trips[k]? = some y ∧ y.Id = e.Id   := Classical.byContradiction fun h => c2 ((tripIx_neg e.Id).2 h)
   congr 1
   rw [decide_eq_decide]
   unfold DelP
   constructor
   ·intro h; exact ⟨by omega, hex, h⟩
   ·intro h; exact h.2.2
 ·subst hb'
  refine .iteN (fun hn => .dn (.inr ⟨rfl, fun hg => hn (hd.2 (hg i e he))⟩)) (fun hp => .nx ⟨m - 1, by omega, i + 1, w64_succ (by omega), by omega, fun h => by omega, fun x _ hx => ?_, fun j e' hj he' => ?_⟩)
  ·rw [Nat.add_sub_cancel, he] at hx; cases hx; rfl
  ·by_cases hji : j = i
   ·subst hji; rw [he] at he'; cases he'; exact hd.1 hp
   ·exact h2 j e' (by omega) he'
theorem l23Good_eq {t : Timetable} (hb : TB t) (l : List TripDelay) (hl : l.length ≤ 100000) : zq68 t l = some (decide (GoodT t ∧ GoodD t l)) := by
 unfold zq68
 rw [goodT_eq hb]
 by_cases hT : GoodT t
 ·simp only [hT, decide_true, Bool.not_true, Bool.false_eq_true, if_false, Option.bind_some, true_and]
  rw [all_val (hd := Classical.propDecidable _) l (fun i e => DelP t e ∧ ∀ z, 0 < i → l[i - 1]? = some z → z.Id < e.Id) (fun i e he => ?_) (by unfold zq68_L1; simp)]
  ·by_cases h : GoodD t l
   ·rw [if_pos (fun i x hx => h i x hx)]; simp [h]
   ·rw [if_neg (fun hc => h fun i x hx => hc i x hx)]; simp [h]
  have hi := get_lt he
  unfold zq68_L1
  simp only [Int.ofNat_lt.2 hi, decide_true, if_true, idx_nat, he, Option.bind_some, l5Find_eq t hb.2, l1In_eq]
  by_cases c1 : ∃ (k : Nat) (y : Trip), t.Trips[k]? = some y ∧ y.Id = e.Id
  ·have n1 : ¬ fixI (fun x => x.Id == e.Id) t.Trips < 0 := fun h => (tripIx_neg e.Id).1 h c1
   by_cases c2 : 0 ≤ e.Minutes ∧ e.Minutes ≤ 600
   ·simp only [n1, c2, and_self, decide_true, decide_false, Bool.not_true, Bool.false_eq_true, if_false, Option.bind_some]
    by_cases h0 : 0 < (i : Int)
    ·obtain ⟨z, hz⟩ := get_ex (l := l) (i := i - 1) (by omega)
     have ew : w64 ((i : Int) - 1) = ((i - 1 : Nat) : Int) := by rw [w64_id (by omega)]; omega
     simp only [h0, decide_true, if_true, ew, idx_nat, hz, Option.bind_some]
     by_cases c3 : e.Id ≤ z.Id
     ·right
      refine ⟨by simp [c3], fun h => ?_⟩
      have := h.2 z (by omega) rfl; omega
     ·left
      refine ⟨by rw [w64_succ (by omega)]; simp [c3], ⟨c1, c2⟩, fun z' _ hz' => by cases hz'; omega⟩
    ·simp only [h0, decide_false, Bool.false_eq_true, if_false, Option.bind_some]
     left
     exact ⟨by rw [w64_succ (by omega)], ⟨c1, c2⟩, fun z hz => by omega⟩
   ·right
    simp only [n1, c2, decide_false, Bool.not_false, Bool.false_eq_true, if_false, if_true, Option.bind_some]
    exact ⟨trivial, fun h => c2 h.1.2⟩
  ·right
   have n1 : fixI (fun x => x.Id == e.Id) t.Trips < 0 := (tripIx_neg e.Id).2 c1
   simp only [n1, decide_true, if_true, Option.bind_some]
   exact ⟨trivial, fun h => c1 h.1.1⟩
 ·simp [hT]
theorem validD_eq {t : Timetable} (hb : TB t) (l : List TripDelay) (hl : l.length ≤ 100000) : zq8 t l = some (decide (GoodT t ∧ GoodD t l)) := by
 unfold zq8
 rw [validT_eq hb]
 by_cases hT : GoodT t
 ·simp only [hT, decide_true, if_true, Option.bind_some, areDelays_eq hb hT l hl, true_and]
 ·simp [hT]
def dOf (l : List TripDelay) (id : Int) : Int := ((l.find? fun e => e.Id == id).map (·.Minutes)).getD 0
theorem drop_at {α : Type} {l : List α} {k : Nat} {x : α} (h : l[k]? = some x) : l.drop k = x :: l.drop (k + 1) := by
 rw [List.drop_eq_getElem_cons (get_lt h)]
 congr 1
 exact (List.getElem?_eq_some_iff.1 h).2
theorem delayOf_eq (l : List TripDelay) (hl : l.length ≤ 100000) (id : Int) : zq19 l id = some (dOf l id) := by
 unfold zq19
 refine Tot.val (.flb ((Tot.iter (fun m (v : Int) => ∃ k : Nat, v = (k : Int) ∧ m + k = l.length ∧ (l.drop k).find? (fun e => e.Id == id) = l.find? fun e => e.Id == id) (Q := fun b => (b = .go () ∧ dOf l id = 0) ∨ b = .ret (dOf l id)) (n := l.length) ⟨0, rfl, by omega, rfl⟩ ?_).mono fun b hb => ?_))
 ·rintro m v ⟨k, rfl, hm, hf⟩
  unfold zq19_L1
  refine .iteP (fun hc => ?_) (fun hc => .dn (.inl ⟨rfl, ?_⟩))
  ·obtain ⟨e, he⟩ := get_ex (l := l) (i := k) (by omega)
   rw [drop_at he, List.find?_cons] at hf
   refine .eq (ixs he) (.ite (fun h => .dn (.inr ?_)) (fun h => .nx ⟨m - 1, by omega, k + 1, w64_succ (by omega), by omega, ?_⟩))
   ·rw [h] at hf
    unfold dOf; rw [← hf]; rfl
   ·rw [h] at hf; exact hf
  ·rw [List.drop_of_length_le (by omega)] at hf
   unfold dOf; rw [← hf]; rfl
 ·rcases hb with ⟨rfl, h⟩ | rfl
  ·exact ⟨fun r e => (by cases e), fun u _ => .ok h.symm⟩
  ·exact ⟨fun r e => (by cases e; rfl), fun u e => by cases e⟩
theorem l23Delay_eq (l : List TripDelay) (hl : l.length ≤ 100000) (id : Int) : zq66 l id = some (dOf l id) := by
 unfold zq66
 refine Tot.val (.flb ((Tot.iter (fun m (v : Int) => ∃ k : Nat, v = (k : Int) ∧ m + k = l.length ∧ (l.drop k).find? (fun e => e.Id == id) = l.find? fun e => e.Id == id) (Q := fun b => (b = .go () ∧ dOf l id = 0) ∨ b = .ret (dOf l id)) (n := l.length) ⟨0, rfl, by omega, rfl⟩ ?_).mono fun b hb => ?_))
 ·rintro m v ⟨k, rfl, hm, hf⟩
  unfold zq66_L1
  refine .iteP (fun hc => ?_) (fun hc => .dn (.inl ⟨rfl, ?_⟩))
  ·obtain ⟨e, he⟩ := get_ex (l := l) (i := k) (by omega)
   rw [drop_at he, List.find?_cons] at hf
   refine .eq (ixs he) (.ite (fun h => .eq (ixs he) (.dn (.inr ?_))) (fun h => .nx ⟨m - 1, by omega, k + 1, w64_succ (by omega), by omega, ?_⟩))
   ·rw [h] at hf
    unfold dOf; rw [← hf]; rfl
   ·rw [h] at hf; exact hf
  ·rw [List.drop_of_length_le (by omega)] at hf
   unfold dOf; rw [← hf]; rfl
 ·rcases hb with ⟨rfl, h⟩ | rfl
  ·exact ⟨fun r e => (by cases e), fun u _ => .ok h.symm⟩
  ·exact ⟨fun r e => (by cases e; rfl), fun u e => by cases e⟩
theorem dOf_rng {t : Timetable} {l : List TripDelay} (h : GoodD t l) (id : Int) : 0 ≤ dOf l id ∧ dOf l id ≤ 600 := by
 unfold dOf
 cases hf : l.find? fun e => e.Id == id with
 | none => simp
 | some e =>
  obtain ⟨i, hi⟩ := List.getElem?_of_mem (List.mem_of_find?_eq_some hf)
  exact (h i e hi).1.2
def dpT (t : Timetable) (D : List TripDelay) (stop : Int) (x : Trip) : Option departure := match idx t.Network.Lines x.Line with
 | some l => if 0 ≤ fixI (fun e => stop == e) l.Stops ∧ fixI (fun e => stop == e) l.Stops < (l.Runs.length : Int) then some ⟨x, x.Start + (l.Runs.take (fixI (fun e => stop == e) l.Stops).toNat).sum, dOf D x.Id⟩ else none
 | none => none
def dps (t : Timetable) (D : List TripDelay) (stop : Int) (k : Nat) : List departure := (t.Trips.take k).filterMap (dpT t D stop)
theorem dps_succ {t : Timetable} {D : List TripDelay} {stop : Int} {k : Nat} {x : Trip} (hx : t.Trips[k]? = some x) : dps t D stop (k + 1) = dps t D stop k ++ (dpT t D stop x).toList := by
 unfold dps
 rw [take_succ hx, List.filterMap_append]
 cases h : dpT t D stop x <;> simp [h]
theorem dps_le {t : Timetable} {D : List TripDelay} {stop : Int} {k : Nat} : (dps t D stop k).length ≤ k := by
 have := List.length_filterMap_le (dpT t D stop) (t.Trips.take k)
 rw [List.length_take] at this
 unfold dps; omega
theorem dpT_eq {t : Timetable} {D : List TripDelay} {stop : Int} {x : Trip} {l : Line} (hl : idx t.Network.Lines x.Line = some l) : dpT t D stop x = if 0 ≤ fixI (fun e => stop == e) l.Stops ∧ fixI (fun e => stop == e) l.Stops < (l.Runs.length : Int) then some ⟨x, x.Start + (l.Runs.take (fixI (fun e => stop == e) l.Stops).toNat).sum, dOf D x.Id⟩ else none := by
 unfold dpT; rw [hl]
theorem dp_rng {t : Timetable} (hT : GoodT t) {D : List TripDelay} (hD : GoodD t D) {stop : Int} {d : departure} (h : d ∈ dps t D stop t.Trips.length) : (0 ≤ d.time_ ∧ d.time_ ≤ 2099) ∧ 0 ≤ d.delay_ ∧ d.delay_ ≤ 600 := by
 unfold dps at h
 rw [List.take_length] at h
 obtain ⟨x, hx1, hx2⟩ := List.mem_filterMap.1 h
 obtain ⟨j, hj⟩ := List.getElem?_of_mem hx1
 obtain ⟨l, hl, hp, _, hs, _⟩ := trip_line hT hj
 rw [dpT_eq hl] at hx2
 have hd := dOf_rng hD x.Id
 have hr := runs_sum hp (fixI (fun e => stop == e) l.Stops).toNat
 by_cases hC : 0 ≤ fixI (fun e => stop == e) l.Stops ∧ fixI (fun e => stop == e) l.Stops < (l.Runs.length : Int)
 ·rw [if_pos hC] at hx2
  obtain rfl := Option.some.inj hx2
  dsimp only; omega
 ·rw [if_neg hC] at hx2; cases hx2
theorem depAt_ok {t : Timetable} (hT : GoodT t) {D : List TripDelay} (hDl : D.length ≤ 100000) (stop : Int) : zq20 t D stop = some (dps t D stop t.Trips.length) := by
 have h12 := hT.2.1
 unfold zq20
 refine Tot.val (.call (P := fun o => o = dps t D stop t.Trips.length) ?_ fun o ho => .ok ho)
 refine Tot.iter (fun m s => ∃ i : Nat, s.1 = (i : Int) ∧ m + i = t.Trips.length ∧ s.2 = dps t D stop i) (n := t.Trips.length) ⟨0, rfl, rfl, rfl⟩ ?_
 rintro m ⟨v, o⟩ ⟨i, hv, hm, ho⟩
 simp only at hv ho
 subst hv; subst ho
 unfold zq20_L1
 have hle := dps_le (t := t) (D := D) (stop := stop) (k := i)
 refine .iteP (fun hc => ?_) (fun hc => .dn (by rw [show i = t.Trips.length by omega]))
 obtain ⟨x, hx⟩ := get_ex (l := t.Trips) (i := i) (by omega)
 obtain ⟨l, hl, hp, hid, hs, _⟩ := trip_line hT hx
 obtain ⟨⟨r1, r2, r3⟩, _⟩ := line_runs hp
 refine .call (P := fun o => o = dps t D stop (i + 1)) ?_ fun o ho => .nx ⟨m - 1, by omega, i + 1, w64_succ (by omega), by omega, ho⟩
 refine .eq (ixs hx) (.eq (lineOf_eq hl) (.eq (stopTimes_eq hl hp hs) (.eq (index_int_eq l.Stops (by omega) stop) ?_)))
 rw [dps_succ hx, dpT_eq hl]
 generalize fixI (fun e => stop == e) l.Stops = p
 have hlen : w64 ((l.Stops.length : Int) - 1) = (l.Runs.length : Int) := by rw [w64_id (by omega)]; omega
 rw [hlen]
 refine .call (P := fun b => b = decide (0 ≤ p ∧ p < (l.Runs.length : Int))) (.iteP (fun h1 => .ok (by simp [h1])) (fun h1 => .ok (by simp [h1]))) fun b hb => ?_
 subst hb
 refine .iteP (fun hC => .eq (idx_of hC.1 (ST_at (l := l) (s := x.Start) (k := p.toNat) (by omega))) (.eq (delayOf_eq D hDl x.Id) (.chk (by simp; omega) (.ok ?_)))) (fun hC => .ok ?_)
 ·rw [if_pos hC]; rfl
 ·rw [if_neg hC]; simp
theorem l23Dep_ok {t : Timetable} (hT : GoodT t) (D : List TripDelay) {i : Nat} {x : Trip} (hx : t.Trips[i]? = some x) (stop : Int) : (∃ d, dpT t D stop x = some d ∧ d.trip_ = x ∧ d.delay_ = dOf D x.Id ∧ 0 ≤ d.time_ ∧ d.time_ ≤ 2099 ∧ zq67 t (i : Int) stop = some d.time_) ∨ (dpT t D stop x = none ∧ zq67 t (i : Int) stop = some (-1)) := by
 obtain ⟨l, hl, hp, hid, hs, _⟩ := trip_line hT hx
 obtain ⟨⟨r1, r2, r3⟩, _⟩ := line_runs hp
 rw [dpT_eq hl]
 unfold zq67
 rw [l5Line_eq hx hl]
 simp only [Option.bind_some]
 rw [l2Place_eq l (by omega) stop]
 simp only [Option.bind_some, l5Stops_eq hx hl]
 have hr : fixI (fun e => stop == e) l.Stops ≤ (l.Runs.length : Int) := by
  rcases fixI_rng (fun e => stop == e) l.Stops with h | h <;> omega
 revert hr
 generalize fixI (fun e => stop == e) l.Stops = p
 intro hr
 have hlen : w64 ((l.Stops.length : Int) - 1) = (l.Runs.length : Int) := by rw [w64_id (by omega)]; omega
 rw [hlen]
 by_cases hC : 0 ≤ p ∧ p < (l.Runs.length : Int)
 ·left
  have hAt := l5At_eq hT.1 hx hl hs (k := p.toNat) (by omega)
  rw [show ((p.toNat : Nat) : Int) = p by omega] at hAt
  have hrs := runs_sum hp p.toNat
  refine ⟨_, if_pos hC, rfl, rfl, by dsimp only; omega, by dsimp only; omega, ?_⟩
  have h1 : ¬ p < 0 := by omega
  have h2 : (p == (l.Runs.length : Int)) = false := by simp; omega
  simp only [h1, decide_false, Bool.false_eq_true, if_false, h2, Option.bind_some, hAt]
 ·right
  refine ⟨if_neg hC, ?_⟩
  by_cases h1 : p < 0
  ·simp only [h1, decide_true, if_true, Option.bind_some]
  ·have h2 : (p == (l.Runs.length : Int)) = true := by simp; omega
   simp only [h1, decide_false, Bool.false_eq_true, if_false, h2, if_true, Option.bind_some]
theorem isBoard_eq {t : Timetable} (hb : TB t) {D : List TripDelay} (hDl : D.length ≤ 100000) (stop now : Int) : zq22 t D stop now = some (decide ((GoodT t ∧ GoodD t D) ∧ (0 ≤ stop ∧ stop < (t.Network.Stops.length : Int)) ∧ 0 ≤ now ∧ now ≤ 1799)) := by
 unfold zq22
 rw [validD_eq hb D hDl]
 simp only [isStop_eq, time_eq, Option.bind_some]
 by_cases h1 : GoodT t ∧ GoodD t D
 ·by_cases h2 : 0 ≤ stop ∧ stop < (t.Network.Stops.length : Int)
  ·simp [h1, h2]
  ·simp only [h1, h2, and_self, decide_true, decide_false, if_true, Bool.false_eq_true, if_false, Option.bind_some, and_false, false_and]
 ·simp only [h1, decide_false, Bool.false_eq_true, if_false, Option.bind_some, false_and]
theorem asked23_eq {t : Timetable} (hb : TB t) {D : List TripDelay} (hDl : D.length ≤ 100000) (stop : Int) : zq65 t D stop = some (decide ((GoodT t ∧ GoodD t D) ∧ 0 ≤ stop ∧ stop < (t.Network.Stops.length : Int))) := by
 have ew : w64 ((t.Network.Stops.length : Int) - 1) = (t.Network.Stops.length : Int) - 1 := by have := hb.1.1; exact w64_id (by omega)
 have e : (0 ≤ stop ∧ stop ≤ (t.Network.Stops.length : Int) - 1) ↔ (0 ≤ stop ∧ stop < (t.Network.Stops.length : Int)) := by omega
 unfold zq65
 rw [l23Good_eq hb D hDl]
 simp only [l1In_eq, ew, e, Option.bind_some]
 by_cases h1 : GoodT t ∧ GoodD t D
 ·simp only [h1, and_self, decide_true, if_true, Option.bind_some, true_and]
 ·simp only [h1, decide_false, Bool.false_eq_true, if_false, Option.bind_some, false_and]
theorem delays23_ok {k : Nat} {c : l1Cur} {t : Timetable} (h : Cur k c) (hk : k ≤ 1000000) (hd : DT t) : Tot (zq46 c t) fun r => Cur (k + 200) r.2 ∧ r.1.length ≤ 40 := by
 have h30 := hd.2
 unfold zq46
 refine .call (P := fun o => Cur (k + 150) ⟨o.1, o.2.1, ⟨o.2.2.1⟩⟩ ∧ o.2.2.2.length ≤ 30) ?_ fun ⟨v9, v10, v11, v12⟩ ⟨hc, hl⟩ => ?_
 ·refine Tot.iter (fun m s => ∃ j : Nat, s.1 = (j : Int) ∧ m + j = t.Trips.length ∧ s.2.2.2.2.length ≤ j ∧ Cur (k + 4 * j) ⟨s.2.1, s.2.2.1, ⟨s.2.2.2.1⟩⟩) (n := t.Trips.length) ⟨0, rfl, by omega, by simp, h⟩ ?_
  rintro m ⟨v, v1, v2, v3, v4⟩ ⟨j, hv, hm, hl, hcur⟩
  simp only at hv hl hcur
  subst hv
  unfold zq46_L1
  refine .iteP (fun hc => ?_) (fun hc => .dn ⟨hcur.mono (by omega), by dsimp only; omega⟩)
  refine .call (P := fun o => Cur (k + 4 * (j + 1)) ⟨o.1, o.2.1, ⟨o.2.2.1⟩⟩ ∧ o.2.2.2.length ≤ j + 1) ?_ fun ⟨v5, v6, v7, v8⟩ ⟨q1, q2⟩ => .nx ⟨m - 1, by omega, j + 1, w64_succ (by omega), by omega, q2, q1⟩
  refine .call (t_one 3 hcur (by omega)) fun r hr => .ite (fun _ => .idx (by omega) hc fun e _ => .call (t_amongw _ (by simp) hr (by omega)) fun r2 ⟨hr2, _⟩ => .chk (by simp; omega) (.ok ⟨hr2.mono (by omega), by simp; omega⟩)) (fun _ => .ok ⟨hr.mono (by omega), by dsimp only; omega⟩)
 ·dsimp only at hc hl
  refine .call (P := fun o => Cur (k + 200) ⟨o.1, o.2.1, ⟨o.2.2.1⟩⟩ ∧ o.2.2.2.length ≤ 40) ?_ fun ⟨v13, v14, v15, v16⟩ ⟨q1, q2⟩ => .ok ⟨q1, q2⟩
  refine .call (t_pick 40 hc (by omega)) fun r3 ⟨hc3, _⟩ => .ite (fun _ => .call (t_amongw _ (by simp) hc3 (by omega)) fun r4 ⟨hc4, _⟩ => .chk (by simp; omega) (.ok ⟨hc4.mono (by omega), by simp; omega⟩)) (fun _ => .ite (fun _ => .iteP (fun hp => ?_) (fun _ => .ok ⟨hc3.mono (by omega), by dsimp only; omega⟩)) (fun _ => .ok ⟨hc3.mono (by omega), by dsimp only; omega⟩))
  have ew : w64 ((v12.length : Int) - 1) = (v12.length : Int) - 1 := w64_id (by omega)
  rw [ew]
  refine .idx (by omega) (by omega) fun e4 _ => .call (t_amongw _ (by simp) hc3 (by omega)) fun r6 ⟨hc6, _⟩ => .idx (by omega) (by omega) fun e5 _ => .ok ⟨hc6.mono (by omega), by dsimp only; rw [List.length_set]; omega⟩
theorem stopOf_ok {k : Nat} {c : l1Cur} {t : Timetable} (h : Cur k c) (hk : k ≤ 1000000) (hd : DT t) : Tot (zq57 c t) fun r => Cur (k + 100) r.2 := by
 unfold zq57
 refine .call (P := fun o => Cur (k + 10) ⟨o.2.1, o.2.2.1, ⟨o.2.2.2⟩⟩ ∧ (o.1 = true → 0 < t.Trips.length ∧ GoodT t)) ?_ fun ⟨v, v1, v2, v3⟩ ⟨hc, hv⟩ => ?_
 ·refine .iteP (fun h0 => .eq (goodT_eq hd.tb) (.iteP (fun hg => .call (t_one 6 h (by omega)) fun r1 hr1 => .ok ⟨hr1.mono (by omega), fun _ => ⟨by omega, hg⟩⟩) (fun _ => .ok ⟨h.mono (by omega), fun h => by cases h⟩))) (fun _ => .ok ⟨h.mono (by omega), fun h => by cases h⟩)
 ·dsimp only at hc hv
  refine .ite (fun hb => ?_) (fun _ => .call (t_pick _ hc (by omega)) fun r7 ⟨hc7, _⟩ => .call (t_pick 12 hc7 (by omega)) fun r8 ⟨hc8, _⟩ => .chk (by decide) (.ok (hc8.mono (by omega))))
  obtain ⟨h0, hg⟩ := hv hb
  refine .call (t_pick _ hc (by omega)) fun r4 ⟨hc4, h40, h41⟩ => ?_
  obtain ⟨x, hx⟩ := get_ex (l := t.Trips) (i := r4.1.toNat) (by omega)
  obtain ⟨l, hl, hp, _⟩ := trip_line hg hx
  have hst := l5Stops_eq hx hl
  rw [show ((r4.1.toNat : Nat) : Int) = r4.1 by omega] at hst
  have hlr := line_runs hp
  exact .eq hst (.call (t_pick _ hc4 (by omega)) fun r6 ⟨hc6, h60, h61⟩ => .idx h60 (by omega) fun e _ => .ok (hc6.mono (by omega)))
theorem now23_ok {k : Nat} {c : l1Cur} (t : Timetable) (h : Cur k c) (hk : k ≤ 1000000) : Tot (zq52 c t) fun r => Cur (k + 100) r.2 := by
 unfold zq52
 refine .call (P := fun o => Cur (k + 10) ⟨o.2.1, o.2.2.1, ⟨o.2.2.2⟩⟩ ∧ (o.1 = true → 0 < t.Trips.length)) ?_ fun ⟨v, v1, v2, v3⟩ ⟨hc, hv⟩ => ?_
 ·exact .iteP (fun h0 => .call (t_one 6 h (by omega)) fun r1 hr1 => .ok ⟨hr1.mono (by omega), fun _ => by omega⟩) (fun _ => .ok ⟨h.mono (by omega), fun h => by cases h⟩)
 ·dsimp only at hc hv
  refine .ite (fun hb => ?_) (fun _ => .call (t_time hc (by omega)) fun r5 hc5 => .ok (hc5.mono (by omega)))
  have h0 := hv hb
  exact .call (t_pick _ hc (by omega)) fun r3 ⟨hc3, h30, h31⟩ => .idx h30 (by omega) fun e _ => .call (t_pick 40 hc3 (by omega)) fun r4 ⟨hc4, _⟩ => .ok (hc4.mono (by omega))
def wch (x : UInt8) : Prop := (97 ≤ x.toNat ∧ x.toNat ≤ 122) ∨ (48 ≤ x.toNat ∧ x.toNat ≤ 57)
instance (x : UInt8) : Decidable (wch x) := by unfold wch; infer_instance
def clk (n : Nat) : List UInt8 := [UInt8.ofNat (48 + n / 60 / 10), UInt8.ofNat (48 + n / 60 % 10), 58, UInt8.ofNat (48 + n % 60 / 10), UInt8.ofNat (48 + n % 60 % 10)]
theorem lTwo_ok {n : Int} (h0 : 0 ≤ n) (h1 : n < 100) : zq85 n = some (str [UInt8.ofNat (48 + (n / 10).toNat), UInt8.ofNat (48 + (n % 10).toNat)]) := by
 have em : n.tmod 10 = n % 10 := Int.tmod_eq_emod_of_nonneg h0
 have ew : w64 (n.tdiv 10) = n / 10 := by rw [Int.tdiv_eq_ediv_of_nonneg h0, w64_id (by omega)]
 have c10 : chk ((10 : Int) ≠ 0) = some () := chk_of (by decide)
 have ca : ∀ x : Int, 0 ≤ x → x < 10 → chk ((0 : Int) ≤ x ∧ (x : Int) ≤ w64 (x + 1) ∧ w64 (x + 1) ≤ ((str [48, 49, 50, 51, 52, 53, 54, 55, 56, 57]).size : Int)) = some () := fun x hx hy => chk_of (by rw [w64_id (by omega)]; exact ⟨hx, by omega, by show x + 1 ≤ 10; omega⟩)
 unfold zq85
 simp only [c10, Option.bind_some, ew, em]
 rw [ca _ (by omega) (by omega), Option.bind_some, ca _ (by omega) (by omega), Option.bind_some, dig_ext (by omega) (by omega), dig_ext (by omega) (by omega), str_app]
 rfl
theorem clk_parts {n : Int} (h0 : 0 ≤ n) (h1 : n < 3600) : str [UInt8.ofNat (48 + (n / 60 / 10).toNat), UInt8.ofNat (48 + (n / 60 % 10).toNat)] ++ str [58] ++ str [UInt8.ofNat (48 + (n % 60 / 10).toNat), UInt8.ofNat (48 + (n % 60 % 10).toNat)] = str (clk n.toNat) := by
 rw [str_app, str_app]
 unfold clk
 have e1 : (n / 60 / 10).toNat = n.toNat / 60 / 10 := by omega
 have e2 : (n / 60 % 10).toNat = n.toNat / 60 % 10 := by omega
 have e3 : (n % 60 / 10).toNat = n.toNat % 60 / 10 := by omega
 have e4 : (n % 60 % 10).toNat = n.toNat % 60 % 10 := by omega
 rw [e1, e2, e3, e4]
 rfl
theorem lText_ok {n : Int} (h0 : 0 ≤ n) (h1 : n < 3600) : zq83 n = some (str (clk n.toNat)) := by
 have em : n.tmod 60 = n % 60 := Int.tmod_eq_emod_of_nonneg h0
 have ew : w64 (n.tdiv 60) = n / 60 := by rw [Int.tdiv_eq_ediv_of_nonneg h0, w64_id (by omega)]
 have c60 : chk ((60 : Int) ≠ 0) = some () := chk_of (by decide)
 unfold zq83
 simp only [c60, Option.bind_some, ew, em]
 rw [lTwo_ok (by omega) (by omega), Option.bind_some, chk_of (by rw [str_s, str_s]; simp), Option.bind_some, lTwo_ok (by omega) (by omega), Option.bind_some, chk_of (by rw [str_app, str_s, str_s]; simp), Option.bind_some, clk_parts h0 h1]
theorem mk8 {n : Nat} (h : n < 256) : mkU8 (IntKind.u8.wrap (n : Int)) = UInt8.ofNat n := by
 unfold mkU8
 rw [IntKind.wrap_u8]
 congr 1; omega
theorem iTwo_ok {n : Int} (h0 : 0 ≤ n) (h1 : n < 100) : zq18 n = some (str [UInt8.ofNat (48 + (n / 10).toNat), UInt8.ofNat (48 + (n % 10).toNat)]) := by
 have em : w64 (48 + n.tmod 10) = ((48 + (n % 10).toNat : Nat) : Int) := by rw [Int.tmod_eq_emod_of_nonneg h0, w64_id (by omega)]; omega
 have ew : w64 (48 + w64 (n.tdiv 10)) = ((48 + (n / 10).toNat : Nat) : Int) := by rw [Int.tdiv_eq_ediv_of_nonneg h0, w64_id (x := n / 10) (by omega), w64_id (by omega)]; omega
 have c10 : chk ((10 : Int) ≠ 0) = some () := chk_of (by decide)
 unfold zq18
 simp only [c10, Option.bind_some]
 rw [ew, em, mk8 (by omega), mk8 (by omega)]
 rfl
theorem iText_ok {n : Int} (h0 : 0 ≤ n) (h1 : n < 3600) : zq17 n = some (str (clk n.toNat)) := by
 have em : n.tmod 60 = n % 60 := Int.tmod_eq_emod_of_nonneg h0
 have ew : w64 (n.tdiv 60) = n / 60 := by rw [Int.tdiv_eq_ediv_of_nonneg h0, w64_id (by omega)]
 have c60 : chk ((60 : Int) ≠ 0) = some () := chk_of (by decide)
 unfold zq17
 simp only [c60, Option.bind_some, ew, em]
 rw [iTwo_ok (by omega) (by omega), Option.bind_some, chk_of (by rw [str_s, str_s]; simp), Option.bind_some, iTwo_ok (by omega) (by omega), Option.bind_some, chk_of (by rw [str_app, str_s, str_s]; simp), Option.bind_some, clk_parts h0 h1]
theorem time24_eq (t : Int) : zq84 t = some (decide (0 ≤ t ∧ t ≤ 1799)) := by
 unfold zq84
 rw [lin_eq]; rfl
theorem itime24_eq (t : Int) : zq6 t = some (decide (0 ≤ t ∧ t ≤ 1799)) := by
 unfold zq6
 rw [within_eq]; rfl
theorem clk_len (n : Nat) : (clk n).length = 5 := rfl
def TmOK (t : Int) : Prop := 0 ≤ t ∧ t ≤ 1799
theorem get_nat {α : Type} {l : List α} {i : Nat} {x : α} (h : l[(i : Int).toNat]? = some x) : l[i]? = some x := by rwa [Int.toNat_natCast] at h
theorem ws_ok (l s : List UInt8) (h : l.length + s.length ≤ 4294967296) : zq107 l (str s) = some ((s.length : Int), .mk, l ++ s) := by
 unfold zq107 writeStringM
 rw [if_pos (by rw [str_s]; exact h), str_s, str_l]
theorem or2_eq (a b : Int) : zq1 [a, b] = some (if a ≠ 0 then a else b) := by
 have hz : idx [a, b] 0 = some a ∧ idx [a, b] 1 = some b := ⟨rfl, rfl⟩
 have w1 : w64 1 = 1 := rfl
 have w2 : w64 2 = 2 := rfl
 unfold zq1
 by_cases ha : a = 0
 ·have s1 : zq1_L1 [a, b] 0 = some (.nx 1) := by unfold zq1_L1; dsimp only; rw [hz.1]; simp [ha, w1]
  by_cases hb : b = 0
  ·have s2 : zq1_L1 [a, b] 1 = some (.nx 2) := by unfold zq1_L1; dsimp only; rw [hz.2]; simp [hb, w2]
   have s3 : zq1_L1 [a, b] 2 = some (.dn (.go ())) := by unfold zq1_L1; simp
   rw [iter_nx s1, iter_nx s2, iter_dn s3]
   simp [ha, hb]
  ·have s2 : zq1_L1 [a, b] 1 = some (.dn (.ret b)) := by unfold zq1_L1; dsimp only; rw [hz.2]; simp [hb]
   rw [iter_nx s1, iter_dn s2]
   simp [ha]
 ·have s1 : zq1_L1 [a, b] 0 = some (.dn (.ret a)) := by unfold zq1_L1; dsimp only; rw [hz.1]; simp [ha]
  rw [iter_dn s1]
  simp [ha]
instance (t : Int) : Decidable (TmOK t) := by unfold TmOK; infer_instance
theorem insE_end {α : Type} {lt : α → α → Bool} {x : α} {o : List α} (h : ∀ y ∈ o, lt x y = false) : Pdq.insE lt x o = o ++ [x] := by
 by_cases h0 : 0 < o.length
 ·obtain ⟨o', y, rfl⟩ := Pdq.snoc_ex h0
  rw [Pdq.insE_snoc, h y (by simp)]
  rfl
 ·have : o = [] := List.eq_nil_of_length_eq_zero (by omega)
  subst this; rfl
theorem insE_filter {α : Type} {lt : α → α → Bool} (tr : ∀ a b c, lt b a = false → lt c b = false → lt c a = false) {p : α → Bool} {x : α} : ∀ (n : Nat) {o : List α}, o.length = n → (o.Pairwise fun a b => lt b a = false) → (Pdq.insE lt x o).filter p = if p x = true then Pdq.insE lt x (o.filter p) else o.filter p
 | 0, o, hn, _ => by
  have : o = [] := List.eq_nil_of_length_eq_zero hn
  subst this
  rw [Pdq.insE_nil]
  by_cases hp : p x = true
  ·simp [hp, Pdq.insE_nil]
  ·simp [hp]
 | n + 1, o, hn, hs => by
  obtain ⟨o', y, rfl⟩ := Pdq.snoc_ex (l := o) (by omega)
  have hs' := (List.pairwise_append.1 hs).1
  have ih := insE_filter tr (p := p) (x := x) n (o := o') (by simpa using hn) hs'
  rw [Pdq.insE_snoc]
  cases hl : lt x y with
  | true =>
   rw [cond_true, List.filter_append, ih, List.filter_append]
   by_cases hy : p y = true
   ·have e : [y].filter p = [y] := by simp [hy]
    rw [e]
    by_cases hp : p x = true
    ·rw [if_pos hp, if_pos hp, Pdq.insE_snoc, hl, cond_true]
    ·rw [if_neg hp, if_neg hp]
   ·have e : [y].filter p = [] := by simp [hy]
    rw [e, List.append_nil, List.append_nil]
  | false =>
   have hall : ∀ z ∈ o' ++ [y], lt x z = false := by
    intro z hz
    rcases List.mem_append.1 hz with hz | hz
    ·exact tr z y x ((List.pairwise_append.1 hs).2.2 z hz y (by simp)) hl
    ·simp at hz; subst hz; exact hl
   rw [cond_false, List.filter_append]
   by_cases hp : p x = true
   ·rw [if_pos hp, insE_end fun z hz => hall z (List.mem_filter.1 hz).1]
    simp [hp]
   ·rw [if_neg hp]
    simp [hp]
theorem isort_filter {α : Type} {lt : α → α → Bool} (tr : ∀ a b c, lt b a = false → lt c b = false → lt c a = false) (as' : ∀ a b, lt a b = true → lt b a = false) (p : α → Bool) : ∀ (n : Nat) {l : List α}, l.length = n → (Pdq.isort lt l).filter p = Pdq.isort lt (l.filter p)
 | 0, l, hn => by
  have : l = [] := List.eq_nil_of_length_eq_zero hn
  subst this; rfl
 | n + 1, l, hn => by
  obtain ⟨l', y, rfl⟩ := Pdq.snoc_ex (l := l) (by omega)
  have ih := isort_filter tr as' p n (l := l') (by simpa using hn)
  rw [Pdq.isort_snoc, insE_filter tr _ rfl (Pdq.isort_sorted tr as' l'), List.filter_append, ih]
  by_cases hy : p y = true
  ·rw [if_pos hy]
   have e : [y].filter p = [y] := by simp [hy]
   rw [e, Pdq.isort_snoc]
  ·rw [if_neg hy]
   have e : [y].filter p = [] := by simp [hy]
   rw [e, List.append_nil]
theorem insE_map {α β : Type} {lt : α → α → Bool} {lt' : β → β → Bool} (f : α → β) (h : ∀ a b, lt' (f a) (f b) = lt a b) (x : α) : ∀ (n : Nat) {o : List α}, o.length = n → Pdq.insE lt' (f x) (o.map f) = (Pdq.insE lt x o).map f
 | 0, o, hn => by
  have : o = [] := List.eq_nil_of_length_eq_zero hn
  subst this; rfl
 | n + 1, o, hn => by
  obtain ⟨o', y, rfl⟩ := Pdq.snoc_ex (l := o) (by omega)
  have ih := insE_map f h x n (o := o') (by simpa using hn)
  rw [List.map_append, List.map_cons, List.map_nil, Pdq.insE_snoc, Pdq.insE_snoc, h, ih]
  cases lt x y <;> simp
theorem isort_map {α β : Type} {lt : α → α → Bool} {lt' : β → β → Bool} (f : α → β) (h : ∀ a b, lt' (f a) (f b) = lt a b) : ∀ (n : Nat) {l : List α}, l.length = n → Pdq.isort lt' (l.map f) = (Pdq.isort lt l).map f
 | 0, l, hn => by
  have : l = [] := List.eq_nil_of_length_eq_zero hn
  subst this; rfl
 | n + 1, l, hn => by
  obtain ⟨l', y, rfl⟩ := Pdq.snoc_ex (l := l) (by omega)
  have ih := isort_map f h n (l := l') (by simpa using hn)
  rw [List.map_append, List.map_cons, List.map_nil, Pdq.isort_snoc, Pdq.isort_snoc, ih]
  exact insE_map f h y _ rfl
def kyD (d : departure) : Int := d.time_ + d.delay_
def UD (d : departure) : Prop := (0 ≤ d.time_ ∧ d.time_ ≤ 2099) ∧ 0 ≤ d.delay_ ∧ d.delay_ ≤ 600
def bLt (a b : departure) : Bool := decide (kyD a < kyD b ∨ (kyD a = kyD b ∧ a.time_ < b.time_))
def rLt (a b : BoardRow) : Bool := decide (a.Time + a.Delay < b.Time + b.Delay ∨ (a.Time + a.Delay = b.Time + b.Delay ∧ a.Time < b.Time))
theorem bLt_tr : ∀ a b c : departure, bLt b a = false → bLt c b = false → bLt c a = false := by
 intro a b c h1 h2
 unfold bLt at *
 rw [decide_eq_false_iff_not] at *
 omega
theorem bLt_as : ∀ a b : departure, bLt a b = true → bLt b a = false := by
 intro a b h
 unfold bLt at *
 rw [decide_eq_true_eq] at h
 rw [decide_eq_false_iff_not]
 omega
theorem cmpB (x y : departure) (hx : UD x) (hy : UD y) : ∃ c, zq15 x y = some c ∧ decide (c < 0) = bLt x y := by
 obtain ⟨⟨a1, a2⟩, a3, a4⟩ := hx
 obtain ⟨⟨b1, b2⟩, b3, b4⟩ := hy
 unfold zq15 bLt kyD
 rw [w64_id (x := x.time_ + x.delay_) (by omega), w64_id (x := y.time_ + y.delay_) (by omega)]
 simp only [Option.bind_some, compare_int, or2_eq]
 refine ⟨_, rfl, ?_⟩
 by_cases h1 : x.time_ + x.delay_ < y.time_ + y.delay_
 ·simp [h1]
 ·by_cases h2 : y.time_ + y.delay_ < x.time_ + x.delay_
  ·have : ¬ x.time_ + x.delay_ = y.time_ + y.delay_ := by omega
   simp [h1, h2, this]
  ·have h3 : x.time_ + x.delay_ = y.time_ + y.delay_ := by omega
   by_cases h4 : x.time_ < y.time_
   ·simp [h3, h4]
   ·by_cases h5 : y.time_ < x.time_ <;> simp [h3, h4, h5]
theorem stableB (l : List departure) (hl : l.length < 20) (hU : ∀ x ∈ l, UD x) : zq96 l = some (Pdq.isort bLt l) := by
 have s1 : zq101_L1 (l.length : Int) ((0 : Int), (20 : Int), l) = some (.dn (0, l)) := by
  unfold zq101_L1
  have : ¬ (20 : Int) ≤ (l.length : Int) := by omega
  simp [this]
 have s2 : ∀ l' : List departure, zq101_L3 (l.length : Int) ((20 : Int), l') = some (.dn l') := fun l' => by
  unfold zq101_L3
  have : ¬ (20 : Int) < (l.length : Int) := by omega
  simp [this]
 have s3 : zq98 l 0 (l.length : Int) = some (Pdq.isort bLt l) := Pdq.insertion_stU (U := UD) cmpB l (by omega) hU
 unfold zq96 zq101
 rw [iter_dn s1]
 simp only [Option.bind_some]
 rw [s3]
 simp only [Option.bind_some]
 rw [iter_dn (s2 _)]; rfl
def nmL (t : Timetable) (x : Trip) : ByteArray := match idx t.Network.Lines x.Line with
 | some l => l.Name
 | none => ByteArray.empty
def dsL (t : Timetable) (x : Trip) : ByteArray := match idx t.Network.Lines x.Line with
 | some l => t.Network.Stops.getD (l.Stops.getD (l.Stops.length - 1) 0).toNat ByteArray.empty
 | none => ByteArray.empty
def rowD (t : Timetable) (d : departure) : BoardRow := ⟨d.time_, d.delay_, nmL t d.trip_, dsL t d.trip_⟩
theorem rLt_row (t : Timetable) (a b : departure) : rLt (rowD t a) (rowD t b) = bLt a b := rfl
def allR (t : Timetable) (D : List TripDelay) (stop now : Int) : List BoardRow := ((Pdq.isort bLt (dps t D stop t.Trips.length)).filter fun d => decide (now ≤ kyD d)).map (rowD t)
theorem dp_trip {t : Timetable} {D : List TripDelay} {stop : Int} {k : Nat} {d : departure} (hT : GoodT t) (h : d ∈ dps t D stop k) : ∃ i : Nat, t.Trips[i]? = some d.trip_ := by
 unfold dps at h
 obtain ⟨x, hx1, hx2⟩ := List.mem_filterMap.1 h
 obtain ⟨j, hj⟩ := List.getElem?_of_mem (List.mem_of_mem_take hx1)
 obtain ⟨l, hl, hp, _, hs, _⟩ := trip_line hT hj
 rw [dpT_eq hl] at hx2
 split at hx2
 ·cases hx2; exact ⟨j, hj⟩
 ·cases hx2
theorem trip_row {t : Timetable} (hT : GoodT t) {i : Nat} {x : Trip} (hx : t.Trips[i]? = some x) : ∃ l z, idx t.Network.Lines x.Line = some l ∧ LineP t.Network.Stops.length l ∧ l.Name = nmL t x ∧ idx l.Stops (w64 ((l.Stops.length : Int) - 1)) = some z ∧ idx t.Network.Stops z = some (dsL t x) ∧ NameOK (nmL t x) ∧ NameOK (dsL t x) := by
 obtain ⟨l, hl, hp, _, hs, _⟩ := trip_line hT hx
 have h2 := hp.1.1
 have h6 := hp.1.2
 obtain ⟨z, hz⟩ := get_ex (l := l.Stops) (i := l.Stops.length - 1) (by omega)
 have hzr := (hp.2.2.1 _ z hz).1
 obtain ⟨y, hy⟩ := get_ex (l := t.Network.Stops) (i := z.toNat) (by omega)
 have ew : w64 ((l.Stops.length : Int) - 1) = ((l.Stops.length - 1 : Nat) : Int) := by rw [w64_id (by omega)]; omega
 have e1 : nmL t x = l.Name := by unfold nmL; rw [hl]
 have e2 : dsL t x = y := by
  unfold dsL
  rw [hl]
  dsimp only
  rw [List.getD_eq_getElem?_getD (l := l.Stops), hz, List.getD_eq_getElem?_getD]
  show (t.Network.Stops[z.toNat]?).getD _ = y
  rw [hy]; rfl
 refine ⟨l, z, hl, hp, e1.symm, by rw [ew]; exact ixs hz, ?_, ?_, ?_⟩
 ·rw [e2]
  have := ixs hy
  rwa [show ((z.toNat : Nat) : Int) = z by omega] at this
 ·rw [e1]
  obtain ⟨_, _, h3⟩ := idx_some hl
  exact (hT.1.2.2.2.1 x.Line.toNat l.Name (by rw [List.getElem?_map, h3]; rfl)).1
 ·rw [e2]
  exact (hT.1.2.2.1 _ y hy).1
theorem take_filter_step {α β : Type} (p : α → Bool) (f : α → β) (c : Nat) {l : List α} {i : Nat} {x : α} (h : l[i]? = some x) :
  (((l.take (i + 1)).filter p).map f).take c = if p x = true ∧ ((((l.take i).filter p).map f).take c).length < c then (((l.take i).filter p).map f).take c ++ [f x] else (((l.take i).filter p).map f).take c := by
 rw [take_succ h, List.filter_append, List.map_append]
 generalize ((l.take i).filter p).map f = X
 by_cases hp : p x = true
 ·have e : ([x].filter p).map f = [f x] := by simp [hp]
  rw [e]
  by_cases hc : X.length < c
  ·rw [if_pos ⟨hp, by rw [List.length_take]; omega⟩, List.take_of_length_le (by rw [List.length_append]; simp only [List.length_cons, List.length_nil]; omega), List.take_of_length_le (by omega)]
  ·rw [if_neg (by rw [List.length_take]; omega), List.take_append_of_le_length (by omega)]
 ·have e : ([x].filter p).map f = [] := by simp [hp]
  rw [e, List.append_nil, if_neg (fun h => hp h.1)]
theorem brows_ok {t : Timetable} (hT : GoodT t) {D : List TripDelay} (hD : GoodD t D) (hDl : D.length ≤ 100000) (stop now : Int) {count : Nat} (hc : count ≤ 1000) : zq14 t D stop now (count : Int) = some ((allR t D stop now).take count) := by
 have h12 := hT.2.1
 have hle := dps_le (t := t) (D := D) (stop := stop) (k := t.Trips.length)
 have hU : ∀ d ∈ dps t D stop t.Trips.length, UD d := fun d hd => dp_rng hT hD hd
 unfold zq14
 rw [depAt_ok hT hDl, Option.bind_some, stableB _ (by omega) hU, Option.bind_some]
 have hperm := Pdq.isort_perm (lt := bLt) (dps t D stop t.Trips.length)
 have hlen := hperm.length_eq
 have hU' : ∀ d ∈ Pdq.isort bLt (dps t D stop t.Trips.length), UD d ∧ ∃ i : Nat, t.Trips[i]? = some d.trip_ := fun d hd => ⟨hU d (hperm.mem_iff.1 hd), dp_trip hT (hperm.mem_iff.1 hd)⟩
 unfold allR
 generalize Pdq.isort bLt (dps t D stop t.Trips.length) = S at hlen hU' ⊢
 refine Tot.val (.call (P := fun r => r = (((S.filter fun d => decide (now ≤ kyD d)).map (rowD t)).take count)) ?_ fun r hr => .ok hr)
 refine Tot.iter (fun k (s : Int × List BoardRow) => ∃ i : Nat, k + i = S.length ∧ s = ((i : Int), ((((S.take i).filter fun d => decide (now ≤ kyD d)).map (rowD t)).take count))) (n := S.length) ⟨0, by omega, by simp⟩ ?_
 rintro k _ ⟨i, hk, rfl⟩
 unfold zq14_L1
 dsimp only
 refine .iteP (fun hlt => ?_) (fun hge => .dn (by rw [show i = S.length by omega, List.take_length]))
 obtain ⟨d, hd⟩ := get_ex (l := S) (i := i) (by omega)
 obtain ⟨⟨⟨u1, u2⟩, u3, u4⟩, j, hj⟩ := hU' d (List.mem_of_getElem? hd)
 obtain ⟨l, z, hl, hp, hnm, hz, hds, _, _⟩ := trip_row hT hj
 have hst := take_filter_step (fun d => decide (now ≤ kyD d)) (rowD t) count hd
 have hw : w64 (d.time_ + d.delay_) = kyD d := w64_id (by omega)
 have hlo : zq29 t d.trip_ = some l := lineOf_eq hl
 have hls : zq27 t d.trip_ = some z := by unfold zq27; rw [hlo, Option.bind_some, hz]; rfl
 have hTl : ((((S.take i).filter fun d => decide (now ≤ kyD d)).map (rowD t)).take count).length ≤ 1000 := by rw [List.length_take]; omega
 refine .call (P := fun o => o = ((((S.take (i + 1)).filter fun d => decide (now ≤ kyD d)).map (rowD t)).take count)) (.eq (ixs hd) ?_) fun o ho => .nx ⟨k - 1, by omega, i + 1, by omega, by rw [ho, w64_succ (by omega)]⟩
 rw [hw]
 refine .call (P := fun b => b = true ↔ (decide (now ≤ kyD d) = true ∧ ((((S.take i).filter fun d => decide (now ≤ kyD d)).map (rowD t)).take count).length < count)) (.iteP (fun h1 => .ok (by simp only [h1, decide_true, true_and, decide_eq_true_eq]; omega)) (fun h1 => .ok (by simp [h1]))) fun b hb => .ite (fun h => ?_) (fun h => .ok ?_)
 ·rw [hlo, Option.bind_some, hls, Option.bind_some, hds, Option.bind_some]
  refine .chk (by rw [List.length_cons, List.length_nil]; omega) (.ok ?_)
  rw [hst, if_pos (hb.1 h), hnm]
  rfl
 ·rw [hst, if_neg (fun hh => by have := hb.2 hh; rw [h] at this; cases this)]
theorem rowsort (t : Timetable) (D : List TripDelay) (stop now : Int) (k : Nat) : Pdq.isort rLt (((dps t D stop k).filter fun d => decide (now ≤ kyD d)).map (rowD t)) = ((Pdq.isort bLt (dps t D stop k)).filter fun d => decide (now ≤ kyD d)).map (rowD t) := by
 rw [isort_map (rowD t) (rLt_row t) _ rfl, isort_filter bLt_tr bLt_as _ _ rfl]
theorem rins_ok {S : List BoardRow} {x : BoardRow} (hS : S.length ≤ 1000) (hb : ∀ y ∈ S, (0 ≤ y.Time ∧ y.Time ≤ 2099) ∧ 0 ≤ y.Delay ∧ y.Delay ≤ 600) (hx : (0 ≤ x.Time ∧ x.Time ≤ 2099) ∧ 0 ≤ x.Delay ∧ x.Delay ≤ 600) : Tot (iter (zq70_L1 S x.Time x.Delay) (S.length : Int)) fun r => 0 ≤ r ∧ r ≤ S.length ∧ S.take r.toNat ++ [x] ++ S.drop r.toNat = Pdq.insE rLt x S := by
 refine Tot.iter (fun k (v : Int) => v = (k : Int) ∧ k ≤ S.length ∧ ∀ y ∈ S.drop k, rLt x y = true) (n := S.length) ⟨rfl, Nat.le_refl _, by simp⟩ ?_
 rintro k _ ⟨rfl, hk, hd⟩
 unfold zq70_L1
 refine .call (P := fun v => v = true ↔ (0 < k ∧ ∀ y, S[k - 1]? = some y → rLt x y = true)) ?_ fun v hv => .ite (fun h => ?_) (fun h => .dn ?_)
 ·refine .iteP (fun h0 => ?_) (fun h0 => .ok ⟨fun h => (by cases h), fun h => absurd h.1 (by omega)⟩)
  have ew : w64 ((k : Int) - 1) = ((k - 1 : Nat) : Int) := by rw [w64_id (by omega)]; omega
  obtain ⟨y, hy⟩ := get_ex (l := S) (i := k - 1) (by omega)
  have hby := hb y (List.mem_of_getElem? hy)
  have w1 : w64 (x.Time + x.Delay) = x.Time + x.Delay := w64_id (by omega)
  have w2 : w64 (y.Time + y.Delay) = y.Time + y.Delay := w64_id (by omega)
  have hix := ixs hy
  rw [ew, hix]
  simp only [Option.bind_some, w1, w2]
  have hr : ∀ b : Bool, (b = rLt x y) → (b = true ↔ (0 < k ∧ ∀ y, S[k - 1]? = some y → rLt x y = true)) := by
   intro b hbq
   rw [hbq]
   exact ⟨fun h => ⟨by omega, fun z hz => by rw [hy] at hz; cases hz; exact h⟩, fun h => h.2 y hy⟩
  unfold rLt at hr
  by_cases c1 : x.Time + x.Delay < y.Time + y.Delay
  ·rw [decide_eq_true c1, if_pos rfl]
   exact .ok (hr true (by simp [c1]))
  ·rw [decide_eq_false c1, if_neg (by simp)]
   by_cases c2 : y.Time + y.Delay = x.Time + x.Delay
   ·rw [if_pos (by simp [c2])]
    exact .ok (hr _ (by rw [decide_eq_decide]; omega))
   ·rw [if_neg (by simp [c2])]
    exact .ok (hr false (by symm; rw [decide_eq_false_iff_not]; omega))
 ·obtain ⟨h0, h1⟩ := hv.1 h
  refine .nx ⟨k - 1, by omega, ?_, by omega, fun y hy => ?_⟩
  ·rw [w64_id (by omega)]; omega
  ·obtain ⟨z, hz⟩ := get_ex (l := S) (i := k - 1) (by omega)
   have e : S.drop (k - 1) = z :: S.drop k := by
    have := drop_at hz
    rwa [show k - 1 + 1 = k by omega] at this
   rw [e] at hy
   rcases List.mem_cons.1 hy with rfl | hy
   ·exact h1 y hz
   ·exact hd y hy
 ·refine ⟨by omega, by omega, ?_⟩
  rw [Int.toNat_natCast]
  exact Pdq.insE_slot S.length rfl hk hd fun y h0 hy => by
   cases hl : rLt x y with
   | false => rfl
   | true =>
    have := hv.2 ⟨h0, fun z hz => by rw [hy] at hz; cases hz; exact hl⟩
    rw [h] at this; cases this
theorem dps_step {t : Timetable} {D : List TripDelay} {stop : Int} {i : Nat} {x : Trip} (hx : t.Trips[i]? = some x) : (∀ d, dpT t D stop x = some d → dps t D stop (i + 1) = dps t D stop i ++ [d]) ∧ (dpT t D stop x = none → dps t D stop (i + 1) = dps t D stop i) := by
 rw [dps_succ hx]
 exact ⟨fun d h => by rw [h]; rfl, fun h => by rw [h]; simp⟩
def SR (t : Timetable) (D : List TripDelay) (stop now : Int) (k : Nat) : List BoardRow := Pdq.isort rLt (((dps t D stop k).filter fun d => decide (now ≤ kyD d)).map (rowD t))
theorem dps_mem {t : Timetable} {D : List TripDelay} {stop : Int} {k : Nat} {d : departure} (h : d ∈ dps t D stop k) : d ∈ dps t D stop t.Trips.length := by
 unfold dps at h ⊢
 rw [List.take_length]
 obtain ⟨x, h1, h2⟩ := List.mem_filterMap.1 h
 exact List.mem_filterMap.2 ⟨x, List.mem_of_mem_take h1, h2⟩
theorem sr_bd {t : Timetable} (hT : GoodT t) {D : List TripDelay} (hD : GoodD t D) (stop now : Int) (k : Nat) : (SR t D stop now k).length ≤ k ∧ ∀ y ∈ SR t D stop now k, (0 ≤ y.Time ∧ y.Time ≤ 2099) ∧ 0 ≤ y.Delay ∧ y.Delay ≤ 600 := by
 unfold SR
 have hp := Pdq.isort_perm (lt := rLt) (((dps t D stop k).filter fun d => decide (now ≤ kyD d)).map (rowD t))
 constructor
 ·rw [hp.length_eq, List.length_map]
  exact Nat.le_trans (List.length_filter_le ..) dps_le
 ·intro y hy
  have hy := hp.mem_iff.1 hy
  obtain ⟨d, hd, rfl⟩ := List.mem_map.1 hy
  exact dp_rng hT hD (dps_mem (List.mem_filter.1 hd).1)
theorem srows_ok {t : Timetable} (hT : GoodT t) {D : List TripDelay} (hD : GoodD t D) (hDl : D.length ≤ 100000) (stop now : Int) : zq70 t D stop now = some (allR t D stop now) := by
 have h12 := hT.2.1
 unfold zq70
 refine Tot.val (.call (P := fun r => r = allR t D stop now) ?_ fun r hr => .ok hr)
 refine Tot.iter (fun k (s : Int × List BoardRow) => ∃ i : Nat, k + i = t.Trips.length ∧ s = ((i : Int), SR t D stop now i)) (n := t.Trips.length) ⟨0, by omega, rfl⟩ ?_
 rintro k _ ⟨i, hk, rfl⟩
 obtain ⟨hSl, hSb⟩ := sr_bd hT hD stop now i
 unfold zq70_L2
 dsimp only
 refine .iteP (fun hlt => ?_) (fun hge => .dn (by rw [show i = t.Trips.length by omega]; exact rowsort t D stop now _))
 obtain ⟨x, hx⟩ := get_ex (l := t.Trips) (i := i) (by omega)
 refine .call (P := fun o => o = SR t D stop now (i + 1)) ?_ fun o ho => .nx ⟨k - 1, by omega, i + 1, by omega, by rw [ho, w64_succ (by omega)]⟩
 obtain ⟨st1, st2⟩ := dps_step (D := D) (stop := stop) hx
 rcases l23Dep_ok hT D hx stop with ⟨d, h1, h2, h3, h4, h5, h6⟩ | ⟨h1, h6⟩
 ·have hmem : d ∈ dps t D stop t.Trips.length := dps_mem (k := i + 1) (by rw [st1 d h1]; simp)
  have hr := dp_rng hT hD hmem
  rw [h6, Option.bind_some, ixs hx, Option.bind_some, l23Delay_eq D hDl, Option.bind_some, ← h3]
  have hw : w64 (d.time_ + d.delay_) = kyD d := w64_id (by omega)
  rw [hw, if_neg (by simp only [decide_eq_true_eq]; omega), Option.bind_some]
  by_cases hn : kyD d < now
  ·rw [decide_eq_true hn, if_pos rfl]
   refine .ok ?_
   unfold SR
   rw [st1 d h1, List.filter_append]
   have : [d].filter (fun d => decide (now ≤ kyD d)) = [] := by simp; omega
   rw [this, List.append_nil]
  ·rw [decide_eq_false hn, if_neg (by simp)]
   have hTx : t.Trips[i]? = some d.trip_ := by rw [h2]; exact hx
   obtain ⟨l, z, hl, hp, hnm, hz, hds, _, _⟩ := trip_row hT hTx
   rw [h2] at hl
   have hlo : zq90 t (i : Int) = some l := l5Line_eq hx hl
   have hls : zq91 t (i : Int) = some l.Stops := l5Stops_eq hx hl
   rw [hls, Option.bind_some, hlo, Option.bind_some, hz, Option.bind_some, hds, Option.bind_some]
   refine .call (rins_ok (x := rowD t d) (by omega) hSb hr) fun v3 ⟨v0, v1, v2⟩ => ?_
   have hv3 : v3.toNat ≤ (SR t D stop now i).length := by omega
   refine .chk ⟨by omega, v0, v1⟩ (.chk ?_ (.chk ?_ (.chk ⟨v0, v1⟩ (.chk ?_ (.ok ?_)))))
   ·simp only [List.length_nil, List.length_drop, List.length_take]; omega
   ·simp only [List.nil_append, List.length_cons, List.length_nil, List.length_drop, List.length_take]; omega
   ·simp only [List.nil_append, List.length_append, List.length_cons, List.length_nil, List.length_drop, List.length_take]; omega
   ·have e : SR t D stop now (i + 1) = Pdq.insE rLt (rowD t d) (SR t D stop now i) := by
     unfold SR
     rw [st1 d h1, List.filter_append]
     have : [d].filter (fun d => decide (now ≤ kyD d)) = [d] := by simp; omega
     rw [this, List.map_append, List.map_cons, List.map_nil, Pdq.isort_snoc]
    rw [e, ← v2, hnm]
    simp only [List.nil_append, show (0 : Int).toNat = 0 from rfl, List.drop_zero]
    rfl
 ·rw [h6, Option.bind_some, ixs hx, Option.bind_some, l23Delay_eq D hDl, Option.bind_some, if_pos (by decide), Option.bind_some, if_pos rfl]
  refine .ok ?_
  unfold SR
  rw [st2 h1]
def AskB (t : Timetable) (D : List TripDelay) (stop now : Int) : Prop := (GoodT t ∧ GoodD t D) ∧ (0 ≤ stop ∧ stop < (t.Network.Stops.length : Int)) ∧ 0 ≤ now ∧ now ≤ 1799
noncomputable instance (t : Timetable) (D : List TripDelay) (stop now : Int) : Decidable (AskB t D stop now) := Classical.propDecidable _
theorem askI {t : Timetable} (hb : TB t) {D : List TripDelay} (hDl : D.length ≤ 100000) (stop now : Int) : zq22 t D stop now = some (decide (AskB t D stop now)) := by
 rw [isBoard_eq hb hDl]
 exact congrArg some (decide_eq_decide.2 Iff.rfl)
theorem ibr_ok {t : Timetable} (hb : TB t) {D : List TripDelay} (hDl : D.length ≤ 100000) (stop now count : Int) : zq3 t D stop now count = some (if AskB t D stop now ∧ 1 ≤ count ∧ count ≤ 10 then ((allR t D stop now).take count.toNat, true) else ([], false)) := by
 unfold zq3
 rw [askI hb hDl, Option.bind_some, within_eq]
 by_cases h : AskB t D stop now
 ·rw [decide_eq_true h]
  by_cases h2 : 1 ≤ count ∧ count ≤ 10
  ·rw [decide_eq_true h2, show (if AskB t D stop now ∧ 1 ≤ count ∧ count ≤ 10 then ((allR t D stop now).take count.toNat, true) else ([], false)) = ((allR t D stop now).take count.toNat, true) from if_pos ⟨h, h2⟩]
   have hbr := brows_ok h.1.1 h.1.2 hDl stop now (count := count.toNat) (by omega)
   rw [show ((count.toNat : Nat) : Int) = count by omega] at hbr
   simp only [Bool.not_true, Bool.false_eq_true, if_false, Option.bind_some, hbr]
  ·rw [decide_eq_false h2, show (if AskB t D stop now ∧ 1 ≤ count ∧ count ≤ 10 then ((allR t D stop now).take count.toNat, true) else ([], false)) = ([], false) from if_neg (fun hh => h2 hh.2)]; rfl
 ·rw [decide_eq_false h, show (if AskB t D stop now ∧ 1 ≤ count ∧ count ≤ 10 then ((allR t D stop now).take count.toNat, true) else ([], false)) = ([], false) from if_neg (fun hh => h hh.1)]; rfl
theorem sbr_ok {t : Timetable} (hb : TB t) {D : List TripDelay} (hDl : D.length ≤ 100000) (stop now count : Int) : zq37 t D stop now count = some (if AskB t D stop now ∧ 1 ≤ count ∧ count ≤ 10 then ((allR t D stop now).take count.toNat, true) else ([], false)) := by
 unfold zq37
 rw [asked23_eq hb hDl, Option.bind_some, l1In_eq, time24_eq, Option.bind_some]
 by_cases h1 : (GoodT t ∧ GoodD t D) ∧ 0 ≤ stop ∧ stop < (t.Network.Stops.length : Int)
 ·rw [decide_eq_true h1]
  by_cases h2 : 0 ≤ now ∧ now ≤ 1799
  ·rw [decide_eq_true h2]
   have hA : AskB t D stop now := ⟨h1.1, h1.2, h2⟩
   by_cases h3 : 1 ≤ count ∧ count ≤ 10
   ·rw [decide_eq_true h3, show (if AskB t D stop now ∧ 1 ≤ count ∧ count ≤ 10 then ((allR t D stop now).take count.toNat, true) else ([], false)) = ((allR t D stop now).take count.toNat, true) from if_pos ⟨hA, h3⟩]
    have hsr := srows_ok h1.1.1 h1.1.2 hDl stop now
    have hll : (allR t D stop now).length ≤ 100 := by
     have := (sr_bd h1.1.1 h1.1.2 stop now t.Trips.length).1
     unfold SR at this
     rw [rowsort] at this
     have h12 := h1.1.1.2.1
     unfold allR
     omega
    simp only [Bool.not_true, Bool.false_eq_true, if_false, Option.bind_some, hsr]
    unfold zq61
    by_cases hc : count < ((allR t D stop now).length : Int)
    ·rw [decide_eq_true hc, if_pos rfl, Option.bind_some, chk_of ⟨by omega, by omega, by omega⟩, Option.bind_some]
     simp
    ·rw [decide_eq_false hc, if_neg (by simp), Option.bind_some, chk_of ⟨by omega, by omega, by omega⟩, Option.bind_some]
     simp only [Int.toNat_natCast, List.take_length, show (0 : Int).toNat = 0 from rfl, List.drop_zero]
     rw [List.take_of_length_le (by omega)]
   ·rw [decide_eq_false h3, show (if AskB t D stop now ∧ 1 ≤ count ∧ count ≤ 10 then ((allR t D stop now).take count.toNat, true) else ([], false)) = ([], false) from if_neg (fun hh => h3 hh.2)]; rfl
  ·rw [decide_eq_false h2, show (if AskB t D stop now ∧ 1 ≤ count ∧ count ≤ 10 then ((allR t D stop now).take count.toNat, true) else ([], false)) = ([], false) from if_neg (fun hh => h2 hh.1.2.2)]; rfl
 ·rw [decide_eq_false h1, show (if AskB t D stop now ∧ 1 ≤ count ∧ count ≤ 10 then ((allR t D stop now).take count.toNat, true) else ([], false)) = ([], false) from if_neg (fun hh => h1 ⟨hh.1.1, hh.1.2.1⟩)]; rfl
def padL (w : Nat) (l : List UInt8) : List UInt8 := l ++ List.replicate (w - l.length) 32
theorem rep32 : ∀ n : Nat, Lib.repeatL [32] n = List.replicate n 32
 | 0 => rfl
 | n + 1 => by rw [Lib.repeatL, rep32 n]; rfl
theorem padI (l : List UInt8) (w : Nat) (hl : l.length ≤ 10000) (hw : w ≤ 1000) : zq30 (str l) (w : Int) = some (str (padL w l)) := by
 unfold zq30 zq108 Go.Ab.repeatM
 have ew : w64 ((w : Int) - ((str l).size : Int)) = (w : Int) - l.length := by rw [str_s, w64_id (by omega)]
 have hm : (if (w : Int) - l.length > 0 then (w : Int) - l.length else 0) = ((w - l.length : Nat) : Int) := by split <;> omega
 have h1 : (str [32]).size = 1 := rfl
 rw [ew, hm, h1, if_pos ⟨by omega, by omega, by omega⟩, Option.bind_some, str_l, Int.toNat_natCast, rep32]
 have e : (⟨(List.replicate (w - l.length) (32 : UInt8)).toArray⟩ : ByteArray) = str (List.replicate (w - l.length) 32) := rfl
 rw [e, chk_of (by rw [str_s, str_s, List.length_replicate]; omega), Option.bind_some, str_app]
 rfl
theorem padS (l : List UInt8) (w : Nat) (hl : l.length ≤ 10000) (hw : w ≤ 1000) : zq69 (str l) (w : Int) = some (str (padL w l)) := by
 unfold zq69
 refine Tot.val (.call (P := fun r => r = str (padL w l)) ?_ fun r hr => .ok hr)
 refine Tot.iter (fun k (s : ByteArray) => ∃ i : Nat, k + i = w - l.length ∧ s = str (l ++ List.replicate i 32)) (n := w - l.length) ⟨0, by omega, by simp⟩ ?_
 rintro k _ ⟨i, hk, rfl⟩
 unfold zq69_L1
 dsimp only
 rw [str_s, List.length_append, List.length_replicate]
 refine .iteP (fun hlt => .chk (by rw [str_s]; simp; omega) (.nx ⟨k - 1, by omega, i + 1, by omega, ?_⟩)) (fun hge => .dn ?_)
 ·rw [str_app, List.append_assoc, ← List.replicate_succ']
 ·unfold padL
  rw [show w - l.length = i by omega]
def OKR (r : BoardRow) (now : Int) : Prop := (TmOK now ∧ TmOK r.Time) ∧ (0 ≤ r.Delay ∧ r.Delay ≤ 600) ∧ (NameOK r.Line ∧ NameOK r.Destination) ∧ now ≤ r.Time + r.Delay
noncomputable instance (r : BoardRow) (now : Int) : Decidable (OKR r now) := Classical.propDecidable _
def rtail (d : Int) : List UInt8 := if d = 0 then [110, 111, 119] else if d < 60 then num d.toNat ++ [32, 109, 105, 110] else []
def rhead (r : BoardRow) : List UInt8 := clk r.Time.toNat ++ [32] ++ padL 8 r.Line.data.toList ++ [32] ++ padL 8 r.Destination.data.toList ++ [32]
def rtx (r : BoardRow) (now : Int) : List UInt8 := padL 30 (rhead r ++ rtail (r.Time + r.Delay - now))
theorem pad_len (w : Nat) (l : List UInt8) (h : l.length ≤ w) : (padL w l).length = w := by
 unfold padL
 rw [List.length_append, List.length_replicate]; omega
theorem num2 {d : Int} (h0 : 0 ≤ d) (h1 : d < 60) : (num d.toNat).length ≤ 2 := by
 obtain ⟨n, hn⟩ : ∃ n : Nat, d.toNat = n := ⟨_, rfl⟩
 have h60 : n < 60 := by omega
 rw [hn]
 have one : ∀ m : Nat, m < 10 → (Lib.decDigits m).length = 1 := fun m hm => by rw [Lib.decDigits, dif_pos hm]; rfl
 unfold num
 by_cases h : n < 10
 ·rw [one n h]; omega
 ·rw [dd_big h, List.length_append, one _ (by omega)]; simp
theorem rhead_len {r : BoardRow} {now : Int} (h : OKR r now) : (rhead r).length = 24 := by
 obtain ⟨_, _, ⟨h1, h2⟩, _⟩ := h
 have a1 : r.Line.data.toList.length ≤ 8 := h1.1.2
 have a2 : r.Destination.data.toList.length ≤ 8 := h2.1.2
 have b1 := pad_len 8 _ a1
 have b2 := pad_len 8 _ a2
 have b3 := clk_len r.Time.toNat
 unfold rhead
 simp only [List.length_append, List.length_cons, List.length_nil, b1, b2, b3]
theorem rtail_len {d : Int} (h : 0 ≤ d) : (rtail d).length ≤ 6 := by
 unfold rtail
 split
 ·simp
 ·split
  ·rename_i h2
   have := num2 h h2
   simp only [List.length_append, List.length_cons, List.length_nil]; omega
  ·simp
theorem rtx_len {r : BoardRow} {now : Int} (h : OKR r now) : (rtx r now).length = 30 := by
 unfold rtx
 refine pad_len 30 _ ?_
 have := rhead_len h
 have h4 := h.2.2.2
 have := rtail_len (d := r.Time + r.Delay - now) (by omega)
 rw [List.length_append]; omega
theorem irt_ok {r : BoardRow} {now : Int} (h : OKR r now) : zq31 r now = some (str (rtx r now)) := by
 have hh := rhead_len h
 obtain ⟨⟨hn, ht⟩, hd, ⟨h1, h2⟩, h4⟩ := h
 have a1 : r.Line.data.toList.length ≤ 8 := h1.1.2
 have a2 : r.Destination.data.toList.length ≤ 8 := h2.1.2
 have b1 := pad_len 8 _ a1
 have b2 := pad_len 8 _ a2
 have b3 := clk_len r.Time.toNat
 have hn1 := hn.1; have hn2 := hn.2; have ht1 := ht.1; have ht2 := ht.2
 have ed : w64 (w64 (r.Time + r.Delay) - now) = r.Time + r.Delay - now := by rw [w64_id (x := r.Time + r.Delay) (by omega), w64_id (by omega)]
 have p1 := padI r.Line.data.toList 8 (by omega) (by omega)
 have p2 := padI r.Destination.data.toList 8 (by omega) (by omega)
 rw [← str_of, show ((8 : Nat) : Int) = 8 from rfl] at p1 p2
 have hr : ∀ v : List UInt8, str (clk r.Time.toNat) ++ str [32] ++ str (padL 8 r.Line.data.toList) ++ str [32] ++ str (padL 8 r.Destination.data.toList) ++ str [32] = str (rhead r) := fun _ => by
  simp only [str_app]; rfl
 unfold zq31
 rw [iText_ok ht1 (by omega)]
 simp only [Option.bind_some]
 rw [p1, p2, ed]
 simp only [Option.bind_some]
 rw [chk_of (by rw [str_s, str_s, b3]; simp), Option.bind_some]
 rw [chk_of (by rw [str_app, str_s, str_s, b1]; simp [b3]), Option.bind_some, chk_of (by simp only [str_app, str_s, List.length_append, b1, b3]; simp), Option.bind_some, chk_of (by simp only [str_app, str_s, List.length_append, b1, b2, b3]; simp), Option.bind_some, chk_of (by simp only [str_app, str_s, List.length_append, b1, b2, b3]; simp), Option.bind_some]
 rw [hr []]
 have fin : ∀ T : List UInt8, T.length ≤ 6 → T = rtail (r.Time + r.Delay - now) → ((zq30 (str (rhead r ++ T)) 30).bind fun r8 => some r8) = some (str (rtx r now)) := by
  intro T hT e
  have := padI (rhead r ++ T) 30 (by rw [List.length_append]; omega) (by omega)
  rw [show (((30 : Nat) : Int)) = 30 from rfl] at this
  rw [this, Option.bind_some]
  unfold rtx
  rw [e]
 by_cases c1 : r.Time + r.Delay - now = 0
 ·rw [if_pos (by simp [c1]), chk_of (by rw [str_s, str_s, hh]; simp), Option.bind_some, Option.bind_some, str_app]
  exact fin _ (by simp) (by unfold rtail; rw [if_pos c1])
 ·rw [if_neg (by simp [c1])]
  by_cases c2 : r.Time + r.Delay - now < 60
  ·have hnl := num2 (d := r.Time + r.Delay - now) (by omega) c2
   rw [decide_eq_true c2, if_pos rfl, iItoa (by omega) (by omega), Option.bind_some, itoa_n (by omega), chk_of (by rw [str_s, str_s]; simp; omega), Option.bind_some, str_app, chk_of (by rw [str_s, str_s, hh, List.length_append]; simp; omega), Option.bind_some, Option.bind_some, str_app]
   exact fin _ (by rw [List.length_append]; simp; omega) (by unfold rtail; rw [if_neg c1, if_pos c2])
  ·rw [decide_eq_false c2, if_neg (by simp), Option.bind_some]
   have := fin [] (by simp) (by unfold rtail; rw [if_neg c1, if_neg c2])
   rw [List.append_nil] at this
   exact this
theorem srt_ok {r : BoardRow} {now : Int} (h : OKR r now) : zq71 r now = some (str (rtx r now)) := by
 have hh := rhead_len h
 obtain ⟨⟨hn, ht⟩, hd, ⟨h1, h2⟩, h4⟩ := h
 have a1 : r.Line.data.toList.length ≤ 8 := h1.1.2
 have a2 : r.Destination.data.toList.length ≤ 8 := h2.1.2
 have b1 := pad_len 8 _ a1
 have b2 := pad_len 8 _ a2
 have b3 := clk_len r.Time.toNat
 have hn1 := hn.1; have hn2 := hn.2; have ht1 := ht.1; have ht2 := ht.2
 have ed : w64 (w64 (r.Time + r.Delay) - now) = r.Time + r.Delay - now := by rw [w64_id (x := r.Time + r.Delay) (by omega), w64_id (by omega)]
 have p1 := padS r.Line.data.toList 8 (by omega) (by omega)
 have p2 := padS r.Destination.data.toList 8 (by omega) (by omega)
 rw [← str_of, show ((8 : Nat) : Int) = 8 from rfl] at p1 p2
 have hr : ∀ v : List UInt8, str (clk r.Time.toNat) ++ str [32] ++ str (padL 8 r.Line.data.toList) ++ str [32] ++ str (padL 8 r.Destination.data.toList) ++ str [32] = str (rhead r) := fun _ => by
  simp only [str_app]; rfl
 unfold zq71
 rw [lText_ok ht1 (by omega)]
 simp only [Option.bind_some]
 rw [p1, p2, ed]
 simp only [Option.bind_some]
 rw [chk_of (by rw [str_s, str_s, b3]; simp), Option.bind_some]
 rw [chk_of (by rw [str_app, str_s, str_s, b1]; simp [b3]), Option.bind_some, chk_of (by simp only [str_app, str_s, List.length_append, b1, b3]; simp), Option.bind_some, chk_of (by simp only [str_app, str_s, List.length_append, b1, b2, b3]; simp), Option.bind_some, chk_of (by simp only [str_app, str_s, List.length_append, b1, b2, b3]; simp), Option.bind_some]
 rw [hr []]
 have fin : ∀ T : List UInt8, T.length ≤ 6 → T = rtail (r.Time + r.Delay - now) → ((zq69 (str (rhead r ++ T)) 30).bind fun r8 => some r8) = some (str (rtx r now)) := by
  intro T hT e
  have := padS (rhead r ++ T) 30 (by rw [List.length_append]; omega) (by omega)
  rw [show (((30 : Nat) : Int)) = 30 from rfl] at this
  rw [this, Option.bind_some]
  unfold rtx
  rw [e]
 by_cases c1 : r.Time + r.Delay - now = 0
 ·rw [if_pos (by simp [c1]), chk_of (by rw [str_s, str_s, hh]; simp), Option.bind_some, Option.bind_some, str_app]
  exact fin _ (by simp) (by unfold rtail; rw [if_pos c1])
 ·rw [if_neg (by simp [c1])]
  by_cases c2 : r.Time + r.Delay - now < 60
  ·have hnl := num2 (d := r.Time + r.Delay - now) (by omega) c2
   rw [decide_eq_true c2, if_pos rfl, lnum_ok (by omega) (by omega), Option.bind_some, chk_of (by rw [str_s, str_s, hh]; omega), Option.bind_some, str_app, chk_of (by rw [str_s, str_s, List.length_append, hh]; simp; omega), Option.bind_some, Option.bind_some, str_app, List.append_assoc]
   exact fin _ (by rw [List.length_append]; simp; omega) (by unfold rtail; rw [if_neg c1, if_pos c2])
  ·rw [decide_eq_false c2, if_neg (by simp), Option.bind_some]
   have := fin [] (by simp) (by unfold rtail; rw [if_neg c1, if_neg c2])
   rw [List.append_nil] at this
   exact this
theorem iRT_ok (r : BoardRow) (now : Int) (hd : -1000000 ≤ r.Time ∧ r.Time ≤ 1000000) (hd2 : -1000000 ≤ r.Delay ∧ r.Delay ≤ 1000000) : zq10 r now = some (if OKR r now then (str (rtx r now), true) else (str [], false)) := by
 have hw : w64 (r.Time + r.Delay) = r.Time + r.Delay := w64_id (by omega)
 unfold zq10
 simp only [itime24_eq, within_eq, isName_eq, hw, Option.bind_some]
 by_cases a : 0 ≤ now ∧ now ≤ 1799
 ·by_cases b : 0 ≤ r.Time ∧ r.Time ≤ 1799
  ·by_cases c : 0 ≤ r.Delay ∧ r.Delay ≤ 600
   ·by_cases d : NameOK r.Line
    ·by_cases e : NameOK r.Destination
     ·by_cases f : r.Time + r.Delay < now
      ·have : ¬ OKR r now := fun h => by have := h.2.2.2; omega
       simp [a, b, c, d, e, f, this]
      ·have hO : OKR r now := ⟨⟨a, b⟩, c, ⟨d, e⟩, by omega⟩
       simp [a, b, c, d, e, f, hO, irt_ok hO]
     ·have : ¬ OKR r now := fun h => e h.2.2.1.2
      simp [a, b, c, d, e, this]
    ·have : ¬ OKR r now := fun h => d h.2.2.1.1
     simp [a, b, c, d, this]
   ·have : ¬ OKR r now := fun h => c h.2.1
    simp [a, b, c, this]
  ·have : ¬ OKR r now := fun h => b h.1.2
   simp [a, b, this]
 ·have : ¬ OKR r now := fun h => a h.1.1
  simp [a, this]
theorem sRT_ok (r : BoardRow) (now : Int) (hd : -1000000 ≤ r.Time ∧ r.Time ≤ 1000000) (hd2 : -1000000 ≤ r.Delay ∧ r.Delay ≤ 1000000) : zq41 r now = some (if OKR r now then (str (rtx r now), true) else (str [], false)) := by
 have hw : w64 (r.Time + r.Delay) = r.Time + r.Delay := w64_id (by omega)
 unfold zq41
 simp only [time24_eq, l1In_eq, l2Name_eq, hw, Option.bind_some]
 by_cases a : 0 ≤ now ∧ now ≤ 1799
 ·by_cases b : 0 ≤ r.Time ∧ r.Time ≤ 1799
  ·by_cases c : 0 ≤ r.Delay ∧ r.Delay ≤ 600
   ·by_cases d : NameOK r.Line
    ·by_cases e : NameOK r.Destination
     ·by_cases f : r.Time + r.Delay < now
      ·have : ¬ OKR r now := fun h => by have := h.2.2.2; omega
       simp [a, b, c, d, e, f, this]
      ·have hO : OKR r now := ⟨⟨a, b⟩, c, ⟨d, e⟩, by omega⟩
       simp [a, b, c, d, e, f, hO, srt_ok hO]
     ·have : ¬ OKR r now := fun h => e h.2.2.1.2
      simp [a, b, c, d, e, this]
    ·have : ¬ OKR r now := fun h => d h.2.2.1.1
     simp [a, b, c, d, this]
   ·have : ¬ OKR r now := fun h => c h.2.1
    simp [a, b, c, this]
  ·have : ¬ OKR r now := fun h => b h.1.2
   simp [a, b, this]
 ·have : ¬ OKR r now := fun h => a h.1.1
  simp [a, this]
def upd (now b a : Int) : Int := if now ≤ a ∧ (b < 0 ∨ a < b) then a else b
def nb (t : Timetable) (D : List TripDelay) (stop now k : Int) (i : Nat) : Int := ((dps t D stop i).filter fun d => d.trip_.Line == k).foldl (fun b d => upd now b (kyD d)) (-1)
def nbL (S : List departure) (now k : Int) : Int := (S.filter fun d => d.trip_.Line == k).foldl (fun b d => upd now b (kyD d)) (-1)
theorem nbL_snoc {S : List departure} {i : Nat} {d : departure} (h : S[i]? = some d) (now k : Int) : nbL (S.take (i + 1)) now k = if (d.trip_.Line == k) = true then upd now (nbL (S.take i) now k) (kyD d) else nbL (S.take i) now k := by
 unfold nbL
 rw [take_succ h, List.filter_append]
 by_cases hp : (d.trip_.Line == k) = true
 ·have e : [d].filter (fun d => d.trip_.Line == k) = [d] := by simp [hp]
  rw [e, List.foldl_append, if_pos hp]; rfl
 ·have e : [d].filter (fun d => d.trip_.Line == k) = [] := by simp [hp]
  rw [e, List.append_nil, if_neg hp]
theorem inext_ok {t : Timetable} (hb : TB t) {D : List TripDelay} (hDl : D.length ≤ 100000) (stop now : Int) (hA : AskB t D stop now) : Tot (zq9 t D stop now) fun r => r.2 = true ∧ r.1.length = t.Network.Lines.length ∧ ∀ k : Nat, k < t.Network.Lines.length → r.1[k]? = some (nbL (dps t D stop t.Trips.length) now k) := by
 have hT := hA.1.1
 have h12 := hT.2.1
 have h5 := hT.1.2.1.2
 have hle := dps_le (t := t) (D := D) (stop := stop) (k := t.Trips.length)
 unfold zq9
 rw [askI hb hDl, Option.bind_some, decide_eq_true hA, if_neg (by simp)]
 refine .chk (by omega) (.call (P := fun o => o.length = t.Network.Lines.length ∧ ∀ k : Nat, k < t.Network.Lines.length → o[k]? = some (-1)) (Tot.iter (fun q (s : Int × List Int) => ∃ i : Nat, q + i = t.Network.Lines.length ∧ s.1 = (i : Int) ∧ s.2.length = t.Network.Lines.length ∧ ∀ k : Nat, k < i → s.2[k]? = some (-1)) (n := t.Network.Lines.length) ⟨0, by omega, rfl, by simp, by omega⟩ ?_) fun a1 ⟨ha, hv⟩ => ?_)
 ·rintro q ⟨v, at_⟩ ⟨i, hq, hv, hl, hk⟩
  dsimp only at hv hl hk
  subst hv
  unfold zq9_L1
  dsimp only
  rw [List.length_replicate, Int.toNat_natCast]
  refine .iteP (fun hlt => .idx (by omega) (by omega) fun e he => .nx ⟨q - 1, by omega, i + 1, by omega, w64_succ (by omega), by rw [List.length_set]; exact hl, fun k hki => ?_⟩) (fun hge => .dn ⟨hl, fun k hk' => hk k (by omega)⟩)
  rw [Int.toNat_natCast]
  by_cases h : k = i
  ·subst h
   exact List.getElem?_set_self (by omega)
  ·rw [List.getElem?_set_ne (by omega)]
   exact hk k (by omega)
 ·rw [depAt_ok hT hDl, Option.bind_some]
  have hU : ∀ d ∈ dps t D stop t.Trips.length, UD d ∧ 0 ≤ d.trip_.Line ∧ d.trip_.Line < t.Network.Lines.length := by
   intro d hd
   obtain ⟨j, hj⟩ := dp_trip hT hd
   obtain ⟨l, hl, _⟩ := trip_line hT hj
   have := idx_some hl
   exact ⟨dp_rng hT hA.1.2 hd, this.1, this.2.1⟩
  generalize dps t D stop t.Trips.length = S at hle hU ⊢
  refine .call (P := fun o => o.length = t.Network.Lines.length ∧ ∀ k : Nat, k < t.Network.Lines.length → o[k]? = some (nbL S now k)) (Tot.iter (fun q (s : Int × List Int) => ∃ i : Nat, q + i = S.length ∧ s.1 = (i : Int) ∧ s.2.length = t.Network.Lines.length ∧ ∀ k : Nat, k < t.Network.Lines.length → s.2[k]? = some (nbL (S.take i) now k)) (n := S.length) ⟨0, by omega, rfl, ha, fun k hk => by rw [hv k hk]; rfl⟩ ?_) fun a4 ⟨h1, h2⟩ => .ok ⟨rfl, h1, h2⟩
  rintro q ⟨v, at_⟩ ⟨i, hq, hv, hl, hk⟩
  dsimp only at hv hl hk
  subst hv
  unfold zq9_L2
  dsimp only
  refine .iteP (fun hlt => ?_) (fun hge => .dn ⟨hl, fun k hk' => by rw [hk k hk', show i = S.length by omega, List.take_length]⟩)
  obtain ⟨d, hd⟩ := get_ex (l := S) (i := i) (by omega)
  obtain ⟨⟨⟨u1, u2⟩, u3, u4⟩, l0, l1⟩ := hU d (List.mem_of_getElem? hd)
  have hw : w64 (d.time_ + d.delay_) = kyD d := w64_id (by omega)
  obtain ⟨m, hm⟩ : ∃ m : Nat, d.trip_.Line = (m : Int) := ⟨d.trip_.Line.toNat, by omega⟩
  have hmk := hk m (by omega)
  have hix : idx at_ d.trip_.Line = some (nbL (S.take i) now m) := by rw [hm]; exact ixs hmk
  rw [ixs hd, Option.bind_some, hix, Option.bind_some, hw]
  refine .call (P := fun o => o = at_.set m (upd now (nbL (S.take i) now m) (kyD d))) ?_ fun o ho => .nx ⟨q - 1, by omega, i + 1, by omega, w64_succ (by omega), by show o.length = _; rw [ho, List.length_set]; exact hl, fun k hk' => ?_⟩
  ·have hsame : at_.set m (nbL (S.take i) now m) = at_ := set_same hmk
   unfold upd
   by_cases c1 : now ≤ kyD d
   ·rw [decide_eq_true c1, if_pos rfl]
    by_cases c2 : nbL (S.take i) now m < 0
    ·rw [decide_eq_true c2, if_pos rfl, Option.bind_some, if_pos rfl, if_pos ⟨c1, .inl c2⟩, Option.bind_some, hm, Int.toNat_natCast]
     exact .ok rfl
    ·rw [decide_eq_false c2, if_neg (by simp), Option.bind_some]
     by_cases c3 : kyD d < nbL (S.take i) now m
     ·rw [decide_eq_true c3, if_pos rfl, if_pos ⟨c1, .inr c3⟩, Option.bind_some, hm, Int.toNat_natCast]
      exact .ok rfl
     ·rw [decide_eq_false c3, if_neg (by simp), if_neg (by omega), hsame]
      exact .ok rfl
   ·rw [decide_eq_false c1, if_neg (by simp), Option.bind_some, if_neg (by simp), if_neg (by omega), hsame]
    exact .ok rfl
  ·show o[k]? = _
   rw [ho, nbL_snoc hd]
   by_cases h : k = m
   ·subst h
    rw [List.getElem?_set_self (by omega), if_pos (by simp [hm])]
   ·rw [List.getElem?_set_ne (by omega), hk k hk', if_neg (by simp [hm]; omega)]
theorem snext_in {t : Timetable} (hT : GoodT t) {D : List TripDelay} (hD : GoodD t D) (hDl : D.length ≤ 100000) (stop now k : Int) : iter (zq40_L1 t D stop now k) (((-1) : Int), (0 : Int)) = some (nbL (dps t D stop t.Trips.length) now k) := by
 have h12 := hT.2.1
 refine Tot.val (Tot.iter (fun q (s : Int × Int) => ∃ i : Nat, q + i = t.Trips.length ∧ s = (nbL (dps t D stop i) now k, (i : Int))) (n := t.Trips.length) ⟨0, by omega, rfl⟩ ?_)
 rintro q _ ⟨i, hq, rfl⟩
 unfold zq40_L1
 dsimp only
 refine .iteP (fun hlt => ?_) (fun hge => .dn (by rw [show i = t.Trips.length by omega]))
 obtain ⟨x, hx⟩ := get_ex (l := t.Trips) (i := i) (by omega)
 obtain ⟨st1, st2⟩ := dps_step (D := D) (stop := stop) hx
 refine .call (P := fun o => o = nbL (dps t D stop (i + 1)) now k) ?_ fun o ho => .nx ⟨q - 1, by omega, i + 1, by omega, by rw [ho, w64_succ (by omega)]⟩
 rcases l23Dep_ok hT D hx stop with ⟨d, h1, h2, h3, h4, h5, h6⟩ | ⟨h1, h6⟩
 ·have hmem : d ∈ dps t D stop t.Trips.length := dps_mem (k := i + 1) (by rw [st1 d h1]; simp)
  have hr := dp_rng hT hD hmem
  have hw : w64 (d.time_ + d.delay_) = kyD d := w64_id (by omega)
  rw [h6, Option.bind_some, ixs hx, Option.bind_some, l23Delay_eq D hDl, Option.bind_some, ← h3, Option.bind_some, hw, st1 d h1]
  have hst := nbL_snoc (S := dps t D stop i ++ [d]) (i := (dps t D stop i).length) (d := d) (by simp) now k
  rw [List.take_of_length_le (by simp), List.take_left' rfl] at hst
  rw [hst, h2]
  unfold upd
  by_cases c0 : (x.Line == k) = true
  ·rw [if_pos c0, if_pos c0, decide_eq_true (show 0 ≤ d.time_ by omega), if_pos rfl]
   by_cases c1 : now ≤ kyD d
   ·rw [decide_eq_true c1, if_pos rfl]
    by_cases c2 : nbL (dps t D stop i) now k < 0
    ·rw [decide_eq_true c2, if_pos rfl, Option.bind_some, if_pos rfl, if_pos ⟨c1, .inl c2⟩]
     exact .ok rfl
    ·rw [decide_eq_false c2, if_neg (by simp), Option.bind_some]
     by_cases c3 : kyD d < nbL (dps t D stop i) now k
     ·rw [decide_eq_true c3, if_pos rfl, if_pos ⟨c1, .inr c3⟩]
      exact .ok rfl
     ·rw [decide_eq_false c3, if_neg (by simp), if_neg (by omega)]
      exact .ok rfl
   ·rw [decide_eq_false c1, if_neg (by simp), Option.bind_some, if_neg (by simp), if_neg (by omega)]
    exact .ok rfl
  ·rw [if_neg c0, if_neg c0, Option.bind_some, if_neg (by simp)]
   exact .ok rfl
 ·rw [h6, Option.bind_some, ixs hx, Option.bind_some, l23Delay_eq D hDl, Option.bind_some, Option.bind_some, st2 h1]
  by_cases c0 : (x.Line == k) = true
  ·rw [if_pos c0, if_neg (by decide), Option.bind_some, if_neg (by simp)]
   exact .ok rfl
  ·rw [if_neg c0, Option.bind_some, if_neg (by simp)]
   exact .ok rfl
theorem snext_ok {t : Timetable} (hb : TB t) {D : List TripDelay} (hDl : D.length ≤ 100000) (stop now : Int) (hA : AskB t D stop now) : Tot (zq40 t D stop now) fun r => r.1.length = t.Network.Lines.length ∧ ∀ k : Nat, k < t.Network.Lines.length → r.1[k]? = some (nbL (dps t D stop t.Trips.length) now k) := by
 have hT := hA.1.1
 have h5 := hT.1.2.1.2
 unfold zq40
 rw [asked23_eq hb hDl, Option.bind_some, time24_eq, decide_eq_true ⟨hA.1, hA.2.1⟩, decide_eq_true hA.2.2, if_neg (by simp), Option.bind_some, Option.bind_some, if_neg (by simp)]
 refine .call (P := fun o => o.length = t.Network.Lines.length ∧ ∀ k : Nat, k < t.Network.Lines.length → o[k]? = some (nbL (dps t D stop t.Trips.length) now k)) (Tot.iter (fun q (s : Int × List Int) => ∃ i : Nat, q + i = t.Network.Lines.length ∧ s.1 = (i : Int) ∧ s.2.length = i ∧ ∀ k : Nat, k < i → s.2[k]? = some (nbL (dps t D stop t.Trips.length) now k)) (n := t.Network.Lines.length) ⟨0, by omega, rfl, rfl, by omega⟩ ?_) fun a1 h => .ok h
 rintro q ⟨v, at_⟩ ⟨i, hq, hv, hl, hk⟩
 dsimp only at hv hl hk
 subst hv
 unfold zq40_L2
 dsimp only
 refine .iteP (fun hlt => ?_) (fun hge => .dn ⟨by omega, fun k hk' => hk k (by omega)⟩)
 rw [snext_in hT hA.1.2 hDl, Option.bind_some]
 refine .chk (by simp; omega) (.nx ⟨q - 1, by omega, i + 1, by omega, w64_succ (by omega), by show (at_ ++ [_]).length = _; simp; omega, fun k hk' => ?_⟩)
 show (at_ ++ [_])[k]? = _
 by_cases h : k = i
 ·subst h
  rw [List.getElem?_append_right (by omega), hl]; simp
 ·rw [List.getElem?_append_left (by omega)]
  exact hk k (by omega)
theorem list_same {α : Type} {a b : List α} {n : Nat} {f : Nat → α} (ha : a.length = n) (hb : b.length = n) (h1 : ∀ k, k < n → a[k]? = some (f k)) (h2 : ∀ k, k < n → b[k]? = some (f k)) : a = b := by
 apply List.ext_getElem?
 intro k
 by_cases h : k < n
 ·rw [h1 k h, h2 k h]
 ·rw [List.getElem?_eq_none (by omega), List.getElem?_eq_none (by omega)]
theorem sum_take_le : ∀ {l : List Int} (k : Nat), (∀ x ∈ l, 0 ≤ x) → (l.take k).sum ≤ l.sum
 | [], k, _ => by simp
 | x :: l, 0, h => by
  have := sum_nonneg h
  simpa using this
 | x :: l, k + 1, h => by
  have := sum_take_le (l := l) k (fun y hy => h y (by simp [hy]))
  simp only [List.take_succ_cons, List.sum_cons]; omega
theorem dp_tm {t : Timetable} (hT : GoodT t) {D : List TripDelay} {stop : Int} {d : departure} (h : d ∈ dps t D stop t.Trips.length) : d.time_ ≤ 1799 := by
 unfold dps at h
 rw [List.take_length] at h
 obtain ⟨x, hx1, hx2⟩ := List.mem_filterMap.1 h
 obtain ⟨j, hj⟩ := List.getElem?_of_mem hx1
 obtain ⟨_, l, hl, hs, h1, h2⟩ := hT.2.2.1 j x hj
 obtain ⟨_, _, h3⟩ := idx_some hl
 have hp := (hT.1.2.2.2.2 _ l h3).2.2.2
 rw [dpT_eq hl] at hx2
 split at hx2
 ·cases hx2
  have := sum_take_le (l := l.Runs) (fixI (fun e => stop == e) l.Stops).toNat (fun y hy => by
   obtain ⟨q, hq⟩ := List.mem_iff_getElem?.1 hy
   have := hp q y hq
   omega)
  dsimp only
  omega
 ·cases hx2
theorem allR_ok {t : Timetable} {D : List TripDelay} {stop now : Int} (hA : AskB t D stop now) : (allR t D stop now).length ≤ 12 ∧ (∀ e ∈ allR t D stop now, OKR e now) ∧ (allR t D stop now).Pairwise fun a b => a.Time + a.Delay ≤ b.Time + b.Delay := by
 have hT := hA.1.1
 have h12 := hT.2.1
 have hp := Pdq.isort_perm (lt := bLt) (dps t D stop t.Trips.length)
 have hs := Pdq.isort_sorted bLt_tr bLt_as (dps t D stop t.Trips.length)
 refine ⟨?_, fun e he => ?_, ?_⟩
 ·unfold allR
  rw [List.length_map]
  have h1 := List.length_filter_le (fun d => decide (now ≤ kyD d)) (Pdq.isort bLt (dps t D stop t.Trips.length))
  have h2 := hp.length_eq
  have h3 := dps_le (t := t) (D := D) (stop := stop) (k := t.Trips.length)
  omega
 ·unfold allR at he
  obtain ⟨d, hd, rfl⟩ := List.mem_map.1 he
  obtain ⟨hd1, hd2⟩ := List.mem_filter.1 hd
  have hd3 := hp.mem_iff.1 hd1
  have hr := dp_rng hT hA.1.2 hd3
  have ht := dp_tm hT hd3
  obtain ⟨j, hj⟩ := dp_trip hT hd3
  obtain ⟨_, _, _, _, _, _, _, n1, n2⟩ := trip_row hT hj
  have hk : now ≤ kyD d := of_decide_eq_true hd2
  exact ⟨⟨hA.2.2, ⟨hr.1.1, ht⟩⟩, hr.2, ⟨n1, n2⟩, hk⟩
 ·unfold allR
  refine List.pairwise_map.2 ((hs.filter _).imp fun {a b} h => ?_)
  unfold bLt at h
  rw [decide_eq_false_iff_not] at h
  show kyD a ≤ kyD b
  omega
def btx (R : List BoardRow) (now : Int) : List UInt8 := R.flatMap fun e => rtx e now ++ [10]
theorem btx_succ {R : List BoardRow} {i : Nat} {e : BoardRow} (h : R[i]? = some e) (now : Int) : btx (R.take (i + 1)) now = btx (R.take i) now ++ (rtx e now ++ [10]) := by
 unfold btx
 rw [take_succ h, List.flatMap_append]
 simp
theorem btx_len {now : Int} : ∀ {R : List BoardRow}, (∀ e ∈ R, OKR e now) → (btx R now).length = 31 * R.length
 | [], _ => by simp [btx]
 | e :: R, h => by
  have ih := btx_len (R := R) (fun x hx => h x (by simp [hx]))
  have := rtx_len (h e (by simp))
  have e2 : btx (e :: R) now = (rtx e now ++ [10]) ++ btx R now := rfl
  rw [e2, List.length_append, List.length_append, ih, this]
  simp only [List.length_cons, List.length_nil]; omega
theorem ibt_ok {t : Timetable} (hb : TB t) {D : List TripDelay} (hDl : D.length ≤ 100000) {stop now count : Int} (hA : AskB t D stop now) (hc : 1 ≤ count ∧ count ≤ 10) : zq4 t D stop now count = some (str (btx ((allR t D stop now).take count.toNat) now), true) := by
 obtain ⟨hl, hO, _⟩ := allR_ok hA
 unfold zq4 zq16
 have hbr := brows_ok hA.1.1 hA.1.2 hDl stop now (count := count.toNat) (by omega)
 rw [show ((count.toNat : Nat) : Int) = count by omega] at hbr
 rw [askI hb hDl, Option.bind_some, decide_eq_true hA, if_neg (by simp), within_eq, decide_eq_true hc, Option.bind_some, Option.bind_some, if_neg (by simp), hbr, Option.bind_some]
 have hO' : ∀ e ∈ (allR t D stop now).take count.toNat, OKR e now := fun e he => hO e (List.mem_of_mem_take he)
 have hl' : ((allR t D stop now).take count.toNat).length ≤ 12 := by rw [List.length_take]; omega
 generalize (allR t D stop now).take count.toNat = R at hO' hl' ⊢
 have hq0 : iter (zq16_L1 now R) ((0 : Int), ([] : List UInt8)) = some (btx R now) := by
  refine Tot.val (Tot.iter (fun q (s : Int × List UInt8) => ∃ i : Nat, q + i = R.length ∧ s = ((i : Int), btx (R.take i) now)) (n := R.length) ⟨0, by omega, rfl⟩ ?_)
  rintro q _ ⟨i, hq, rfl⟩
  unfold zq16_L1
  dsimp only
  refine .iteP (fun hlt => .idx (by omega) hlt fun e he => ?_) (fun hge => .dn (by rw [show i = R.length by omega, List.take_length]))
  have he := get_nat he
  have hOe := hO' e (List.mem_of_getElem? he)
  have h30 := rtx_len hOe
  have hbl := btx_len (R := R.take i) (fun x hx => hO' x (List.mem_of_mem_take hx))
  rw [List.length_take] at hbl
  rw [irt_ok hOe, Option.bind_some, chk_of (by rw [str_s, str_s, h30]; simp), Option.bind_some, str_app, ws_ok _ _ (by simp only [List.length_append, List.length_cons, List.length_nil]; omega), Option.bind_some]
  exact .nx ⟨q - 1, by omega, i + 1, by omega, by rw [w64_succ (by omega), btx_succ he]⟩
 rw [hq0]
 rfl
theorem row_self (e : BoardRow) : ((e.Time == e.Time) && ((e.Delay == e.Delay) && ((e.Line.toList == e.Line.toList) && ((e.Destination.toList == e.Destination.toList) && true)))) = true := by simp
theorem rBigB (code : List UInt8) : zq109 code = some (decide (65536 < (code.length : Int))) := rfl
theorem rinB (l : List Int) (hl : l.length ≤ 1000000) : zq110 l l = some true := by
 unfold zq110
 rw [if_neg (by simp)]
 refine Tot.val (Tot.flb (Tot.iter (fun n (v : Int) => ∃ i : Nat, n + i = l.length ∧ v = (i : Int)) (n := l.length) ⟨0, by omega, rfl⟩ ?_))
 rintro n _ ⟨i, hn, rfl⟩
 unfold zq110_L1
 dsimp only
 refine .iteP (fun hlt => .idx (by omega) hlt fun x hx => ?_) (fun hge => .dn ⟨fun r hr => (by cases hr), fun u _ => .ok rfl⟩)
 obtain ⟨y, hy, hye⟩ : ∃ y, idx l (i : Int) = some y ∧ y = x := ⟨x, ixs (get_nat hx), rfl⟩
 subst hye
 refine .eq hy ?_
 rw [if_neg (by simp)]
 exact .nx ⟨n - 1, by omega, i + 1, by omega, w64_succ (by omega)⟩
theorem dbr_ok (code : List UInt8) : Tot (zq38 code) fun r => TB r.1 ∧ r.2.1.length ≤ 40 := by
 have h0 := (cur0 code).mono (k' := 10) (by omega)
 unfold zq38
 refine .call (anyTimetable_ok h0 (by omega)) fun r ⟨hc, hd⟩ => .call (delays23_ok hc (by omega) hd) fun r1 ⟨hc1, hl⟩ => .call (stopOf_ok hc1 (by omega) hd) fun r2 hc2 => .call (now23_ok _ hc2 (by omega)) fun r3 hc3 => .call (t_pick 24 hc3 (by omega)) fun r6 ⟨hc6, a0, a1⟩ => .chk (by decide) ?_
 have e1 : r6.1.tdiv 11 = r6.1 / 11 := Int.tdiv_eq_ediv_of_nonneg a0
 have e2 : w64 (5 + w64 (r6.1.tdiv 11)) = 5 + r6.1 / 11 := by rw [e1, w64_id (x := r6.1 / 11) (by omega), w64_id (by omega)]
 rw [e2]
 refine .chk ⟨by omega, by omega, by simp; omega⟩ (.call (t_amongw _ ?_ hc6 (by omega)) fun r7 _ => .ok ⟨hd.tb, hl⟩)
 intro h
 have := congrArg List.length h
 simp at this
 omega
theorem drt_ok (code : List UInt8) : Tot (zq39 code) fun r => (-1000000 ≤ r.1.Time ∧ r.1.Time ≤ 1000000) ∧ -1000000 ≤ r.1.Delay ∧ r.1.Delay ≤ 1000000 := by
 have h0 := (cur0 code).mono (k' := 10) (by omega)
 have big : ∀ {l : List Int} {x : Int}, (l.all fun y => decide (-1000000 ≤ y ∧ y ≤ 1000000)) = true → x ∈ l → -1000000 ≤ x ∧ x ≤ 1000000 := fun h hx => by simpa using List.all_eq_true.1 h _ hx
 unfold zq39
 refine .call (t_amongw _ (by simp) h0 (by omega)) fun r ⟨h1, m1⟩ => .call (t_amongw _ (by simp) h1 (by omega)) fun r1 ⟨h2, m2⟩ => .call (of_ok _ (by simp) h2 (by omega)) fun r2 ⟨h3, _⟩ => .call (of_ok _ (by simp) h3 (by omega)) fun r3 ⟨h4, _⟩ => .call (t_amongw _ (by simp) h4 (by omega)) fun r5 ⟨h5, _⟩ => ?_
 have b1 := big (by decide) m1
 have b2 := big (by decide) m2
 refine .call (P := fun o => (-1000000 ≤ o.1 ∧ o.1 ≤ 1000000) ∧ -1000000 ≤ o.2.1 ∧ o.2.1 ≤ 1000000) (.call (t_pick 30 h5 (by omega)) fun r6 ⟨h6, _⟩ => .ite (fun _ => .call (t_amongw _ (by simp) h6 (by omega)) fun r7 ⟨_, m⟩ => .ok ⟨big (by decide) m, b2⟩) (fun _ => .ite (fun _ => .call (t_amongw _ (by simp) h6 (by omega)) fun r8 ⟨_, m⟩ => .ok ⟨b1, big (by decide) m⟩) (fun _ => .ite (fun _ => .call (of_ok _ (by simp) h6 (by omega)) fun r9 _ => .ok ⟨b1, b2⟩) (fun _ => .ok ⟨b1, b2⟩)))) fun ⟨v, v1, v2⟩ h => .ok h
theorem boards_true (code : List UInt8) : v_FnBoards code = some true := by
 unfold v_FnBoards
 refine Tot.val (.eq (rBigB code) (.iteP (fun _ => .ok rfl) (fun _ => ?_)))
 refine .call (dbr_ok code) fun ⟨t, D, stop, now, count⟩ ⟨hb, hD⟩ => ?_
 dsimp only at hb hD ⊢
 have hDl : D.length ≤ 100000 := by omega
 rw [ibr_ok hb hDl, Option.bind_some, sbr_ok hb hDl, Option.bind_some]
 by_cases hA : AskB t D stop now ∧ 1 ≤ count ∧ count ≤ 10
 ·obtain ⟨hA, hc⟩ := hA
  have eR : (if AskB t D stop now ∧ 1 ≤ count ∧ count ≤ 10 then ((allR t D stop now).take count.toNat, true) else ([], false)) = ((allR t D stop now).take count.toNat, true) := if_pos ⟨hA, hc⟩
  have e10 : (if AskB t D stop now ∧ 1 ≤ (10 : Int) ∧ (10 : Int) ≤ 10 then ((allR t D stop now).take (10 : Int).toNat, true) else ([], false)) = ((allR t D stop now).take 10, true) := if_pos ⟨hA, by omega, by omega⟩
  obtain ⟨hl, hO, hsrt⟩ := allR_ok hA
  rw [eR]
  dsimp only
  rw [if_neg (by simp), if_neg (by simp), Option.bind_some, if_neg (by simp), ibr_ok hb hDl, e10, Option.bind_some]
  dsimp only
  have hv : zq8 t D = some true := by rw [validD_eq hb D hDl, decide_eq_true hA.1]
  rw [if_neg (by simp), if_neg (by simp only [decide_eq_true_eq, List.length_take]; omega), hv, Option.bind_some, Option.bind_some, if_neg (by simp)]
  refine Tot.flb (Tot.mono (P := fun v => v = .go (str (btx ((allR t D stop now).take count.toNat) now))) ?_ ?_)
  ·refine Tot.iter (fun q (s : ByteArray × Int) => ∃ i : Nat, q + i = ((allR t D stop now).take count.toNat).length ∧ s = (str (btx (((allR t D stop now).take count.toNat).take i) now), (i : Int))) (n := ((allR t D stop now).take count.toNat).length) ⟨0, by omega, rfl⟩ ?_
   rintro q _ ⟨i, hq, rfl⟩
   have hcl : ((allR t D stop now).take count.toNat).length ≤ 12 := by rw [List.length_take]; omega
   unfold v_FnBoards_L1
   dsimp only
   refine .iteP (fun hlt => ?_) (fun hge => .dn (by rw [show i = ((allR t D stop now).take count.toNat).length by omega, List.take_length]))
   obtain ⟨e, he⟩ := get_ex (l := (allR t D stop now).take count.toNat) (i := i) (by omega)
   have hic : i < count.toNat := by have := get_lt he; rw [List.length_take] at this; omega
   have hea : (allR t D stop now)[i]? = some e := by rw [List.getElem?_take, if_pos hic] at he; exact he
   have he10 : ((allR t D stop now).take 10)[i]? = some e := by rw [List.getElem?_take, if_pos (by omega)]; exact hea
   have hOe := hO e (List.mem_of_getElem? hea)
   obtain ⟨⟨k1, k2⟩, k3, ⟨k4, k5⟩, k6⟩ := hOe
   have hn1 := k1.1; have hn2 := k1.2; have ht1 := k2.1; have ht2 := k2.2
   have hw : w64 (e.Time + e.Delay) = e.Time + e.Delay := w64_id (by omega)
   rw [ixs he, Option.bind_some, Option.bind_some, row_self, if_neg (by simp), ixs he10, Option.bind_some, row_self, if_neg (by simp), hw, if_neg (by simp only [decide_eq_true_eq]; omega)]
   have hprev : (if decide ((0 : Int) < (i : Int)) = true then (idx ((allR t D stop now).take count.toNat) (w64 ((i : Int) - 1))).bind fun e7 =>
     (idx ((allR t D stop now).take count.toNat) (w64 ((i : Int) - 1))).bind fun e8 =>
     some (decide (e.Time + e.Delay < (w64 (e7.Time + e8.Delay)))) else some false) = some false := by
    by_cases h0 : (0 : Int) < (i : Int)
    ·rw [decide_eq_true h0, if_pos rfl]
     have ew : w64 ((i : Int) - 1) = ((i - 1 : Nat) : Int) := by rw [w64_id (by omega)]; omega
     obtain ⟨y, hy⟩ := get_ex (l := (allR t D stop now).take count.toNat) (i := i - 1) (by omega)
     have hya : (allR t D stop now)[i - 1]? = some y := by rw [List.getElem?_take, if_pos (by omega)] at hy; exact hy
     have hOy := hO y (List.mem_of_getElem? hya)
     have hyt := hOy.1.2.1; have hyt2 := hOy.1.2.2; have hyd := hOy.2.1
     have hle : y.Time + y.Delay ≤ e.Time + e.Delay := by
      obtain ⟨p1, rfl⟩ := List.getElem?_eq_some_iff.1 hya
      obtain ⟨p2, rfl⟩ := List.getElem?_eq_some_iff.1 hea
      exact List.pairwise_iff_getElem.1 hsrt _ _ p1 p2 (by omega)
     rw [ew, ixs hy, Option.bind_some, Option.bind_some, w64_id (x := y.Time + y.Delay) (by omega), decide_eq_false (by omega)]
    ·rw [decide_eq_false h0, if_neg (by simp)]
   rw [hprev, Option.bind_some, if_neg (by simp)]
   have hOe : OKR e now := ⟨⟨k1, k2⟩, k3, ⟨k4, k5⟩, k6⟩
   have h30 := rtx_len hOe
   have hbl := btx_len (R := ((allR t D stop now).take count.toNat).take i) (now := now) (fun x hx => hO x (List.mem_of_mem_take (List.mem_of_mem_take hx)))
   rw [List.length_take] at hbl
   rw [iRT_ok e now (by omega) (by omega), if_pos hOe, Option.bind_some]
   dsimp only
   rw [if_neg (by simp), str_s, h30, Option.bind_some, if_neg (by simp), chk_of (by rw [str_s]; omega), Option.bind_some, str_app, chk_of (by rw [str_s, str_s, List.length_append, h30]; simp; omega), Option.bind_some, str_app]
   exact .nx ⟨q - 1, by omega, i + 1, by omega, by rw [w64_succ (by omega), btx_succ he, List.append_assoc]⟩
  rintro _ rfl
  refine ⟨fun r hr => (by cases hr), fun u hu => ?_⟩
  cases hu
  rw [ibt_ok hb hDl hA hc, Option.bind_some]
  refine .call (inext_ok hb hDl stop now hA) fun r10 ⟨n1, n2, n3⟩ => .call (snext_ok hb hDl stop now hA) fun r11 ⟨m2, m3⟩ => ?_
  have hsame : r10.1 = r11.1 := list_same (f := fun k : Nat => nbL (dps t D stop t.Trips.length) now (k : Int)) n2 m2 n3 m3
  have h5 := hA.1.1.1.2.1.2
  dsimp only
  rw [if_neg (by simp), if_neg (by simp), n1, if_neg (by simp), ← hsame, rinB _ (by omega), Option.bind_some, Option.bind_some, if_neg (by simp)]
  refine .call (drt_ok code) fun r13 ⟨q1, q2⟩ => ?_
  rw [iRT_ok _ _ q1 q2, Option.bind_some, sRT_ok _ _ q1 q2, Option.bind_some, if_pos (by simp), Option.bind_some]
  exact .ok (by simp)
 ·have eR : (if AskB t D stop now ∧ 1 ≤ count ∧ count ≤ 10 then ((allR t D stop now).take count.toNat, true) else ([], false)) = ([], false) := if_neg hA
  rw [eR]
  exact .ok rfl
end Go.Proofs.YtimaoofeephgjaaGreatDoor
