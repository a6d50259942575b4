/- The plain law: what the models compute, no program in sight. -/
import Derived.Test.YtdocbkbpjdjlpaaGreatDoorVsM
import Derived.Test.YtdocbkbpjdjlpaaGreatDoorAbPdq6
namespace Go.Proofs.YtdocbkbpjdjlpaaGreatDoor
open Go Go.Ab
set_option maxHeartbeats 4000000
set_option linter.unusedVariables false
set_option linter.unusedSimpArgs false
theorem qb {α β : Type} (a : α) (f : α -> Option β) : (some a).bind f = f a := rfl
def Cur (k : Nat) (c : l1Cur) : Prop := 0 <= c.at_ /\ c.at_ <= k
theorem Cur.mono {k k' : Nat} {c : l1Cur} (h : Cur k c) (hk : k <= k') : Cur k' c := ⟨h.1, by have := h.2; omega⟩
theorem ykv {k : Nat} {c : l1Cur} (h : Cur k c) (hk : k <= 4000000000) : ∃ r, zq43 c = some r /\ Cur (k + 1) r.2 /\ 0 <= r.1 /\ r.1 <= 255 := by
 obtain ⟨h0, h1⟩ := h
 have hw : w64 (c.at_ + 1) = c.at_ + 1 := jaj (by omega)
 have hcur : ∀ s, Cur (k + 1) ⟨c.code_, w64 (c.at_ + 1), s⟩ := fun s => by rw [hw]; exact ⟨by show 0 <= c.at_ + 1; omega, by show c.at_ + 1 <= _; omega⟩
 unfold zq43
 have hv : ∃ v, (if (decide (c.at_ < (c.code_.length : Int))) = true then (idx c.code_ c.at_).bind fun e1 => some (w64 ((e1.toNat : Int))) else some 0) = some v /\ 0 <= v /\ v <= 255 := by
  by_cases hlt : c.at_ < c.code_.length
  ·obtain ⟨x, hx, _, _⟩ := jdt h0 hlt
   have := x.toNat_lt
   refine ⟨(x.toNat : Int), ?_, by omega, by omega⟩
   simp only [hlt, decide_true, if_true, hx, qb]
   rw [jaj (by omega)]
  ·exact ⟨0, by simp [hlt], by omega, by omega⟩
 obtain ⟨v, hv, hv0, hv1⟩ := hv
 rw [hv]
 simp only [qb]
 split
 ·exact ⟨_, rfl, hcur _, hv0, hv1⟩
 ·rw [jan (by omega)]
  exact ⟨_, rfl, hcur _, jun _⟩
theorem yad {k : Nat} {c : l1Cur} (n : Int) (h : Cur k c) (hk : k <= 3000000000) : ∃ r, zq47 c n = some r /\ Cur (k + 2) r.2 /\ 0 <= r.1 /\ (r.1 < n \/ r.1 = 0) := by
 unfold zq47
 by_cases hn : n <= 1
 ·exact ⟨(0, c), by simp [hn], h.mono (by omega), by simp, .inr rfl⟩
 ·obtain ⟨r, hr, hc, h0, h1⟩ := ykv h (by omega)
  have hn' : decide (n <= 1) = false := by simpa using hn
  simp only [hn', Bool.false_eq_true, if_false, hr, qb]
  have hne : chk (n ≠ 0) = some () := jan (by omega)
  by_cases h2 : 200 < n
  ·obtain ⟨r', hr', hc', h0', h1'⟩ := ykv hc (by omega)
   have e1 : w64 (r.1 * 256) = r.1 * 256 := jaj (by omega)
   have e2 : w64 (r.1 * 256 + r'.1) = r.1 * 256 + r'.1 := jaj (by omega)
   have h3 := jjm (a := r.1 * 256 + r'.1) (b := n) (by omega) (by omega)
   simp only [h2, decide_true, if_true, hr', qb, hne, e1, e2]
   exact ⟨_, rfl, hc'.mono (by omega), h3.1, .inl h3.2⟩
  ·have h2' : decide (200 < n) = false := by simpa using h2
   have h3 := jjm (a := r.1) (b := n) (by omega) (by omega)
   simp only [h2', Bool.false_eq_true, if_false, qb, hne]
   exact ⟨_, rfl, hc.mono (by omega), h3.1, .inl h3.2⟩
theorem ycq {k : Nat} {c : l1Cur} (l : List Int) (hl : l ≠ []) (h : Cur k c) (hk : k <= 3000000000) : ∃ r, zq35 c l = some r /\ Cur (k + 2) r.2 /\ r.1 ∈ l := by
 unfold zq35
 obtain ⟨r, hr, hc, h0, h1⟩ := yad (l.length : Int) h hk
 have hpos : 0 < l.length := List.length_pos_iff.2 hl
 obtain ⟨x, hx, _, hm⟩ := jdt (l := l) h0 (by omega)
 simp only [hr, qb, hx]
 exact ⟨_, rfl, hc, hm⟩
theorem yee {k : Nat} {c : l1Cur} (l : List Int) (hl : l ≠ []) (h : Cur k c) (hk : k <= 3000000000) : ∃ r, zq34 c l = some r /\ Cur (k + 2) r.2 /\ r.1 ∈ l := by
 have : zq34 c l = zq35 c l := rfl
 rw [this]; exact ycq l hl h hk
theorem ykr {k : Nat} {c : l1Cur} (n : Int) (h : Cur k c) (hk : k <= 3000000000) : ∃ r, zq46 c n = some r /\ Cur (k + 2) r.2 := by
 unfold zq46
 obtain ⟨r, hr, hc, _, _⟩ := yad n h hk
 simp only [hr, qb]
 exact ⟨_, rfl, hc⟩
theorem yqz {k : Nat} {c : l1Cur} (l : List ByteArray) (hl : l ≠ []) (h : Cur k c) (hk : k <= 3000000000) : ∃ r, zq44 c l = some r /\ Cur (k + 2) r.2 /\ r.1 ∈ l := by
 unfold zq44
 obtain ⟨r, hr, hc, h0, h1⟩ := yad (l.length : Int) h hk
 have hpos : 0 < l.length := List.length_pos_iff.2 hl
 obtain ⟨x, hx, _, hm⟩ := jdt (l := l) h0 (by omega)
 simp only [hr, qb, hx]
 exact ⟨_, rfl, hc, hm⟩
theorem ym2 {k : Nat} {c : l1Cur} (l : List ByteArray) (hl : l ≠ []) (h : Cur k c) (hk : k <= 3000000000) : ∃ r, zq45 c l = some r /\ Cur (k + 2) r.2 /\ r.1 ∈ l := by
 have : zq45 c l = zq44 c l := rfl
 rw [this]; exact yqz l hl h hk
theorem cur0 (code : List UInt8) : Cur 0 ⟨code, 0, ⟨0⟩⟩ := ⟨by show (0 : Int) <= 0; omega, by show (0 : Int) <= _; omega⟩
def spl1 (c : UInt8) : List UInt8 -> List (List UInt8)
 | [] => [[]]
 | x :: r => if x = c then [] :: spl1 c r else match spl1 c r with
  | [] => [[x]]
  | h :: t => (x :: h) :: t
theorem yhw {c : UInt8} : ∀ {p : List UInt8}, c ∉ p -> ∀ l, spl1 c (p ++ c :: l) = p :: spl1 c l
 | [], _, l => by rw [List.nil_append, spl1, if_pos rfl]
 | x :: p, hp, l => by
  simp only [List.mem_cons, not_or] at hp
  have ih := yhw hp.2 l
  rw [List.cons_append, spl1, if_neg (Ne.symm hp.1), ih]
theorem yey {c : UInt8} : ∀ {p : List UInt8}, c ∉ p -> spl1 c p = [p]
 | [], _ => rfl
 | x :: p, hp => by
  simp only [List.mem_cons, not_or] at hp
  rw [spl1, if_neg (Ne.symm hp.1), yey hp.2]
theorem ych {c : UInt8} : ∀ {l : List (List UInt8)}, l ≠ [] -> (∀ p ∈ l, c ∉ p) -> spl1 c (Lib.join l [c]) = l
 | [], h, _ => absurd rfl h
 | [p], _, hp => by rw [Lib.join_one]; exact yey (hp p (List.mem_cons_self ..))
 | p :: q :: r, _, hp => by
  have ih := ych (l := q :: r) (by simp) (fun x hx => hp x (List.mem_cons_of_mem _ hx))
  rw [Lib.join_cons] at ih ⊢
  have e : p ++ Lib.joinTail [c] (q :: r) = p ++ c :: (q ++ Lib.joinTail [c] r) := by simp [Lib.joinTail]
  rw [e, yhw (hp p (List.mem_cons_self ..)), ih]
theorem yp2 (x : ByteArray) : x.data.toList.length = x.size := rfl
theorem yqx (x : ByteArray) : x.toList = x.data.toList := by
 have h : ∀ (n i : Nat) (r : List UInt8), x.size - i = n -> ByteArray.toList.loop x i r = r.reverse ++ x.data.toList.drop i := by
  intro n
  induction n with
  | zero =>
   intro i r hn
   rw [ByteArray.toList.loop, if_neg (by omega), List.drop_of_length_le (by rw [yp2]; omega), List.append_nil]
  | succ n ih =>
   intro i r hn
   have hi : i < x.data.toList.length := by rw [yp2]; omega
   rw [ByteArray.toList.loop, if_pos (by omega), ih (i + 1) _ (by omega), List.drop_eq_getElem_cons hi]
   have : x.get! i = x.data.toList[i] := by
    have h2 : i < x.data.size := by simpa using hi
    show x.data[i]! = _
    rw [getElem!_pos x.data i h2]
    simp
   rw [this]
   simp
 show ByteArray.toList.loop x 0 [] = _
 rw [h _ 0 [] rfl]
 simp
theorem yas (x : ByteArray) : x = str x.data.toList := rfl
theorem yex (l : List UInt8) : (str l).data.toList = l := rfl
theorem yqh (l : List UInt8) : (str l).toList = l := yqx _
theorem yah (l : List UInt8) : (str l).size = l.length := rfl
theorem yag (a b : List UInt8) : str a ++ str b = str (a ++ b) := by
 apply ByteArray.ext; simp [str]
theorem ypg (l : List UInt8) (i j : Nat) : (str l).extract i j = str ((l.take j).drop i) := by
 apply ByteArray.ext
 simp [str, List.drop_take]
theorem getD_some {l : List UInt8} {i : Nat} {x : UInt8} (h : l[i]? = some x) : l.getD i 0 = x := by rw [List.getD_eq_getElem?_getD, h]; rfl
theorem yp3 (a b : List UInt8) : ((str a).toList == (str b).toList) = decide (a = b) := by
 rw [yqh, yqh]
 by_cases h : a = b <;> simp [h]
theorem all_loop {α : Type} (l : List α) (p : α -> Prop) [DecidablePred p] {step : Int -> Option (Lp Int (Fl Bool Unit))} (hl : l.length <= 4294967296) (b : Bool)
  (h1 : ∀ (i : Nat) x, l[i]? = some x -> p x -> step (i : Int) = some (.nx (w64 ((i : Int) + 1)))) (h2 : ∀ (i : Nat) x, l[i]? = some x -> ¬ p x -> step (i : Int) = some (.dn (.ret b)))
  (h3 : step (l.length : Int) = some (.dn (.go ()))) : iter step (0 : Int) = if (∀ x ∈ l, p x) then some (.go ()) else some (.ret b) := by
 have h : ∀ k i : Nat, k + i = l.length -> (∀ x ∈ l.take i, p x) -> iter step (i : Int) = if (∀ x ∈ l, p x) then some (.go ()) else some (.ret b) := by
  intro k
  induction k with
  | zero =>
   intro i hi hp
   have e : i = l.length := by omega
   subst e
   rw [List.take_length] at hp
   rw [jl9 h3, if_pos hp]
  | succ k ih =>
   intro i hi hp
   obtain ⟨x, hx⟩ := ja7 (l := l) (i := i) (by omega)
   by_cases hpx : p x
   ·rw [jp0 (h1 i x hx hpx), jah (by omega)]
    refine ih (i + 1) (by omega) fun y hy => ?_
    rw [ja1 hx] at hy
    rcases List.mem_append.1 hy with hy | hy
    ·exact hp y hy
    ·simp at hy; subst hy; exact hpx
   ·rw [jl9 (h2 i x hx hpx), if_neg (fun h => hpx (h x (List.mem_of_getElem? hx)))]
 exact h l.length 0 (by omega) (by simp)
def num (n : Nat) : List UInt8 := Lib.decDigits n
theorem yku : ∀ (n : Nat), ∀ b ∈ num n, 48 <= b.toNat /\ b.toNat <= 57 := by
 intro n
 induction n using Nat.strongRecOn with
 | _ n ih =>
  intro b hb
  unfold num at hb ih
  rw [Lib.decDigits] at hb
  split at hb
  ·simp only [List.mem_singleton] at hb
   subst hb
   rw [UInt8.toNat_ofNat']; omega
  ·rcases List.mem_append.1 hb with hb | hb
   ·exact ih (n / 10) (by omega) b hb
   ·simp only [List.mem_singleton] at hb
    subst hb
    rw [UInt8.toNat_ofNat']; omega
theorem yks {n : Nat} (h : n < 1000000) : 1 <= (num n).length /\ (num n).length <= 6 := by
 unfold num
 rw [Lib.decDigits_length]
 have h1 : ∀ n : Nat, n < 10 -> Lib.nDigits n = 1 := fun n h => Lib.nDigits_small h
 have h2 : ∀ n k : Nat, ¬ n < 10 -> Lib.nDigits (n / 10) <= k -> Lib.nDigits n <= k + 1 := fun n k h hk => by rw [Lib.nDigits_big h]; omega
 have key : ∀ (k n : Nat), n < 10 ^ (k + 1) -> Lib.nDigits n <= k + 1 := by
  intro k
  induction k with
  | zero => intro n h; rw [h1 n (by simpa using h)]; omega
  | succ k ih =>
   intro n h
   by_cases h0 : n < 10
   ·rw [h1 n h0]; omega
   ·exact h2 n _ h0 (ih (n / 10) (by rw [Nat.pow_succ] at h; omega))
 exact ⟨Lib.nDigits_pos n, key 5 n (by simpa using h)⟩
theorem ym3 {c : UInt8} (hc : c.toNat < 48 \/ 57 < c.toNat) (n : Nat) : c ∉ num n := fun h => by
 have := yku n c h
 omega
theorem yh9 {u : Nat} (h : ¬ u < 10) : Lib.decDigits u = Lib.decDigits (u / 10) ++ [UInt8.ofNat (48 + u % 10)] := by
 rw [Lib.decDigits, dif_neg h]
theorem ykt : ∀ {a b : Nat}, num a = num b -> a = b := by
 intro a
 induction a using Nat.strongRecOn with
 | _ a ih =>
  intro b h
  unfold num at h ih
  have hl := congrArg List.length h
  rw [Lib.decDigits_length, Lib.decDigits_length] at hl
  by_cases ha : a < 10
  ·by_cases hb : b < 10
   ·rw [Lib.decDigits_one ha, Lib.decDigits_one hb] at h
    simp only [List.cons.injEq, and_true] at h
    have := congrArg UInt8.toNat h
    rw [UInt8.toNat_ofNat', UInt8.toNat_ofNat'] at this; omega
   ·rw [Lib.nDigits_small ha, Lib.nDigits_big hb] at hl
    have := Lib.nDigits_pos (b / 10); omega
  ·by_cases hb : b < 10
   ·rw [Lib.nDigits_small hb, Lib.nDigits_big ha] at hl
    have := Lib.nDigits_pos (a / 10); omega
   ·rw [yh9 ha, yh9 hb] at h
    rw [Lib.nDigits_big ha, Lib.nDigits_big hb] at hl
    obtain ⟨h1, h2⟩ := List.append_inj h (by rw [Lib.decDigits_length, Lib.decDigits_length]; omega)
    have h3 := ih (a / 10) (by omega) h1
    simp only [List.cons.injEq, and_true] at h2
    have := congrArg UInt8.toNat h2
    rw [UInt8.toNat_ofNat', UInt8.toNat_ofNat'] at this; omega
theorem yld {n : Int} (h0 : 0 <= n) (h1 : n < 10) : (str [48, 49, 50, 51, 52, 53, 54, 55, 56, 57]).extract n.toNat (w64 (n + 1)).toNat = str [UInt8.ofNat (48 + n.toNat)] := by
 rw [jaj (by omega)]
 have : n = 0 \/ n = 1 \/ n = 2 \/ n = 3 \/ n = 4 \/ n = 5 \/ n = 6 \/ n = 7 \/ n = 8 \/ n = 9 := by omega
 rcases this with rfl | rfl | rfl | rfl | rfl | rfl | rfl | rfl | rfl | rfl <;> rw [ypg] <;> rfl
theorem ykz : ∀ (d : Nat) (k : Nat) (n : Int), 0 <= n -> n < 10 ^ (d + 1) -> d <= 8 -> d < k -> ybw k n = some (str (num n.toNat))
 | d, k, n, h0, h1, hd, hk => by
  obtain ⟨k, rfl⟩ : ∃ j, k = j + 1 := ⟨k - 1, by omega⟩
  have hb : n < 1000000000 := by
   have h9 : (10 : Nat) ^ (d + 1) <= 10 ^ 9 := Nat.pow_le_pow_right (by decide) (by omega)
   have h10 : ((10 ^ (d + 1) : Nat) : Int) = (10 : Int) ^ (d + 1) := by simp
   omega
  show ya0 (ybw k) n = _
  unfold ya0
  by_cases hn : n < 10
  ·have e2 : decide (n < 0) = false := decide_eq_false (by omega)
   simp only [e2, hn, decide_true, Bool.false_eq_true, if_false, if_true]
   rw [jan (by rw [jaj (by omega)]; exact ⟨h0, by omega, by show n + 1 <= 10; omega⟩), qb, yld h0 hn]
   unfold num
   rw [Lib.decDigits_one (by omega)]
  ·match d, h1, hd, hk with
   | 0, h1, _, _ => simp at h1; omega
   | d + 1, h1, hd, hk =>
    have e2 : decide (n < 0) = false := decide_eq_false (by omega)
    have e3 : decide (n < 10) = false := decide_eq_false hn
    have et : n.tdiv 10 = n / 10 := Int.tdiv_eq_ediv_of_nonneg h0
    have em : n.tmod 10 = n % 10 := Int.tmod_eq_emod_of_nonneg h0
    have ew : w64 (n.tdiv 10) = n / 10 := by rw [et, jaj (by omega)]
    have hr := ykz d k (n / 10) (by omega) (by rw [Int.pow_succ] at h1; omega) (by omega) (by omega)
    have hm0 : 0 <= n % 10 := by omega
    have hm1 : n % 10 < 10 := by omega
    simp only [e2, e3, Bool.false_eq_true, if_false, ew, hr, em]
    have c10 : chk ((10 : Int) ≠ 0) = some () := jan (by decide)
    simp only [c10, qb]
    rw [jan (by rw [jaj (by omega)]; exact ⟨hm0, by omega, by show n % 10 + 1 <= 10; omega⟩), qb, yld hm0 hm1]
    have hlen : (num (n / 10).toNat).length <= 100 := by
     unfold num
     rw [Lib.decDigits_length]
     have key : ∀ (k n : Nat), n < 10 ^ (k + 1) -> Lib.nDigits n <= k + 1 := by
      intro k
      induction k with
      | zero => intro n h; rw [Lib.nDigits_small (by simpa using h)]; omega
      | succ k ih =>
       intro n h
       by_cases h0 : n < 10
       ·rw [Lib.nDigits_small h0]; omega
       ·rw [Lib.nDigits_big h0]
        have := ih (n / 10) (by rw [Nat.pow_succ] at h; omega)
        omega
     have := key 9 (n / 10).toNat (by omega)
     omega
    rw [jan (by rw [yah, yah]; simp; omega), qb, yag]
    unfold num
    rw [yh9 (u := n.toNat) (by omega)]
    have e5 : (n / 10).toNat = n.toNat / 10 := by omega
    have e6 : (n % 10).toNat = n.toNat % 10 := by omega
    rw [e5, e6]
theorem ypt {n : Int} (h0 : 0 <= n) (h1 : n < 1000000) : zq53 n = some (str (num n.toNat)) := by
 unfold zq53
 exact ykz 5 4294967296 n h0 (by simpa using h1) (by omega) (by omega)
theorem yfb {n : Int} (h : 0 <= n) : Lib.itoa n = num n.toNat := by
 unfold Lib.itoa; rw [if_neg (by omega)]; rfl
theorem yq0 {n : Int} (h0 : -1000000 < n) (h1 : n < 1000000) : zq53 n = some (str (Lib.itoa n)) := by
 by_cases hn : n < 0
 ·have e : zq53 n = ya0 (ybw 4294967295) n := by
   unfold zq53
   show ybw (4294967295 + 1) n = _
   rfl
  rw [e]
  unfold ya0
  have ew : w64 (0 - n) = -n := by rw [jaj (by omega)]; omega
  have hl := yks (n := (-n).toNat) (by omega)
  simp only [hn, decide_true, if_true, ew]
  rw [ykz 5 4294967295 (-n) (by omega) (by simp; omega) (by omega) (by omega), qb, jan (by rw [yah, yah]; simp; omega), qb, yag]
  unfold Lib.itoa
  rw [if_pos hn, show n.natAbs = (-n).toNat by omega]
  rfl
 ·rw [ypt (by omega) h1, yfb (by omega)]
theorem yq1 {n : Int} (h0 : -1000000 < n) (h1 : n < 1000000) : ylz n = some (str (Lib.itoa n)) := by
 unfold ylz jpz
 rw [if_pos (by omega)]
 rfl
def Dig (b : UInt8) : Prop := 48 <= b.toNat /\ b.toNat <= 57
def CanD (d : List UInt8) : Prop := d ≠ [] /\ (∀ b ∈ d, Dig b) /\ (2 <= d.length -> d.head? ≠ some 48)
theorem yml : ∀ (n : Nat), 10 <= n -> (num n).head? ≠ some 48 := by
 intro n
 induction n using Nat.strongRecOn with
 | _ n ih =>
  intro hn
  unfold num at ih ⊢
  rw [yh9 (by omega)]
  by_cases h : n / 10 < 10
  ·rw [Lib.decDigits_one h]
   simp only [List.cons_append, List.head?_cons, ne_eq, Option.some.injEq]
   intro e
   have := congrArg UInt8.toNat e
   rw [UInt8.toNat_ofNat'] at this
   simp at this; omega
  ·have := ih (n / 10) (by omega) (by omega)
   have hp := Lib.nDigits_pos (n / 10)
   rw [<- Lib.decDigits_length] at hp
   cases hd : Lib.decDigits (n / 10) with
   | nil => rw [hd] at hp; simp at hp
   | cons x r => rw [hd] at this; simpa using this
theorem ypn (n : Nat) : CanD (num n) := by
 refine ⟨?_, fun b hb => yku n b hb, fun h2 => ?_⟩
 ·intro e
  have hp := Lib.nDigits_pos n
  rw [<- Lib.decDigits_length] at hp
  unfold num at e
  rw [e] at hp; simp at hp
 ·by_cases h : n < 10
  ·unfold num at h2
   rw [Lib.decDigits_one h] at h2; simp at h2
  ·exact yml n (by omega)
theorem yd9 {n : Int} (h : n < 0) : Lib.itoa n = 45 :: num (-n).toNat := by
 unfold Lib.itoa
 rw [if_pos h, show n.natAbs = (-n).toNat by omega]; rfl
theorem ye0 (n : Nat) : ∃ b r, num n = b :: r /\ Dig b := by
 have hc := ypn n
 cases hx : num n with
 | nil => exact absurd hx hc.1
 | cons b r => exact ⟨b, r, rfl, hc.2.1 b (by rw [hx]; simp)⟩
theorem ymr {a b : Int} (h : Lib.itoa a = Lib.itoa b) : a = b := by
 by_cases ha : a < 0
 ·rw [yd9 ha] at h
  by_cases hb : b < 0
  ·rw [yd9 hb] at h
   simp only [List.cons.injEq, true_and] at h
   have := ykt h; omega
  ·rw [yfb (by omega)] at h
   obtain ⟨c, r, hc, hd⟩ := ye0 b.toNat
   rw [hc] at h
   simp only [List.cons.injEq] at h
   have := hd.1; rw [<- h.1] at this; simp at this
 ·rw [yfb (by omega)] at h
  by_cases hb : b < 0
  ·rw [yd9 hb] at h
   obtain ⟨c, r, hc, hd⟩ := ye0 a.toNat
   rw [hc] at h
   simp only [List.cons.injEq] at h
   have := hd.1; rw [h.1] at this; simp at this
  ·rw [yfb (by omega)] at h
   have := ykt h; omega
theorem ybj (n lo hi : Int) : zq28 n lo hi = some (decide (lo <= n /\ n <= hi)) := by
 unfold zq28
 by_cases h : lo <= n <;> simp [h]
theorem ybg (n lo hi : Int) : zq51 n lo hi = some (decide (lo <= n /\ n <= hi)) := by
 unfold zq51
 by_cases h : lo <= n <;> simp [h]
def ChOK (i : Nat) (c : UInt8) : Prop := (97 <= (c.toNat : Int) /\ (c.toNat : Int) <= 122) \/ (i ≠ 0 /\ 48 <= (c.toNat : Int) /\ (c.toNat : Int) <= 57)
def yaf (s : ByteArray) : Prop := (1 <= s.size /\ s.size <= 8) /\ ∀ (i : Nat) c, s.data.toList[i]? = some c -> ChOK i c
open Classical in
noncomputable instance (s : ByteArray) : Decidable (yaf s) := Classical.propDecidable _
theorem yez (s : ByteArray) : s.data.toList.length = s.size := by simp
theorem ygh {α : Type} {l : List α} {i : Nat} {x d : α} (h : l[i]? = some x) : l.getD i d = x := by rw [List.getD_eq_getElem?_getD, h]; rfl
theorem yk7 (s : ByteArray) : zq20 s = some (decide (yaf s)) := by
 unfold zq20
 by_cases h1 : 1 <= s.size /\ s.size <= 8
 ·have e1 : decide ((s.size : Int) < 1) = false := by simp; omega
  have e2 : decide (8 < (s.size : Int)) = false := by simp; omega
  simp only [e1, e2, Bool.false_eq_true, if_false, qb]
  have hsz := yez s
  have key := Go.Ab.all_loop s.data.toList ChOK (step := ycb s) ?_ ?_ 0 0 rfl (by omega)
  ·rcases key with ⟨g1, g2⟩ | ⟨g1, g2⟩
   ·rw [g1, jcr]
    have : yaf s := ⟨h1, fun i c hc => g2 i c (by omega) hc⟩
    simp [this]
   ·rw [g1, jcl]
    have : ¬ yaf s := fun hn => g2 fun i c _ hc => hn.2 i c hc
    simp [this]
  ·intro i x hx
   have hi := (List.getElem?_eq_some_iff.1 hx).1
   have hg : s.data.toList.getD (i : Int).toNat 0 = x := by rw [Int.toNat_natCast]; exact ygh hx
   have hc : chk ((0 : Int) <= (i : Int) /\ (i : Int) < (s.size : Int)) = some () := jan (by omega)
   have hlt : decide ((i : Int) < (s.size : Int)) = true := by simp; omega
   unfold ycb
   simp only [hlt, if_true, hc, hg, qb, jah (n := i) (by omega)]
   unfold ChOK
   by_cases a1 : (97 : Int) <= (x.toNat : Int)
   ·by_cases a2 : (x.toNat : Int) <= 122
    ·left; refine ⟨by simp [a1, a2], .inl ⟨a1, a2⟩⟩
    ·right
     refine ⟨?_, by omega⟩
     have b1 : decide ((x.toNat : Int) < 48) = false := by simp; omega
     have b2 : decide ((57 : Int) < (x.toNat : Int)) = true := by simp; omega
     have c1 : ¬ (x.toNat : Int) < 48 := by omega
     have c2 : (57 : Int) < (x.toNat : Int) := by omega
     by_cases hi0 : i = 0
     ·simp [a1, a2, hi0]
     ·have hi0' : ((i : Int) == 0) = false := by simp; omega
      simp [a1, a2, hi0', c1, c2]
   ·by_cases hi0 : i = 0
    ·right
     refine ⟨by simp [a1, hi0], by omega⟩
    ·have hi0' : ((i : Int) == 0) = false := by simp; omega
     by_cases b1 : (x.toNat : Int) < 48
     ·right
      refine ⟨by simp [a1, hi0', b1], by omega⟩
     ·by_cases b2 : (57 : Int) < (x.toNat : Int)
      ·right
       refine ⟨by simp [a1, hi0', b1, b2], by omega⟩
      ·left
       refine ⟨by simp [a1, hi0', b1, b2], .inr ⟨hi0, by omega, by omega⟩⟩
  ·unfold ycb
   rw [hsz]
   simp
 ·have : ¬ yaf s := fun h => h1 h.1
  have e : (if (decide ((s.size : Int) < 1)) = true then some true else some (decide (8 < (s.size : Int)))) = some true := by
   by_cases h2 : s.size < 1
   ·have : decide ((s.size : Int) < 1) = true := by simp; omega
    simp [this]
   ·have e1 : decide ((s.size : Int) < 1) = false := by simp; omega
    have e2 : decide (8 < (s.size : Int)) = true := by simp; omega
    simp [e1, e2]
  rw [e]
  simp [this]
theorem yfa (s : ByteArray) : zq63 s = some (decide (yaf s)) := by
 unfold zq63
 rw [ybg]
 simp only [qb]
 by_cases h1 : 1 <= s.size /\ s.size <= 8
 ·have e1 : decide ((1 : Int) <= (s.size : Int) /\ (s.size : Int) <= 8) = true := by simp; omega
  have hsz := yez s
  obtain ⟨x0, hx0⟩ := ja7 (l := s.data.toList) (i := 0) (by omega)
  have hg0 : s.data.toList.getD (0 : Int).toNat 0 = x0 := ygh hx0
  have hc0 : chk ((0 : Int) <= 0 /\ 0 < (s.size : Int)) = some () := jan (by omega)
  simp only [e1, Bool.not_true, Bool.false_eq_true, if_false, hc0, hg0, qb]
  by_cases a0 : 97 <= (x0.toNat : Int) /\ (x0.toNat : Int) <= 122
  ·have b1 : decide ((x0.toNat : Int) < 97) = false := by simp; omega
   have b2 : decide ((122 : Int) < (x0.toNat : Int)) = false := by simp; omega
   simp only [b1, b2, Bool.false_eq_true, if_false, qb]
   have key := Go.Ab.all_loop s.data.toList ChOK (step := yb9 s) ?_ ?_ 0 0 rfl (by omega)
   ·rcases key with ⟨g1, g2⟩ | ⟨g1, g2⟩
    ·rw [g1, jcr]
     have : yaf s := ⟨h1, fun i c hc => g2 i c (by omega) hc⟩
     simp [this]
    ·rw [g1, jcl]
     have : ¬ yaf s := fun hn => g2 fun i c _ hc => hn.2 i c hc
     simp [this]
   ·intro i x hx
    have hi := (List.getElem?_eq_some_iff.1 hx).1
    have hg : s.data.toList.getD (i : Int).toNat 0 = x := by rw [Int.toNat_natCast]; exact ygh hx
    have hc : chk ((0 : Int) <= (i : Int) /\ (i : Int) < (s.size : Int)) = some () := jan (by omega)
    have hlt : decide ((i : Int) < (s.size : Int)) = true := by simp; omega
    have h0 : i = 0 -> x = x0 := fun h => by subst h; rw [hx0] at hx; cases hx; rfl
    unfold yb9
    simp only [hlt, if_true, hc, hg, qb, jah (n := i) (by omega)]
    unfold ChOK
    by_cases a1 : (x.toNat : Int) < 97
    ·have hi0 : i ≠ 0 := fun h => by have := h0 h; subst this; omega
     by_cases c1 : (x.toNat : Int) < 48
     ·right; refine ⟨by simp [a1, c1], by omega⟩
     ·by_cases c2 : (57 : Int) < (x.toNat : Int)
      ·right; refine ⟨by simp [a1, c1, c2], by omega⟩
      ·left; refine ⟨by simp [a1, c1, c2], .inr ⟨hi0, by omega, by omega⟩⟩
    ·by_cases a2 : (122 : Int) < (x.toNat : Int)
     ·right
      have c1 : ¬ (x.toNat : Int) < 48 := by omega
      have c2 : (57 : Int) < (x.toNat : Int) := by omega
      refine ⟨by simp [a1, a2, c1, c2], by omega⟩
     ·left; refine ⟨by simp [a1, a2], .inl ⟨by omega, by omega⟩⟩
   ·unfold yb9
    rw [hsz]
    simp
  ·have : ¬ yaf s := fun hn => by
    have := hn.2 0 x0 hx0
    unfold ChOK at this
    omega
   have e : (if (decide ((x0.toNat : Int) < 97)) = true then some true else some (decide ((122 : Int) < (x0.toNat : Int)))) = some true := by
    by_cases h2 : (x0.toNat : Int) < 97
    ·simp [h2]
    ·have : (122 : Int) < (x0.toNat : Int) := by omega
     simp [h2, this]
   rw [e]
   simp [this]
 ·have e1 : decide ((1 : Int) <= (s.size : Int) /\ (s.size : Int) <= 8) = false := by simp; omega
  have : ¬ yaf s := fun h => h1 h.1
  simp [e1, this]
theorem yfd (l : List ByteArray) (hl : l.length <= 4000000000) (v : ByteArray) : zq87 l v = some (fixI (fun e => v.toList == e.toList) l) := by
 unfold zq87
 refine jdg l (fun e => v.toList == e.toList) (fun i x hx => ?_) (by unfold yc2; simp)
 have hi := (List.getElem?_eq_some_iff.1 hx).1
 unfold yc2
 have hlt : decide ((i : Int) < (l.length : Int)) = true := by simp; omega
 simp only [hlt, if_true, jaw, hx, qb, jah (n := i) (by omega)]
 split <;> rfl
theorem yfe (l : List Int) (hl : l.length <= 4000000000) (v : Int) : zq86 l v = some (fixI (fun e => v == e) l) := by
 unfold zq86
 refine jdg l (fun e => v == e) (fun i x hx => ?_) (by unfold yc3; simp)
 have hi := (List.getElem?_eq_some_iff.1 hx).1
 unfold yc3
 have hlt : decide ((i : Int) < (l.length : Int)) = true := by simp; omega
 simp only [hlt, if_true, jaw, hx, qb, jah (n := i) (by omega)]
 split <;> rfl
theorem ycz (x : Line) (hl : x.Stops.length <= 4000000000) (v : Int) : zq66 x v = some (fixI (fun e => v == e) x.Stops) := by
 have hc : fixI (fun e => v == e) x.Stops = fixI (fun e => e == v) x.Stops := jf4 _ fun e => BEq.comm
 rw [hc]
 unfold zq66
 refine jdg x.Stops (fun e => e == v) (fun i y hx => ?_) (by unfold yc8; simp)
 have hi := (List.getElem?_eq_some_iff.1 hx).1
 unfold yc8
 have hlt : decide ((i : Int) < (x.Stops.length : Int)) = true := by simp; omega
 simp only [hlt, if_true, jaw, hx, qb, jah (n := i) (by omega)]
 split <;> rfl
theorem ylg (a b : List UInt8) : (a == b) = (b == a) := BEq.comm
theorem yk3 (l : List ByteArray) (hl : l.length <= 4000000000) (v : ByteArray) : zq59 l v = some (fixI (fun e => v.toList == e.toList) l) := by
 rw [jf4 l (q := fun e => e.toList == v.toList) fun e => ylg _ _]
 unfold zq59
 refine jdg l (fun e => e.toList == v.toList) (fun i x hx => ?_) (by unfold ydf; simp)
 have hi := (List.getElem?_eq_some_iff.1 hx).1
 unfold ydf
 have hlt : decide ((i : Int) < (l.length : Int)) = true := by simp; omega
 simp only [hlt, if_true, jaw, hx, qb, jah (n := i) (by omega)]
 split <;> rfl
theorem ycs (n : Network) (hl : n.Lines.length <= 4000000000) (v : ByteArray) : zq62 n v = some (fixI (fun e => v.toList == e.toList) (n.Lines.map (·.Name))) := by
 rw [jry, jf4 n.Lines (q := fun e => e.Name.toList == v.toList) fun e => ylg _ _]
 unfold zq62
 refine jdg n.Lines (fun e => e.Name.toList == v.toList) (fun i x hx => ?_) (by unfold yda; simp)
 have hi := (List.getElem?_eq_some_iff.1 hx).1
 unfold yda
 have hlt : decide ((i : Int) < (n.Lines.length : Int)) = true := by simp; omega
 simp only [hlt, if_true, jaw, hx, qb, jah (n := i) (by omega)]
 split <;> rfl
def yby (l : List ByteArray) : Prop := ∀ (i : Nat) x, l[i]? = some x -> yaf x /\ fixI (fun e => x.toList == e.toList) l = (i : Int)
def yan (st : Nat) (x : Line) : Prop := (2 <= x.Stops.length /\ x.Stops.length <= 6) /\ (x.Runs.length : Int) = (x.Stops.length : Int) - 1 /\
 (∀ (i : Nat) e, x.Stops[i]? = some e -> (0 <= e /\ e < (st : Int)) /\ fixI (fun y => e == y) x.Stops = (i : Int)) /\ ∀ (i : Nat) r, x.Runs[i]? = some r -> 1 <= r /\ r <= 60
def Good (n : Network) : Prop := (2 <= n.Stops.length /\ n.Stops.length <= 8) /\ (1 <= n.Lines.length /\ n.Lines.length <= 5) /\ yby n.Stops /\ yby (n.Lines.map (·.Name)) /\ ∀ (i : Nat) x, n.Lines[i]? = some x -> yan n.Stops.length x
noncomputable instance (l : List ByteArray) : Decidable (yby l) := Classical.propDecidable _
noncomputable instance (st : Nat) (x : Line) : Decidable (yan st x) := Classical.propDecidable _
noncomputable instance (n : Network) : Decidable (Good n) := Classical.propDecidable _
def Bd (n : Network) : Prop := n.Stops.length <= 1000 /\ n.Lines.length <= 1000 /\ ∀ x ∈ n.Lines, x.Stops.length <= 1000 /\ x.Runs.length <= 1000
theorem yco (l : List ByteArray) (hl : l.length <= 1000) : zq10 l = some (decide (yby l)) := by
 unfold zq10
 rw [jcw (hd := Classical.propDecidable _) l (fun i x => yaf x /\ fixI (fun e => x.toList == e.toList) l = (i : Int)) (fun i x hx => ?_) (by unfold yd0; simp)]
 ·by_cases h : yby l
  ·rw [if_pos (show ∀ (i : Nat) x, l[i]? = some x -> yaf x /\ fixI (fun e => x.toList == e.toList) l = (i : Int) from h)]; simp [h]
  ·rw [if_neg (show ¬ ∀ (i : Nat) x, l[i]? = some x -> yaf x /\ fixI (fun e => x.toList == e.toList) l = (i : Int) from h)]; simp [h]
 ·have hi := (List.getElem?_eq_some_iff.1 hx).1
  unfold yd0
  have hlt : decide ((i : Int) < (l.length : Int)) = true := by simp; omega
  simp only [hlt, if_true, jaw, hx, qb, yk7, yfd l (by omega), jah (n := i) (by omega)]
  by_cases h1 : yaf x
  ·by_cases h2 : fixI (fun e => x.toList == e.toList) l = (i : Int)
   ·left; simp [h1, h2]
   ·right; simp [h1, h2]
  ·right; simp [h1]
theorem ye6 (n : Network) (hl : n.Lines.length <= 1000) : zq23 n = some (n.Lines.map (·.Name)) := by
 unfold zq23
 rw [jan (by omega)]
 simp only [qb]
 rw [jlg (fun x : Line => x.Name) n.Lines _ (by simp) (fun i a x y ha hy hx => ?_) (fun a ha => ?_)]
 ·rfl
 ·have hi := (List.getElem?_eq_some_iff.1 hx).1
  unfold ydp
  have hlt : decide ((i : Int) < (n.Lines.length : Int)) = true := by simp; omega
  simp only [hlt, if_true, jaw, hx, hy, qb, jah (n := i) (by omega), Int.toNat_natCast]
 ·unfold ydp; simp
theorem yk6 (n : Network) (e : Int) : zq21 n e = some (decide (0 <= e /\ e < (n.Stops.length : Int))) := by
 unfold zq21
 by_cases h : 0 <= e <;> simp [h]
theorem yk8 (n : Network) (e : Int) : zq19 n e = some (decide (0 <= e /\ e < (n.Lines.length : Int))) := by
 unfold zq19
 by_cases h : 0 <= e <;> simp [h]
theorem yct (n : Network) (l : Line) (h1 : l.Stops.length <= 1000) (h2 : l.Runs.length <= 1000) : zq22 n l = some (decide (yan n.Stops.length l)) := by
 unfold zq22
 rw [ybj]
 have e0 : w64 ((l.Stops.length : Int) - 1) = (l.Stops.length : Int) - 1 := jaj (by omega)
 simp only [qb, e0]
 by_cases a1 : 2 <= l.Stops.length /\ l.Stops.length <= 6
 ·have d1 : decide ((2 : Int) <= (l.Stops.length : Int) /\ (l.Stops.length : Int) <= 6) = true := by simp; omega
  simp only [d1, Bool.not_true, Bool.false_eq_true, if_false]
  by_cases a2 : (l.Runs.length : Int) = (l.Stops.length : Int) - 1
  ·have d2 : ((l.Runs.length : Int) != (l.Stops.length : Int) - 1) = false := by simp [a2]
   simp only [d2, qb, Bool.false_eq_true, if_false]
   rw [jcw (hd := Classical.propDecidable _) l.Stops (fun i e => (0 <= e /\ e < (n.Stops.length : Int)) /\ fixI (fun y => e == y) l.Stops = (i : Int)) (fun i x hx => ?_) (by unfold ydr; simp)]
   ·rw [jcw (hd := Classical.propDecidable _) l.Runs (fun i r => 1 <= r /\ r <= 60) (fun i x hx => ?_) (by unfold ydq; simp)]
    ·by_cases b1 : ∀ (i : Nat) e, l.Stops[i]? = some e -> (0 <= e /\ e < (n.Stops.length : Int)) /\ fixI (fun y => e == y) l.Stops = (i : Int)
     ·rw [if_pos b1]
      by_cases b2 : ∀ (i : Nat) r, l.Runs[i]? = some r -> 1 <= r /\ r <= 60
      ·rw [if_pos b2]
       have : yan n.Stops.length l := ⟨a1, a2, b1, b2⟩
       simp [this]
      ·rw [if_neg b2]
       have : ¬ yan n.Stops.length l := fun h => b2 h.2.2.2
       simp [this]
     ·rw [if_neg b1]
      have : ¬ yan n.Stops.length l := fun h => b1 h.2.2.1
      simp [this]
    ·have hi := (List.getElem?_eq_some_iff.1 hx).1
     unfold ydq
     have hlt : decide ((i : Int) < (l.Runs.length : Int)) = true := by simp; omega
     simp only [hlt, if_true, jaw, hx, qb, ybj, jah (n := i) (by omega)]
     by_cases b : 1 <= x /\ x <= 60
     ·left; simp [b]
     ·right; simp [b]
   ·have hi := (List.getElem?_eq_some_iff.1 hx).1
    unfold ydr
    have hlt : decide ((i : Int) < (l.Stops.length : Int)) = true := by simp; omega
    simp only [hlt, if_true, jaw, hx, qb, yk6, yfe l.Stops (by omega), jah (n := i) (by omega)]
    by_cases b1 : 0 <= x /\ x < (n.Stops.length : Int)
    ·by_cases b2 : fixI (fun y => x == y) l.Stops = (i : Int)
     ·left; simp [b1, b2]
     ·right; simp [b1, b2]
    ·right; simp [b1]
  ·have d2 : ((l.Runs.length : Int) != (l.Stops.length : Int) - 1) = true := by simp [a2]
   have : ¬ yan n.Stops.length l := fun h => a2 h.2.1
   simp [d2, this]
 ·have d1 : decide ((2 : Int) <= (l.Stops.length : Int) /\ (l.Stops.length : Int) <= 6) = false := by simp; omega
  have : ¬ yan n.Stops.length l := fun h => a1 h.1
  simp [d1, this]
theorem yk2 (l : Line) (st : Nat) (hst : st <= 1000) (h1 : l.Stops.length <= 1000) (h2 : l.Runs.length <= 1000) : zq61 l (st : Int) = some (decide (yaf l.Name /\ yan st l)) := by
 unfold zq61
 rw [yfa]
 have e0 : w64 ((l.Stops.length : Int) - 1) = (l.Stops.length : Int) - 1 := jaj (by omega)
 have e1 : w64 ((st : Int) - 1) = (st : Int) - 1 := jaj (by omega)
 simp only [qb, e0, ybg]
 by_cases a0 : yaf l.Name
 ·simp only [a0, decide_true, Bool.not_true, Bool.false_eq_true, if_false, true_and]
  by_cases a1 : 2 <= l.Stops.length /\ l.Stops.length <= 6
  ·have d1 : decide ((2 : Int) <= (l.Stops.length : Int) /\ (l.Stops.length : Int) <= 6) = true := by simp; omega
   simp only [d1, Bool.not_true, Bool.false_eq_true, if_false]
   by_cases a2 : (l.Runs.length : Int) = (l.Stops.length : Int) - 1
   ·have d2 : ((l.Runs.length : Int) != (l.Stops.length : Int) - 1) = false := by simp [a2]
    simp only [d2, qb, Bool.false_eq_true, if_false]
    rw [jcw (hd := Classical.propDecidable _) l.Stops (fun i e => (0 <= e /\ e < (st : Int)) /\ fixI (fun y => e == y) l.Stops = (i : Int)) (fun i x hx => ?_) (by unfold ydc; simp)]
    ·rw [jcw (hd := Classical.propDecidable _) l.Runs (fun i r => 1 <= r /\ r <= 60) (fun i x hx => ?_) (by unfold ydb; simp)]
     ·by_cases b1 : ∀ (i : Nat) e, l.Stops[i]? = some e -> (0 <= e /\ e < (st : Int)) /\ fixI (fun y => e == y) l.Stops = (i : Int)
      ·rw [if_pos b1]
       by_cases b2 : ∀ (i : Nat) r, l.Runs[i]? = some r -> 1 <= r /\ r <= 60
       ·rw [if_pos b2]
        have : yan st l := ⟨a1, a2, b1, b2⟩
        simp [this]
       ·rw [if_neg b2]
        have : ¬ yan st l := fun h => b2 h.2.2.2
        simp [this]
      ·rw [if_neg b1]
       have : ¬ yan st l := fun h => b1 h.2.2.1
       simp [this]
     ·have hi := (List.getElem?_eq_some_iff.1 hx).1
      unfold ydb
      have hlt : decide ((i : Int) < (l.Runs.length : Int)) = true := by simp; omega
      simp only [hlt, if_true, jaw, hx, qb, ybg, jah (n := i) (by omega)]
      by_cases b : 1 <= x /\ x <= 60
      ·left; simp [b]
      ·right; simp [b]
    ·have hi := (List.getElem?_eq_some_iff.1 hx).1
     unfold ydc
     have hlt : decide ((i : Int) < (l.Stops.length : Int)) = true := by simp; omega
     simp only [hlt, if_true, jaw, hx, qb, ybg, e1, ycz l (by omega), jah (n := i) (by omega)]
     by_cases b1 : 0 <= x /\ x < (st : Int)
     ·have d3 : decide (0 <= x /\ x <= (st : Int) - 1) = true := by simp; omega
      by_cases b2 : fixI (fun y => x == y) l.Stops = (i : Int)
      ·left; simp only [d3]; simp [b1, b2]
      ·right; simp only [d3]; simp [b1, b2]
     ·have d3 : decide (0 <= x /\ x <= (st : Int) - 1) = false := by simp; omega
      right; simp only [d3]; simp [b1]
   ·have d2 : ((l.Runs.length : Int) != (l.Stops.length : Int) - 1) = true := by simp [a2]
    have : ¬ yan st l := fun h => a2 h.2.1
    simp [d2, this]
  ·have d1 : decide ((2 : Int) <= (l.Stops.length : Int) /\ (l.Stops.length : Int) <= 6) = false := by simp; omega
   have : ¬ yan st l := fun h => a1 h.1
   simp [d1, this]
 ·simp [a0]
theorem ymf (n : Network) (h : Bd n) : zq6 n = some (decide (Good n)) := by
 obtain ⟨h1, h2, h3⟩ := h
 unfold zq6
 simp only [ybj, qb, yco n.Stops h1, ye6 n h2, yco (n.Lines.map (·.Name)) (by simpa using h2)]
 by_cases a1 : 2 <= n.Stops.length /\ n.Stops.length <= 8
 ·have d1 : decide ((2 : Int) <= (n.Stops.length : Int) /\ (n.Stops.length : Int) <= 8) = true := by simp; omega
  simp only [d1, Bool.not_true, Bool.false_eq_true, if_false]
  by_cases a2 : 1 <= n.Lines.length /\ n.Lines.length <= 5
  ·have d2 : decide ((1 : Int) <= (n.Lines.length : Int) /\ (n.Lines.length : Int) <= 5) = true := by simp; omega
   simp only [d2, Bool.not_true, Bool.false_eq_true, if_false]
   by_cases a3 : yby n.Stops
   ·simp only [a3, decide_true, Bool.not_true, Bool.false_eq_true, if_false]
    by_cases a4 : yby (n.Lines.map (·.Name))
    ·simp only [a4, decide_true, Bool.not_true, qb, Bool.false_eq_true, if_false]
     rw [jcw (hd := Classical.propDecidable _) n.Lines (fun i x => yan n.Stops.length x) (fun i x hx => ?_) (by unfold ygq; simp)]
     ·by_cases b1 : ∀ (i : Nat) x, n.Lines[i]? = some x -> yan n.Stops.length x
      ·rw [if_pos b1]
       have : Good n := ⟨a1, a2, a3, a4, b1⟩
       simp [this]
      ·rw [if_neg b1]
       have : ¬ Good n := fun h => b1 h.2.2.2.2
       simp [this]
     ·have hi := (List.getElem?_eq_some_iff.1 hx).1
      obtain ⟨g1, g2⟩ := h3 x (List.mem_of_getElem? hx)
      unfold ygq
      have hlt : decide ((i : Int) < (n.Lines.length : Int)) = true := by simp; omega
      simp only [hlt, if_true, jaw, hx, qb, yct n x g1 g2, jah (n := i) (by omega)]
      by_cases b : yan n.Stops.length x
      ·left; simp [b]
      ·right; simp [b]
    ·have : ¬ Good n := fun h => a4 h.2.2.2.1
     simp [a4, this]
   ·have : ¬ Good n := fun h => a3 h.2.2.1
    simp [a3, this]
  ·have d2 : decide ((1 : Int) <= (n.Lines.length : Int) /\ (n.Lines.length : Int) <= 5) = false := by simp; omega
   have : ¬ Good n := fun h => a2 h.2.1
   simp [d2, this]
 ·have d1 : decide ((2 : Int) <= (n.Stops.length : Int) /\ (n.Stops.length : Int) <= 8) = false := by simp; omega
  have : ¬ Good n := fun h => a1 h.1
  simp [d1, this]
theorem ypx (n : Network) (h : Bd n) : zq60 n = some (decide (Good n)) := by
 obtain ⟨h1, h2, h3⟩ := h
 unfold zq60
 simp only [ybg, qb]
 by_cases a1 : 2 <= n.Stops.length /\ n.Stops.length <= 8
 ·have d1 : decide ((2 : Int) <= (n.Stops.length : Int) /\ (n.Stops.length : Int) <= 8) = true := by simp; omega
  simp only [d1, Bool.not_true, Bool.false_eq_true, if_false]
  by_cases a2 : 1 <= n.Lines.length /\ n.Lines.length <= 5
  ·have d2 : decide ((1 : Int) <= (n.Lines.length : Int) /\ (n.Lines.length : Int) <= 5) = true := by simp; omega
   simp only [d2, Bool.not_true, qb, Bool.false_eq_true, if_false]
   rw [jcw (hd := Classical.propDecidable _) n.Stops (fun i x => yaf x /\ fixI (fun e => x.toList == e.toList) n.Stops = (i : Int)) (fun i x hx => ?_) (by unfold yde; simp)]
   ·rw [jcw (hd := Classical.propDecidable _) n.Lines (fun i x => (yaf x.Name /\ yan n.Stops.length x) /\ fixI (fun e => x.Name.toList == e.toList) (n.Lines.map (·.Name)) = (i : Int)) (fun i x hx => ?_) (by unfold ydd; simp)]
    ·by_cases b1 : yby n.Stops
     ·rw [if_pos (show ∀ (i : Nat) x, n.Stops[i]? = some x -> yaf x /\ fixI (fun e => x.toList == e.toList) n.Stops = (i : Int) from b1)]
      by_cases b2 : ∀ (i : Nat) x, n.Lines[i]? = some x -> (yaf x.Name /\ yan n.Stops.length x) /\ fixI (fun e => x.Name.toList == e.toList) (n.Lines.map (·.Name)) = (i : Int)
      ·rw [if_pos b2]
       have : Good n := ⟨a1, a2, b1, fun i y hy => by
        rw [List.getElem?_map] at hy
        obtain ⟨x, hx, rfl⟩ := Option.map_eq_some_iff.1 hy
        exact ⟨(b2 i x hx).1.1, (b2 i x hx).2⟩, fun i x hx => (b2 i x hx).1.2⟩
       simp [this]
      ·rw [if_neg b2]
       have : ¬ Good n := fun h => b2 fun i x hx => by
        have h4 := h.2.2.2.1 i x.Name (by rw [List.getElem?_map, hx]; rfl)
        exact ⟨⟨h4.1, h.2.2.2.2 i x hx⟩, h4.2⟩
       simp [this]
     ·rw [if_neg (show ¬ ∀ (i : Nat) x, n.Stops[i]? = some x -> yaf x /\ fixI (fun e => x.toList == e.toList) n.Stops = (i : Int) from b1)]
      have : ¬ Good n := fun h => b1 h.2.2.1
      simp [this]
    ·have hi := (List.getElem?_eq_some_iff.1 hx).1
     obtain ⟨g1, g2⟩ := h3 x (List.mem_of_getElem? hx)
     unfold ydd
     have hlt : decide ((i : Int) < (n.Lines.length : Int)) = true := by simp; omega
     simp only [hlt, if_true, jaw, hx, qb, yk2 x n.Stops.length h1 g1 g2, ycs n (by omega), jah (n := i) (by omega)]
     by_cases b1 : yaf x.Name /\ yan n.Stops.length x
     ·by_cases b2 : fixI (fun e => x.Name.toList == e.toList) (n.Lines.map (·.Name)) = (i : Int)
      ·left; simp [b1, b2]
      ·right; simp [b1, b2]
     ·right; simp [b1]
   ·have hi := (List.getElem?_eq_some_iff.1 hx).1
    unfold yde
    have hlt : decide ((i : Int) < (n.Stops.length : Int)) = true := by simp; omega
    simp only [hlt, if_true, jaw, hx, qb, yfa, yk3 n.Stops (by omega), jah (n := i) (by omega)]
    by_cases b1 : yaf x
    ·by_cases b2 : fixI (fun e => x.toList == e.toList) n.Stops = (i : Int)
     ·left; simp [b1, b2]
     ·right; simp [b1, b2]
    ·right; simp [b1]
  ·have d2 : decide ((1 : Int) <= (n.Lines.length : Int) /\ (n.Lines.length : Int) <= 5) = false := by simp; omega
   have : ¬ Good n := fun h => a2 h.2.1
   simp [d2, this]
 ·have d1 : decide ((2 : Int) <= (n.Stops.length : Int) /\ (n.Stops.length : Int) <= 8) = false := by simp; omega
  have : ¬ Good n := fun h => a1 h.1
  simp [d1, this]
theorem yfi (l : List Int) (h : l.length <= 1000) : zq80 l = some l := by
 unfold zq80
 rw [jan (by simp; omega)]; rfl
theorem ylf (l : List ByteArray) (h : l.length <= 1000) : zq81 l = some l := by
 unfold zq81
 rw [jan (by simp; omega)]; rfl
theorem ygi (x : Line) (h1 : x.Stops.length <= 1000) (h2 : x.Runs.length <= 1000) : zq14 x = some x := by
 unfold zq14
 rw [yfi _ h1, yfi _ h2]; rfl
theorem yh3 (l : List Int) (h : l.length <= 1000) : zq55 l = some l := by
 unfold zq55
 rw [jan (by simp; omega)]; rfl
theorem yh2 (n : Network) (h : Bd n) : zq64 n = some n := by
 obtain ⟨h1, h2, h3⟩ := h
 unfold zq64
 rw [jan (by simp; omega)]
 simp only [qb]
 rw [jr4 (fun x : Line => x) n.Lines (fun i a x ha hx => ?_) (fun a ha => ?_)]
 ·simp only [qb, List.map_id', List.nil_append]
 ·have hi := (List.getElem?_eq_some_iff.1 hx).1
  obtain ⟨g1, g2⟩ := h3 x (List.mem_of_getElem? hx)
  unfold yc9
  have hlt : decide ((i : Int) < (n.Lines.length : Int)) = true := by simp; omega
  have hch : ∀ y : Line, chk (a.length + ([y] : List Line).length <= 4294967296) = some () := fun y => jan (by simp; omega)
  simp only [hlt, if_true, jaw, hx, qb, yh3 _ g1, yh3 _ g2, hch, jah (n := i) (by omega)]
 ·unfold yc9; simp
theorem yif (n : Network) (h : Bd n) : zq65 n = some n := by
 have : zq65 n = zq64 n := rfl
 rw [this]; exact yh2 n h
theorem yk4 (s : List Int) (hs : s.length <= 1000) : zq57 s = some s.reverse := by
 unfold zq57
 have e0 : w64 ((s.length : Int) - 1) = (s.length : Int) - 1 := jaj (by omega)
 rw [e0]
 have h := jbx (step := ydg s) (fun m a => ∃ j : Nat, a.1 = (s.length : Int) - 1 - j /\ m + j = s.length /\ a.2 = s.reverse.take j) (fun b => b = s.reverse) ?_ (k := s.length) (a := ((s.length : Int) - 1, [])) ⟨0, by simp, by omega, by simp⟩
 ·obtain ⟨b, hb, rfl⟩ := h
  rw [hb]; rfl
 rintro m ⟨v, i⟩ ⟨j, hv, hm, hi⟩
 simp only at hv hi
 subst hv
 by_cases hlt : j < s.length
 ·left
  have ev : (s.length : Int) - 1 - j = ((s.length - 1 - j : Nat) : Int) := by omega
  rw [ev]
  obtain ⟨e, he⟩ := ja7 (l := s) (i := s.length - 1 - j) (by omega)
  have hd : decide ((0 : Int) <= ((s.length - 1 - j : Nat) : Int)) = true := by simp
  have hlen : i.length = j := by rw [hi]; simp; omega
  have hch : chk (i.length + ([e] : List Int).length <= 4294967296) = some () := jan (by simp; omega)
  have ev2 : w64 (((s.length - 1 - j : Nat) : Int) - 1) = (s.length : Int) - 1 - ((j + 1 : Nat) : Int) := by rw [jaj (by omega)]; omega
  refine ⟨((s.length : Int) - 1 - ((j + 1 : Nat) : Int), i ++ [e]), m - 1, ?_, by omega, j + 1, rfl, by omega, ?_⟩
  ·unfold ydg
   simp only [hd, if_true, jaw, he, hch, qb, ev2]
  ·show i ++ [e] = _
   rw [ja1 (x := e) (by rw [List.getElem?_reverse hlt]; exact he), hi]
 ·right
  have ej : j = s.length := by omega
  subst ej
  have hd : decide ((0 : Int) <= (s.length : Int) - 1 - (s.length : Int)) = false := by simp; omega
  refine ⟨i, by unfold ydg; simp only [hd, Bool.false_eq_true, if_false], ?_⟩
  rw [hi, List.take_of_length_le (by simp)]
theorem yc0 (s : List Int) (hs : s.length <= 1000) : zq58 s = some s.reverse := yk4 s hs
def LB (x : Line) : Prop := (2 <= x.Stops.length /\ x.Stops.length <= 10) /\ 1 <= x.Runs.length /\ x.Runs.length <= 10
def NB (n : Network) : Prop := (2 <= n.Stops.length /\ n.Stops.length <= 6) /\ (1 <= n.Lines.length /\ n.Lines.length <= 8) /\ ∀ x ∈ n.Lines, LB x
theorem NB.bd {n : Network} (h : NB n) : Bd n := ⟨by have := h.1; omega, by have := h.2.1; omega, fun x hx => by have := h.2.2 x hx; unfold LB at this; omega⟩
theorem yh4 (n : Int) (h0 : 0 <= n) (h1 : n < 10) : ∃ r, zq53 n = some r /\ r.size <= 10 := by
 have e : zq53 n = ya0 (ybw 4294967295) n := rfl
 rw [e]
 unfold ya0
 have d1 : decide (n < 0) = false := by simp; omega
 have d2 : decide (n < 10) = true := by simp; omega
 have e1 : w64 (n + 1) = n + 1 := jaj (by omega)
 have hs : (str [48, 49, 50, 51, 52, 53, 54, 55, 56, 57]).size = 10 := rfl
 simp only [d1, d2, Bool.false_eq_true, if_false, if_true, e1, hs]
 rw [jan (by omega)]
 refine ⟨_, rfl, ?_⟩
 rw [ByteArray.size_extract, hs]
 omega
theorem yk1 {k : Nat} {c : l1Cur} (name : ByteArray) (stops : Int) (hs : 2 <= stops /\ stops <= 1000) (h : Cur k c) (hk : k <= 1000000000) : ∃ r, zq39 c name stops = some r /\ Cur (k + 40) r.2 /\ LB r.1 := by
 unfold zq39
 obtain ⟨r, hr, hc, h0, h1⟩ := yad stops h (by omega)
 obtain ⟨r1, hr1, hc1, h10, h11⟩ := yad 3 hc (by omega)
 simp only [hr, hr1, qb]
 have e1 : w64 (2 + r1.1) = ((2 + r1.1.toNat : Nat) : Int) := by rw [jaj (by omega)]; omega
 rw [e1]
 have loop : ∃ b, iter (ydl name stops) (r.1, ((2 + r1.1.toNat : Nat) : Int), r1.2.code_, r1.2.at_, r1.2.seed_.v, []) = some b /\ (Cur (k + 4 + 2 * 4) ⟨b.1, b.2.1, ⟨b.2.2.1⟩⟩ /\ 1 <= b.2.2.2.length /\ b.2.2.2.length <= 4) := by
  refine jbx (fun m a => (0 <= a.1 /\ a.1 < stops) /\ a.2.1 = (m : Int) /\ m + a.2.2.2.2.2.length <= 4 /\ (1 <= m \/ 1 <= a.2.2.2.2.2.length) /\ Cur (k + 4 + 2 * (4 - m)) ⟨a.2.2.1, a.2.2.2.1, ⟨a.2.2.2.2.1⟩⟩) _ ?_ (k := 2 + r1.1.toNat) ⟨⟨h0, by show r.1 < stops; omega⟩, rfl, by simp; omega, .inl (by omega), hc1.mono (by omega)⟩
  rintro m ⟨v, v1, v2, v3, v4, v5⟩ ⟨hv, hv1, hl, hne, hcur⟩
  simp only at hv hv1 hl hne hcur
  subst hv1
  unfold ydl
  cases m with
  | zero => right; exact ⟨_, by simp; rfl, hcur, by show 1 <= v5.length; omega, by show v5.length <= 4; omega⟩
  | succ m =>
   left
   have hpos : decide ((0 : Int) < ((m + 1 : Nat) : Int)) = true := by simp
   obtain ⟨r3, hr3, hc3, h30, h31⟩ := yad 2 hcur (by omega)
   have hpl := ycz (⟨name, v5, []⟩ : Line) (by show v5.length <= _; omega) v
   have hch : chk (v5.length + ([v] : List Int).length <= 4294967296) = some () := jan (by simp; omega)
   have hne0 : chk (stops ≠ 0) = some () := jan (by omega)
   have w1 : w64 (v + 1) = v + 1 := jaj (by omega)
   have w2 : w64 (v + 1 + r3.1) = v + 1 + r3.1 := jaj (by omega)
   have ht := jjm (a := v + 1 + r3.1) (b := stops) (by omega) (by omega)
   simp only [hpos, if_true, hpl, hch, hr3, hne0, w1, w2, qb]
   have w3 : w64 (((m + 1 : Nat) : Int) - 1) = (m : Int) := jjj (by omega)
   split
   ·refine ⟨_, m, by simp only [qb]; rfl, by omega, ht, w3, ?_, .inr ?_, ?_⟩
    ·simp; omega
    ·simp
    ·exact hc3.mono (by omega)
   ·rename_i hn
    refine ⟨_, m, by simp only [qb]; rfl, by omega, ht, w3, ?_, .inr ?_, ?_⟩
    ·show m + v5.length <= 4; omega
    ·show 1 <= v5.length
     cases v5 with
     | nil => simp [fixI] at hn
     | cons a l => simp
    ·exact hc3.mono (by omega)
 obtain ⟨⟨v7, v8, v9, v10⟩, hb, hcb, hlb⟩ := loop
 simp only at hcb hlb
 rw [hb]
 simp only [qb]
 -- at least two stops
 have two : ∃ v11 : List Int, (if decide ((v10.length : Int) < 2) = true then (idx v10 0).bind fun e1 => (chk ((stops : Int) ≠ 0)).bind fun u4 => (chk (v10.length + ([((w64 (e1 + 1)).tmod stops)] : List Int).length <= 4294967296)).bind fun u5 => some (v10 ++ ([((w64 (e1 + 1)).tmod stops)] : List Int)) else some v10) = some v11 /\ 2 <= v11.length /\ v11.length <= 5 := by
  by_cases h2 : (v10.length : Int) < 2
  ·obtain ⟨e, he, _⟩ := jdt (l := v10) (i := 0) (by omega) (by omega)
   have hch : ∀ y : Int, chk (v10.length + ([y] : List Int).length <= 4294967296) = some () := fun y => jan (by simp; omega)
   have hne0 : chk (stops ≠ 0) = some () := jan (by omega)
   refine ⟨v10 ++ [(w64 (e + 1)).tmod stops], by simp only [h2, decide_true, if_true, he, hne0, hch, qb], ?_, ?_⟩
   ·simp; omega
   ·simp; omega
  ·exact ⟨v10, by simp [h2], by omega, by omega⟩
 obtain ⟨v11, hv11, l1, l2⟩ := two
 rw [hv11]
 simp only [qb]
 have loop2 : ∃ b, iter (ydk v11) (1, v7, v8, v9, []) = some b /\ (Cur (k + 40) ⟨b.1, b.2.1, ⟨b.2.2.1⟩⟩ /\ b.2.2.2.length + 1 = v11.length) := by
  refine jbx (fun m a => ∃ i : Nat, a.1 = (i : Int) /\ m + i = v11.length /\ a.2.2.2.2.length + 1 = i /\ Cur (k + 12 + 2 * i) ⟨a.2.1, a.2.2.1, ⟨a.2.2.2.1⟩⟩) _ ?_ (k := v11.length - 1) ⟨1, rfl, by omega, rfl, hcb.mono (by omega)⟩
  rintro m ⟨v12, v13, v14, v15, v16⟩ ⟨i, hi, hm, hl, hcur⟩
  simp only at hi hl hcur
  subst hi
  unfold ydk
  by_cases hlt : i < v11.length
  ·left
   have hd : decide ((i : Int) < (v11.length : Int)) = true := by simp; omega
   obtain ⟨r5, hr5, hc5, _⟩ := yad 12 hcur (by omega)
   have hch : ∀ y : Int, chk (v16.length + ([y] : List Int).length <= 4294967296) = some () := fun y => jan (by simp; omega)
   refine ⟨_, m - 1, by simp only [hd, if_true, hr5, hch, qb, jah (n := i) (by omega)]; rfl, by omega, i + 1, rfl, by omega, ?_, ?_⟩
   ·simp; omega
   ·exact hc5.mono (by omega)
  ·right
   have hd : decide ((i : Int) < (v11.length : Int)) = false := by simp; omega
   refine ⟨_, by simp only [hd, Bool.false_eq_true, if_false]; rfl, ?_, ?_⟩
   ·exact hcur.mono (by omega)
   ·show v16.length + 1 = _; omega
 obtain ⟨⟨v17, v18, v19, v20⟩, hb2, hcb2, hl2⟩ := loop2
 simp only at hcb2 hl2
 rw [hb2]
 simp only [qb]
 exact ⟨_, rfl, hcb2, ⟨l1, by show v11.length <= 10; omega⟩, by show 1 <= v20.length; omega, by show v20.length <= 10; omega⟩
theorem ymm {k : Nat} {c : l1Cur} (name : ByteArray) (stops : Int) (hs : 2 <= stops /\ stops <= 1000) (h : Cur k c) (hk : k <= 1000000000) : ∃ r, zq40 c name stops = some r /\ Cur (k + 40) r.2 /\ LB r.1 := yk1 name stops hs h hk
theorem ypj (i : Nat) (h2 : 2 <= i) (h6 : i <= 6) (l : List ByteArray) (hl : l.length = 6) : 2 <= ((l.take i).drop (0 : Int).toNat).length /\ ((l.take i).drop (0 : Int).toNat).length <= 6 := by
 simp; omega
theorem ybe {k : Nat} {c : l1Cur} (h : Cur k c) (hk : k <= 500000000) : ∃ r, zq42 c = some r /\ Cur (k + 300) r.2 /\ NB r.1 := by
 unfold zq42
 obtain ⟨r, hr, hc, h0, h1⟩ := yad 5 h (by omega)
 have e1 : w64 (2 + r.1) = 2 + r.1 := jaj (by omega)
 have hsix : ([(str [112, 111, 114, 116]), (str [109, 105, 108, 108]), (str [112, 97, 114, 107]), (str [104, 97, 108, 108]), (str [100, 111, 99, 107]), (str [102, 97, 105, 114])] : List ByteArray).length = 6 := rfl
 simp only [hr, qb, e1, hsix]
 rw [jan (by omega)]
 obtain ⟨r1, hr1, hc1, h10, h11⟩ := yad 3 hc (by omega)
 have e2 : w64 (1 + r1.1) = ((1 + r1.1.toNat : Nat) : Int) := by rw [jaj (by omega)]; omega
 simp only [hr1, qb, e2]
 have loop : ∃ b, iter (ydj r) (((1 + r1.1.toNat : Nat) : Int), r1.2.code_, r1.2.at_, r1.2.seed_.v, []) = some b /\ (Cur (k + 4 + 40 * 3) ⟨b.1, b.2.1, ⟨b.2.2.1⟩⟩ /\ (1 <= b.2.2.2.length /\ b.2.2.2.length <= 3) /\ ∀ x ∈ b.2.2.2, LB x) := by
  refine jbx (fun m a => a.1 = (m : Int) /\ m + a.2.2.2.2.length <= 3 /\ 1 <= m + a.2.2.2.2.length /\ (∀ x ∈ a.2.2.2.2, LB x) /\ Cur (k + 4 + 40 * (3 - m)) ⟨a.2.1, a.2.2.1, ⟨a.2.2.2.1⟩⟩) _ ?_ (k := 1 + r1.1.toNat) ⟨rfl, by simp; omega, by simp, by simp, hc1.mono (by omega)⟩
  rintro m ⟨x, v, v1, v2, v3⟩ ⟨hx, hl, hl1, hlb, hcur⟩
  simp only at hx hl hl1 hlb hcur
  subst hx
  unfold ydj
  cases m with
  | zero => right; exact ⟨_, by simp; rfl, hcur, ⟨by show 1 <= v3.length; omega, by show v3.length <= 3; omega⟩, hlb⟩
  | succ m =>
   left
   have hpos : decide ((0 : Int) < ((m + 1 : Nat) : Int)) = true := by simp
   obtain ⟨r4, hr4, hs4⟩ := yh4 ((m + 1 : Nat) : Int) (by omega) (by omega)
   have hs : (str [108]).size = 1 := rfl
   have hch : chk ((str [108]).size + r4.size <= 4294967296) = some () := jan (by omega)
   obtain ⟨r5, hr5, hc5, hb5⟩ := ymm (str [108] ++ r4) (2 + r.1) (by omega) hcur (by omega)
   have hch2 : ∀ y : Line, chk (v3.length + ([y] : List Line).length <= 4294967296) = some () := fun y => jan (by simp; omega)
   refine ⟨_, m, by simp only [hpos, if_true, hr4, hch, e1, hr5, hch2, qb]; rfl, by omega, ?_, ?_, ?_, ?_, ?_⟩
   ·exact jjj (by omega)
   ·simp; omega
   ·simp; omega
   ·intro y hy
    rcases List.mem_append.1 hy with hy | hy
    ·exact hlb y hy
    ·simp at hy; subst hy; exact hb5
   ·exact hc5.mono (by omega)
 obtain ⟨⟨v4, v5, v6, v7⟩, hb, hcb, hlb, hall⟩ := loop
 simp only at hcb hlb hall
 rw [hb]
 simp only [qb]
 obtain ⟨r6, hr6, hc6⟩ := ykr 2 hcb (by omega)
 simp only [hr6, qb]
 have fin : ∀ (v8 : List UInt8) (v9 v10 : Int) (v11 : List Line), Cur (k + 200) ⟨v8, v9, ⟨v10⟩⟩ -> (1 <= v11.length /\ v11.length <= 8) -> (∀ x ∈ v11, LB x) ->
   ∃ r', ((zq65 (⟨((([(str [112, 111, 114, 116]), (str [109, 105, 108, 108]), (str [112, 97, 114, 107]), (str [104, 97, 108, 108]), (str [100, 111, 99, 107]), (str [102, 97, 105, 114])] : List ByteArray).take (2 + r.1).toNat).drop (0 : Int).toNat), v11⟩ : Network)).bind fun r11 => some ((⟨r11.Stops, r11.Lines⟩ : Network), (⟨v8, v9, (⟨v10⟩ : IK .u64)⟩ : l1Cur))) = some r' /\ Cur (k + 300) r'.2 /\ NB r'.1 := by
  intro v8 v9 v10 v11 g1 g2 g3
  have hst := ypj (2 + r.1).toNat (by omega) (by omega) _ hsix
  have hnb : NB (⟨((([(str [112, 111, 114, 116]), (str [109, 105, 108, 108]), (str [112, 97, 114, 107]), (str [104, 97, 108, 108]), (str [100, 111, 99, 107]), (str [102, 97, 105, 114])] : List ByteArray).take (2 + r.1).toNat).drop (0 : Int).toNat), v11⟩ : Network) := ⟨hst, g2, g3⟩
  rw [yif _ hnb.bd]
  exact ⟨_, rfl, g1.mono (by omega), hnb⟩
 split
 ·obtain ⟨e, he, _, hem⟩ := jdt (l := v7) (i := 0) (by omega) (by omega)
  obtain ⟨g1, g2⟩ := hall e hem
  have hch2 : ∀ y : Line, chk (v7.length + ([y] : List Line).length <= 4294967296) = some () := fun y => jan (by simp; omega)
  simp only [he, yc0 e.Stops (by omega), yc0 e.Runs (by omega), hch2, qb]
  refine fin _ _ _ _ (hc6.mono (by omega)) (by simp; omega) fun y hy => ?_
  rcases List.mem_append.1 hy with hy | hy
  ·exact hall y hy
  ·simp at hy; subst hy
   exact ⟨by simpa using g1, by simpa using g2⟩
 ·simp only [qb]
  exact fin _ _ _ _ (hc6.mono (by omega)) (by omega) hall
theorem yed {k : Nat} {c : l1Cur} (h : Cur k c) (hk : k <= 200000000) : ∃ r, zq36 c = some r /\ Cur (k + 1000) r.2 /\ Bd r.1 := by
 unfold zq36
 obtain ⟨r, hr, hc, hnb⟩ := ybe h (by omega)
 obtain ⟨n1, n2, n3⟩ := hnb
 obtain ⟨r1, hr1, hc1, h10, h11⟩ := yad (r.1.Lines.length : Int) hc (by omega)
 obtain ⟨e, he, he2, hem⟩ := jdt (l := r.1.Lines) (i := r1.1) h10 (by omega)
 obtain ⟨g1, g2⟩ := n3 e hem
 obtain ⟨r2, hr2, hc2, _⟩ := yad 24 hc1 (by omega)
 simp only [hr, hr1, he, hr2, qb]
 have fin : ∀ (v : List UInt8) (v1 v2 : Int) (v3 : ByteArray) (v4 : List ByteArray) (v5 : List Line) (v6 : List Int), Cur (k + 900) ⟨v, v1, ⟨v2⟩⟩ -> v4.length <= 6 -> v5.length = r.1.Lines.length -> (∀ x ∈ v5, LB x) -> v6.length <= 11 ->
   ∃ r', ((idx v5 r1.1).bind fun e9 => some ((⟨v4, (v5.set r1.1.toNat (⟨v3, e9.Stops, v6⟩ : Line))⟩ : Network), (⟨v, v1, (⟨v2⟩ : IK .u64)⟩ : l1Cur))) = some r' /\ Cur (k + 1000) r'.2 /\ Bd r'.1 := by
  intro v v1 v2 v3 v4 v5 v6 q1 q2 q3 q4 q5
  obtain ⟨e9, he9, _, hm9⟩ := jdt (l := v5) (i := r1.1) h10 (by omega)
  rw [he9]
  refine ⟨_, rfl, q1.mono (by omega), by show v4.length <= _; omega, by simp; omega, fun x hx => ?_⟩
  rcases List.mem_or_eq_of_mem_set hx with hx | hx
  ·have := q4 x hx
   unfold LB at this; omega
  ·subst hx
   have := q4 e9 hm9
   unfold LB at this
   exact ⟨by show e9.Stops.length <= _; omega, by show v6.length <= _; omega⟩
 split
 ·obtain ⟨r4, hr4, hc4, _⟩ := ym2 ([(str [109, 105, 108, 108]), (str []), (str [65]), (str [97, 98, 99, 100, 101, 102, 103, 104]), (str [97, 98, 99, 100, 101, 102, 103, 104, 105])] : List ByteArray) (by simp) hc2 (by omega)
  obtain ⟨e2, he2', _⟩ := jdt (l := r.1.Stops) (i := 0) (by omega) (by omega)
  simp only [hr4, he2', qb, jcr]
  exact fin _ _ _ _ _ _ _ (hc4.mono (by omega)) (by simp; omega) rfl n3 (by omega)
 split
 ·obtain ⟨r5, hr5, hc5, _⟩ := ym2 ([(str [114, 49]), (str [108, 49]), (str []), (str [88])] : List ByteArray) (by simp) hc2 (by omega)
  simp only [hr5, qb, jcr]
  exact fin _ _ _ _ _ _ _ (hc5.mono (by omega)) (by omega) rfl n3 (by omega)
 split
 ·obtain ⟨r8, hr8, hc8, h80, h81⟩ := yad (e.Stops.length : Int) hc2 (by omega)
  obtain ⟨r9, hr9, hc9, _⟩ := yad 10 hc8 (by omega)
  obtain ⟨e4, he4, _⟩ := jdt (l := e.Stops) (i := r8.1) h80 (by omega)
  simp only [hr8, hr9, he4, qb, jcr]
  refine fin _ _ _ _ _ _ _ (hc9.mono (by omega)) (by omega) (by simp) (fun x hx => ?_) (by show e.Runs.length <= 11; omega)
  rcases List.mem_or_eq_of_mem_set hx with hx | hx
  ·exact n3 x hx
  ·subst hx; exact ⟨by simpa using g1, g2⟩
 split
 ·obtain ⟨r12, hr12, hc12, h120, h121⟩ := yad (e.Runs.length : Int) hc2 (by omega)
  obtain ⟨r13, hr13, hc13, _⟩ := ycq ([0, 60, 61, (-1)] : List Int) (by simp) hc12 (by omega)
  obtain ⟨e6, he6, _⟩ := jdt (l := e.Runs) (i := r12.1) h120 (by omega)
  simp only [hr12, hr13, he6, qb, jcr]
  refine fin _ _ _ _ _ _ _ (hc13.mono (by omega)) (by omega) (by simp) (fun x hx => ?_) (by simp; omega)
  rcases List.mem_or_eq_of_mem_set hx with hx | hx
  ·exact n3 x hx
  ·subst hx; exact ⟨g1, by simpa using g2⟩
 split
 ·have hch : chk (e.Runs.length + ([3] : List Int).length <= 4294967296) = some () := jan (by simp; omega)
  simp only [hch, qb, jcr]
  exact fin _ _ _ _ _ _ _ (hc2.mono (by omega)) (by omega) rfl n3 (by simp; omega)
 split
 ·simp only [jcl]
  exact ⟨_, rfl, hc2.mono (by omega), by show r.1.Stops.length <= _; omega, by simp, by simp⟩
 split
 ·have loop : ∃ b, iter (ydm r) (0, r2.2.code_, r2.2.at_, r2.2.seed_.v, r.1.Lines) = some b /\ (Cur (k + 900) ⟨b.1, b.2.1, ⟨b.2.2.1⟩⟩ /\ b.2.2.2.length <= 20 /\ ∀ x ∈ b.2.2.2, LB x) := by
   refine jbx (fun m a => ∃ i : Nat, a.1 = (i : Int) /\ m + i = 8 /\ i <= 7 /\ a.2.2.2.2.length <= 8 + i /\ (∀ x ∈ a.2.2.2.2, LB x) /\ Cur (k + 310 + 50 * i) ⟨a.2.1, a.2.2.1, ⟨a.2.2.2.1⟩⟩) _ ?_ (k := 8) ⟨0, rfl, rfl, by omega, by simpa using n2.2, n3, hc2.mono (by omega)⟩
   rintro m ⟨v7, v8, v9, v10, v11⟩ ⟨i, hi, hm, hi7, hl, hlb, hcur⟩
   simp only at hi hl hlb hcur
   subst hi
   unfold ydm
   obtain ⟨r16, hr16, hc16, h160, h161⟩ := yad 2 hcur (by omega)
   have w1 : w64 (5 + r16.1) = 5 + r16.1 := jaj (by omega)
   simp only [hr16, w1, qb]
   by_cases a1 : (v11.length : Int) < 5 + r16.1 /\ (i : Int) < 7
   ·left
    have d1 : decide ((v11.length : Int) < 5 + r16.1) = true := by simp; omega
    have d2 : decide ((i : Int) < 7) = true := by simp; omega
    obtain ⟨r19, hr19, hs19⟩ := yh4 (i : Int) (by omega) (by omega)
    have hs : (str [120]).size = 1 := rfl
    have hch : chk ((str [120]).size + r19.size <= 4294967296) = some () := jan (by omega)
    obtain ⟨r20, hr20, hc20, hb20⟩ := yk1 (str [120] ++ r19) (r.1.Stops.length : Int) (by omega) hc16 (by omega)
    have hch2 : ∀ y : Line, chk (v11.length + ([y] : List Line).length <= 4294967296) = some () := fun y => jan (by simp; omega)
    refine ⟨_, m - 1, by simp only [d1, d2, if_true, hr19, hch, hr20, hch2, qb, jah (n := i) (by omega)]; rfl, by omega, i + 1, rfl, by omega, by omega, ?_, fun x hx => ?_, ?_⟩
    ·simp; omega
    ·rcases List.mem_append.1 hx with hx | hx
     ·exact hlb x hx
     ·simp at hx; subst hx; exact hb20
    ·exact hc20.mono (by omega)
   ·right
    have hcond : (if decide ((v11.length : Int) < 5 + r16.1) = true then some (decide ((i : Int) < 7)) else some false) = some false := by
     by_cases b1 : (v11.length : Int) < 5 + r16.1
     ·have : decide ((i : Int) < 7) = false := by simp; omega
      simp [b1, this]
     ·simp [b1]
    refine ⟨_, by simp only [hcond, qb, Bool.false_eq_true, if_false]; rfl, ?_, ?_, hlb⟩
    ·exact hc16.mono (by omega)
    ·show v11.length <= 20; omega
  obtain ⟨⟨v13, v14, v15, v16⟩, hb, hcb, hlb, hall⟩ := loop
  simp only at hcb hlb hall
  rw [hb]
  simp only [qb, jcl]
  refine ⟨_, rfl, hcb.mono (by omega), by show r.1.Stops.length <= _; omega, by show v16.length <= _; omega, fun x hx => ?_⟩
  have := hall x hx
  unfold LB at this; omega
 ·simp only [jcr]
  exact fin _ _ _ _ _ _ _ (hc2.mono (by omega)) (by omega) rfl n3 (by omega)
def TB (t : Timetable) : Prop := Bd t.Network /\ t.Trips.length <= 1000
def ybr (n : Network) (x : Trip) : Prop := (1 <= x.Id /\ x.Id <= 999) /\ ∃ l, idx n.Lines x.Line = some l /\ (0 <= x.Start /\ x.Start <= 1799) /\ 0 <= x.Start + l.Runs.sum /\ x.Start + l.Runs.sum <= 1799
def yal (t : Timetable) : Prop := Good t.Network /\ t.Trips.length <= 12 /\ (∀ (i : Nat) x, t.Trips[i]? = some x -> ybr t.Network x) /\ ∀ (i : Nat) a b, t.Trips[i]? = some a -> t.Trips[i + 1]? = some b -> a.Id < b.Id
noncomputable instance (t : Timetable) : Decidable (yal t) := Classical.propDecidable _
noncomputable instance (n : Network) (x : Trip) : Decidable (ybr n x) := Classical.propDecidable _
theorem ykn (t : Int) : zq7 t = some (decide (0 <= t /\ t <= 1799)) := by
 unfold zq7; rw [ybj]; rfl
theorem ye9 (t : Int) : zq68 t = some (decide (0 <= t /\ t <= 1799)) := by
 unfold zq68; rw [ybg]; rfl
theorem ymg (l : List Int) (h1 : l.length <= 1000000) (h2 : ∀ x ∈ l, 0 <= x /\ x <= 1000000) : zq24 l = some l.sum := by
 unfold zq24
 rw [jrk (fun x : Int => x) l h1 h2 (fun i s x hx => ?_) (fun s => ?_)]
 ·simp
 ·have := jcb hx
  unfold ydo
  simp (disch := omega) only [if_pos, if_neg, decide_eq_true_eq, decide_true, decide_false, Bool.not_true, Bool.not_false, Bool.false_eq_true, Bool.not_eq_true', decide_eq_false_iff_not, if_true, if_false, jaj, jan, jaw, qb, Option.map_some, Int.toNat_natCast, not_true_eq_false, not_false_eq_true, true_and, and_true, and_self, false_and, and_false, reduceIte, jcr, jcl, beq_self_eq_true, ne_eq, bne_self_eq_false, Int.ofNat_lt.2 this, hx]
 ·unfold ydo; simp
theorem ymq (x : Line) (a b : Nat) (hab : a <= b) (hb : b <= x.Runs.length) (hl : x.Runs.length <= 1000) (h2 : ∀ r ∈ x.Runs, 0 <= r /\ r <= 1000000) : zq67 x (a : Int) (b : Int) = some (((x.Runs.take b).drop a).sum) := by
 unfold zq67
 refine Tot.val (.call (P := fun v => v = ((x.Runs.take b).drop a).sum) ?_ fun v h => .ok h)
 refine .iter (fun m s => ∃ k : Nat, s.2 = ((a + k : Nat) : Int) /\ m + k = b - a /\ s.1 = (((x.Runs.take b).drop a).take k).sum) (n := b - a) ⟨0, by simp, by omega, by simp⟩ ?_
 rintro m ⟨s, v⟩ ⟨k, hk, hm, hs⟩
 simp only at hk hs
 subst hk
 unfold yfp
 refine .iteP (fun hc => ?_) (fun hc => .dn ?_)
 ·obtain ⟨r, hr⟩ := ja7 (l := x.Runs) (i := a + k) (by omega)
  have hr2 : ((x.Runs.take b).drop a)[k]? = some r := by
   rw [List.getElem?_drop, List.getElem?_take_of_lt (by omega)]; exact hr
  have hb1 := h2 r (List.mem_of_getElem? hr)
  have hb2 := jou (l := ((x.Runs.take b).drop a).take k) (M := 1000000) fun y hy => h2 y (List.mem_of_mem_take (List.mem_of_mem_drop (List.mem_of_mem_take hy)))
  have hlen : ((((x.Runs.take b).drop a).take k).length : Int) <= 1000 := by simp; omega
  rw [<- hs] at hb2
  refine .eq (by rw [jaw]; exact hr) (.nx ⟨m - 1, by omega, k + 1, ?_, by omega, ?_⟩)
  ·show w64 (((a + k : Nat) : Int) + 1) = _
   rw [jaj (by omega)]; omega
  ·show w64 (s + r) = _
   rw [jaj (by omega), jjq hr2, hs]
 ·rw [hs, List.take_of_length_le (by rw [List.length_drop, List.length_take]; omega)]
theorem yck {n : Network} (h : Good n) {k : Int} {l : Line} (hl : idx n.Lines k = some l) : yan n.Stops.length l := h.2.2.2.2 _ l (jgy hl).2.2
theorem ye5 {st : Nat} {l : Line} (h : yan st l) {j : Nat} {s : Int} (hs : l.Stops[j]? = some s) : 0 <= s /\ s < (st : Int) := (h.2.2.1 j s hs).1
theorem ybm {st : Nat} {l : Line} (h : yan st l) : (l.Runs.length + 1 = l.Stops.length /\ 1 <= l.Runs.length /\ l.Runs.length <= 5) /\ ∀ r ∈ l.Runs, 1 <= r /\ r <= 60 := by
 obtain ⟨h1, h2, h3, h4⟩ := h
 refine ⟨by omega, fun r hr => ?_⟩
 obtain ⟨i, hi⟩ := List.getElem?_of_mem hr
 exact h4 i r hi
theorem yhx {st : Nat} {l : Line} (h : yan st l) (k : Nat) : 0 <= (l.Runs.take k).sum /\ (l.Runs.take k).sum <= 300 := by
 obtain ⟨⟨h1, h2, h3⟩, h4⟩ := ybm h
 have := jou (l := l.Runs.take k) (M := 60) fun x hx => by have := h4 x (List.mem_of_mem_take hx); omega
 have hl : ((l.Runs.take k).length : Int) <= 5 := by simp; omega
 omega
theorem ykq {st : Nat} {l : Line} (h : yan st l) : 0 <= l.Runs.sum /\ l.Runs.sum <= 300 := by
 have := yhx h l.Runs.length
 rwa [List.take_length] at this
theorem ymt {t : Timetable} (hg : Good t.Network) {x : Trip} {l : Line} (hl : idx t.Network.Lines x.Line = some l) (hs : 0 <= x.Start /\ x.Start <= 1799) : zq17 t x = some (x.Start + l.Runs.sum) := by
 have h := yck hg hl
 obtain ⟨⟨h1, h2, h3⟩, h4⟩ := ybm h
 have h5 := ykq h
 unfold zq17
 rw [hl]
 simp only [qb]
 rw [ymg l.Runs (by omega) (fun x hx => by have := h4 x hx; omega)]
 simp (disch := omega) only [if_pos, if_neg, decide_eq_true_eq, decide_true, decide_false, Bool.not_true, Bool.not_false, Bool.false_eq_true, Bool.not_eq_true', decide_eq_false_iff_not, if_true, if_false, jaj, jan, jaw, qb, Option.map_some, Int.toNat_natCast, not_true_eq_false, not_false_eq_true, true_and, and_true, and_self, false_and, and_false, reduceIte, jcr, jcl, beq_self_eq_true, ne_eq, bne_self_eq_false]
theorem ye7 {t : Timetable} {i : Nat} {x : Trip} {l : Line} (hx : t.Trips[i]? = some x) (hl : idx t.Network.Lines x.Line = some l) : zq73 t (i : Int) = some l := by
 unfold zq73
 simp (disch := omega) only [if_pos, if_neg, decide_eq_true_eq, decide_true, decide_false, Bool.not_true, Bool.not_false, Bool.false_eq_true, Bool.not_eq_true', decide_eq_false_iff_not, if_true, if_false, jaj, jan, jaw, qb, Option.map_some, Int.toNat_natCast, not_true_eq_false, not_false_eq_true, true_and, and_true, and_self, false_and, and_false, reduceIte, jcr, jcl, beq_self_eq_true, ne_eq, bne_self_eq_false, hx, hl]
theorem yie {t : Timetable} {i : Nat} {x : Trip} {l : Line} (hx : t.Trips[i]? = some x) (hl : idx t.Network.Lines x.Line = some l) : zq76 t (i : Int) = some l.Stops := by
 unfold zq76
 rw [ye7 hx hl]; rfl
theorem ypu {t : Timetable} (hg : Good t.Network) {i : Nat} {x : Trip} {l : Line} (hx : t.Trips[i]? = some x) (hl : idx t.Network.Lines x.Line = some l) (hs : 0 <= x.Start /\ x.Start <= 1799) {k : Nat} (hk : k <= l.Runs.length) : zq69 t (i : Int) (k : Int) = some (x.Start + (l.Runs.take k).sum) := by
 have h := yck hg hl
 obtain ⟨⟨h1, h2, h3⟩, h4⟩ := ybm h
 have h5 := yhx h k
 have e := ymq l 0 k (by omega) hk (by omega) (fun x hx => by have := h4 x hx; omega)
 rw [List.drop_zero] at e
 have e' : zq67 l 0 (k : Int) = some (l.Runs.take k).sum := e
 unfold zq69
 simp (disch := omega) only [if_pos, if_neg, decide_eq_true_eq, decide_true, decide_false, Bool.not_true, Bool.not_false, Bool.false_eq_true, Bool.not_eq_true', decide_eq_false_iff_not, if_true, if_false, jaj, jan, jaw, qb, Option.map_some, Int.toNat_natCast, not_true_eq_false, not_false_eq_true, true_and, and_true, and_self, false_and, and_false, reduceIte, jcr, jcl, beq_self_eq_true, ne_eq, bne_self_eq_false, hx, ye7 hx hl, e']
theorem ymp {t : Timetable} (hg : Good t.Network) {i : Nat} {x : Trip} {l : Line} (hx : t.Trips[i]? = some x) (hl : idx t.Network.Lines x.Line = some l) (hs : 0 <= x.Start /\ x.Start <= 1799) : zq70 t (i : Int) = some (x.Start + l.Runs.sum) := by
 have h := yck hg hl
 obtain ⟨⟨h1, h2, h3⟩, h4⟩ := ybm h
 have e : w64 ((l.Stops.length : Int) - 1) = (l.Runs.length : Int) := by rw [jaj (by omega)]; omega
 unfold zq70
 rw [yie hx hl]
 simp only [qb, e, ypu hg hx hl hs (Nat.le_refl _), List.take_length]
def yc1 (t : Timetable) : Prop := (∀ (i : Nat) x, t.Trips[i]? = some x -> ybr t.Network x) /\ ∀ (i : Nat) a b, t.Trips[i]? = some a -> t.Trips[i + 1]? = some b -> a.Id < b.Id
noncomputable instance (t : Timetable) : Decidable (yc1 t) := Classical.propDecidable _
theorem yqf {t : Timetable} (hb : TB t) (hg : Good t.Network) (x : Trip) (last : Int) (hlast : 0 <= last) : ((if (decide (x.Id <= last)) = true then some true else if (decide (999 < x.Id)) = true then some true else (zq19 t.Network x.Line).bind fun r =>
   if (!r) = true then some true else (zq7 x.Start).bind fun r1 =>
   if (!r1) = true then some true else (zq17 t x).bind fun r2 =>
   (zq7 r2).bind fun r3 =>
   some (!r3))) = some (!decide (last < x.Id /\ ybr t.Network x)) := by
 by_cases c1 : x.Id <= last
 ·have : ¬ (last < x.Id /\ ybr t.Network x) := fun h => by omega
  simp [c1, this]
 ·by_cases c2 : 999 < x.Id
  ·have : ¬ (last < x.Id /\ ybr t.Network x) := fun h => by have := h.2.1; omega
   simp [c1, c2, this]
  ·simp only [yk8, ykn, qb, c1, c2, decide_false, Bool.false_eq_true, if_false]
   by_cases c3 : 0 <= x.Line /\ x.Line < (t.Network.Lines.length : Int)
   ·obtain ⟨l, hl, _⟩ := jdt (l := t.Network.Lines) c3.1 c3.2
    by_cases c4 : 0 <= x.Start /\ x.Start <= 1799
    ·have hT : (last < x.Id /\ ybr t.Network x) ↔ (0 <= x.Start + l.Runs.sum /\ x.Start + l.Runs.sum <= 1799) := by
      constructor
      ·rintro ⟨_, _, l', hl', _, h⟩
       rw [hl] at hl'; cases hl'; exact h
      ·intro h; exact ⟨by omega, ⟨by omega, by omega⟩, l, hl, c4, h⟩
     simp only [c3, c4, and_self, decide_true, Bool.not_true, Bool.false_eq_true, if_false, ymt hg hl c4, ykn, qb, hT]
    ·have : ¬ (last < x.Id /\ ybr t.Network x) := fun h => by
      obtain ⟨_, _, l', _, h4, _⟩ := h
      exact c4 h4
     simp only [c3, c4, this, and_self, decide_true, decide_false, Bool.not_true, Bool.not_false, Bool.false_eq_true, if_false, if_true]
   ·have : ¬ (last < x.Id /\ ybr t.Network x) := fun h => by
     obtain ⟨_, _, l', hl', _⟩ := h
     have := jgy hl'
     exact c3 ⟨this.1, this.2.1⟩
    simp only [c3, this, decide_false, Bool.not_false, if_true]
theorem ygk {t : Timetable} (hb : TB t) (hg : Good t.Network) : zq11 t = some (decide (t.Trips.length <= 12 /\ yc1 t)) := by
 unfold zq11
 by_cases h12 : t.Trips.length <= 12
 ·have d : decide ((12 : Int) < (t.Trips.length : Int)) = false := by simp; omega
  have e : decide (t.Trips.length <= 12 /\ yc1 t) = decide (yc1 t) := by simp [h12]
  rw [d, e]
  simp only [Bool.false_eq_true, if_false]
  refine jqe (.iter (fun m a => ∃ i : Nat, a.2 = (i : Int) /\ m + i = t.Trips.length /\ 0 <= a.1 /\ (∀ y, 0 < i -> t.Trips[i - 1]? = some y -> a.1 = y.Id) /\ (i = 0 -> a.1 = 0) /\ (∀ (j : Nat) x, j < i -> t.Trips[j]? = some x -> ybr t.Network x) /\ ∀ (j : Nat) a b, j + 1 < i -> t.Trips[j]? = some a -> t.Trips[j + 1]? = some b -> a.Id < b.Id)
   (n := t.Trips.length) ⟨0, rfl, rfl, by simp, by simp, by simp, fun j x h => by omega, fun j a b h => by omega⟩ ?_)
  rintro m ⟨last, v⟩ ⟨i, hv, hm, h0, h1, h2, h3, h4⟩
  simp only at hv h0 h1 h2
  subst hv
  unfold yf4
  refine .iteP (fun hc => ?_) (fun hc => .dn (.inl ⟨rfl, fun j x hx => h3 j x (by have := jcb hx; omega) hx, fun j a b ha hb' => h4 j a b (by have := jcb hb'; omega) ha hb'⟩))
  obtain ⟨x, hx⟩ := ja7 (l := t.Trips) (i := i) (by omega)
  refine .eq (by rw [jaw]; exact hx) (.eq (yqf hb hg x last h0) (.iteN (fun hn => .dn (.inr ⟨rfl, fun hp => hn ⟨?_, hp.1 i x hx⟩⟩)) (fun hp => .nx ⟨m - 1, by omega, i + 1, jah (by omega), by omega, ?_, ?_, by simp, ?_, ?_⟩)))
  ·by_cases hi : i = 0
   ·rw [h2 hi]; have := (hp.1 i x hx).1; omega
   ·obtain ⟨y, hy⟩ := ja7 (l := t.Trips) (i := i - 1) (by omega)
    rw [h1 y (by omega) hy]
    exact hp.2 (i - 1) y x hy (by rw [show i - 1 + 1 = i by omega]; exact hx)
  ·show 0 <= x.Id
   have := hp.2.1; omega
  ·intro y _ hy
   rw [show i + 1 - 1 = i by omega, hx] at hy; cases hy; rfl
  ·intro j y hj hy
   by_cases hji : j = i
   ·subst hji; rw [hx] at hy; cases hy; exact hp.2
   ·exact h3 j y (by omega) hy
  ·intro j a b hj ha hb'
   by_cases hji : j + 1 = i
   ·subst hji; rw [hx] at hb'; cases hb'
    have := h1 a (by omega) (by simpa using ha)
    omega
   ·exact h4 j a b (by omega) ha hb'
 ·have d : decide ((12 : Int) < (t.Trips.length : Int)) = true := by simp; omega
  simp [d, h12]
def ygl (t : Timetable) (i : Nat) (x : Trip) : Prop := ybr t.Network x /\ ∀ y, 0 < i -> t.Trips[i - 1]? = some y -> y.Id < x.Id
noncomputable instance (t : Timetable) (i : Nat) (x : Trip) : Decidable (ygl t i x) := Classical.propDecidable _
theorem yff (t : Timetable) : yal t ↔ Good t.Network /\ t.Trips.length <= 12 /\ yc1 t := Iff.rfl
theorem ya2 {t : Timetable} (hb : TB t) : zq8 t = some (decide (yal t)) := by
 unfold zq8
 rw [ymf _ hb.1]
 by_cases hg : Good t.Network
 ·simp only [hg, decide_true, if_true, qb, ygk hb hg, yff, true_and]
 ·have : ¬ yal t := fun h => hg h.1
  simp [hg, this]
theorem yb7 {t : Timetable} (hb : TB t) : zq72 t = some (decide (yal t)) := by
 unfold zq72
 rw [ypx _ hb.1]
 by_cases hg : Good t.Network
 ·by_cases h12 : t.Trips.length <= 12
  ·have d : decide ((12 : Int) < (t.Trips.length : Int)) = false := by simp; omega
   have e : decide (yal t) = decide (yc1 t) := by rw [decide_eq_decide, yff]; simp [hg, h12]
   simp only [hg, decide_true, Bool.not_true, Bool.false_eq_true, if_false, qb, d, e]
   refine jqe (.iter (fun m a => ∃ i : Nat, a = (i : Int) /\ m + i = t.Trips.length /\ (∀ (j : Nat) x, j < i -> t.Trips[j]? = some x -> ybr t.Network x) /\ ∀ (j : Nat) a b, j + 1 < i -> t.Trips[j]? = some a -> t.Trips[j + 1]? = some b -> a.Id < b.Id)
    (n := t.Trips.length) ⟨0, rfl, rfl, fun j x h => by omega, fun j a b h => by omega⟩ ?_)
   rintro m v ⟨i, hv, hm, h3, h4⟩
   subst hv
   unfold yfo
   refine .iteP (fun hc => ?_) (fun hc => .dn (.inl ⟨rfl, fun j x hx => h3 j x (by have := jcb hx; omega) hx, fun j a b ha hb' => h4 j a b (by have := jcb hb'; omega) ha hb'⟩))
   obtain ⟨x, hx⟩ := ja7 (l := t.Trips) (i := i) (by omega)
   refine .eq (by rw [jaw]; exact hx) ?_
   have hll := hg.2.1
   have ew : w64 ((t.Network.Lines.length : Int) - 1) = (t.Network.Lines.length : Int) - 1 := jaj (by omega)
   have key : ((zq51 x.Id 1 999).bind fun r6 =>
   (if (!r6) = true then some true else (zq51 x.Line 0 (w64 ((t.Network.Lines.length : Int) - 1))).bind fun r7 =>
   if (!r7) = true then some true else (zq68 x.Start).bind fun r8 =>
   if (!r8) = true then some true else (zq70 t (i : Int)).bind fun r9 =>
   (zq68 r9).bind fun r10 =>
   if (!r10) = true then some true else if (decide (0 < (i : Int))) = true then (idx t.Trips (w64 ((i : Int) - 1))).bind fun e2 =>
   some (decide (x.Id <= e2.Id)) else some false)) = some (!decide (ygl t i x)) := by
    have no : ¬ ybr t.Network x -> (!decide (ygl t i x)) = true := fun h => (by simp [show ¬ ygl t i x from fun q => h q.1])
    simp only [ybg, ye9, ew, qb]
    by_cases c1 : 1 <= x.Id /\ x.Id <= 999
    ·by_cases c3 : 0 <= x.Line /\ x.Line <= (t.Network.Lines.length : Int) - 1
     ·obtain ⟨l, hl, _⟩ := jdt (l := t.Network.Lines) c3.1 (by omega)
      by_cases c4 : 0 <= x.Start /\ x.Start <= 1799
      ·simp only [c1, c3, c4, and_self, decide_true, Bool.not_true, Bool.false_eq_true, if_false, ymp hg hx hl c4, ye9, qb]
       by_cases c5 : 0 <= x.Start + l.Runs.sum /\ x.Start + l.Runs.sum <= 1799
       ·have hT : ybr t.Network x := ⟨c1, l, hl, c4, c5⟩
        simp only [c5, and_self, decide_true, Bool.not_true, Bool.false_eq_true, if_false, ]
        by_cases c6 : 0 < i
        ·obtain ⟨y, hy⟩ := ja7 (l := t.Trips) (i := i - 1) (by omega)
         have e1 : w64 ((i : Int) - 1) = ((i - 1 : Nat) : Int) := by rw [jaj (by omega)]; omega
         have c6' : (0 : Int) < (i : Int) := by omega
         simp only [c6', decide_true, if_true, e1, jaw, hy, qb, Option.some.injEq]
         by_cases c7 : x.Id <= y.Id
         ·have : ¬ ygl t i x := fun h => by have := h.2 y c6 hy; omega
          simp only [c7, decide_true, this, decide_false, Bool.not_false]
         ·have : ygl t i x := ⟨hT, fun z _ hz => by rw [hy] at hz; cases hz; omega⟩
          simp only [c7, decide_false, this, decide_true, Bool.not_true]
        ·have c6' : ¬ (0 : Int) < (i : Int) := by omega
         have : ygl t i x := ⟨hT, fun z h0 _ => absurd h0 c6⟩
         simp only [c6', decide_false, Bool.false_eq_true, if_false, this, decide_true, Bool.not_true]
       ·rw [no (fun hT => by
         obtain ⟨_, l', hl', _, h⟩ := hT
         rw [hl] at hl'; cases hl'; exact c5 h)]
        simp only [c5, decide_false, Bool.not_false, if_true]
      ·rw [no (fun hT => by obtain ⟨_, l', _, h, _⟩ := hT; exact c4 h)]
       simp only [c1, c3, c4, and_self, decide_true, decide_false, Bool.not_true, Bool.not_false, Bool.false_eq_true, if_false, if_true]
     ·rw [no (fun hT => by
       obtain ⟨_, l', hl', _⟩ := hT
       have := jgy hl'
       exact c3 ⟨this.1, by omega⟩)]
      simp only [c1, c3, and_self, decide_true, decide_false, Bool.not_true, Bool.not_false, Bool.false_eq_true, if_false, if_true]
    ·rw [no (fun hT => c1 hT.1)]
     simp only [c1, decide_false, Bool.not_false, if_true]
   rw [jmf, key]
   refine .iteN (fun hn => .dn (.inr ⟨rfl, fun hp => hn ⟨hp.1 i x hx, fun y hi hy => hp.2 (i - 1) y x hy (by rw [show i - 1 + 1 = i by omega]; exact hx)⟩⟩)) (fun hp => .nx ⟨m - 1, by omega, i + 1, jah (by omega), by omega, ?_, ?_⟩)
   ·intro j y hj hy
    by_cases hji : j = i
    ·subst hji; rw [hx] at hy; cases hy; exact hp.1
    ·exact h3 j y (by omega) hy
   ·intro j a b hj ha hb'
    by_cases hji : j + 1 = i
    ·subst hji; rw [hx] at hb'; cases hb'
     exact hp.2 a (by omega) (by simpa using ha)
    ·exact h4 j a b (by omega) ha hb'
  ·have d : decide ((12 : Int) < (t.Trips.length : Int)) = true := by simp; omega
   have : ¬ yal t := fun h => h12 h.2.1
   simp [hg, d, this]
 ·have : ¬ yal t := fun h => hg h.1
  simp [hg, this]
theorem ya4 (t : Timetable) (h : t.Trips.length <= 1000) (id : Int) : zq25 t id = some (fixI (fun x => x.Id == id) t.Trips) := by
 unfold zq25 zq84 zq83
 rw [jdg t.Trips (fun x => x.Id == id) (fun i x hx => ?_) (by unfold yc5; simp)]
 ·rfl
 ·have := jcb hx
  unfold yc5 zq26
  simp (disch := omega) only [if_pos, if_neg, decide_eq_true_eq, decide_true, decide_false, Bool.not_true, Bool.not_false, Bool.false_eq_true, Bool.not_eq_true', decide_eq_false_iff_not, if_true, if_false, jaj, jan, jaw, qb, Option.map_some, Int.toNat_natCast, not_true_eq_false, not_false_eq_true, true_and, and_true, and_self, false_and, and_false, reduceIte, jcr, jcl, beq_self_eq_true, ne_eq, bne_self_eq_false, hx, Int.ofNat_lt.2 this]
  split <;> simp [*] <;> omega
theorem ye8 (t : Timetable) (h : t.Trips.length <= 1000) (id : Int) : zq71 t id = some (fixI (fun x => x.Id == id) t.Trips) := by
 unfold zq71
 rw [jdg t.Trips (fun x => x.Id == id) (fun i x hx => ?_) (by unfold yc7; simp)]
 have := jcb hx
 unfold yc7
 simp (disch := omega) only [if_pos, if_neg, decide_eq_true_eq, decide_true, decide_false, Bool.not_true, Bool.not_false, Bool.false_eq_true, Bool.not_eq_true', decide_eq_false_iff_not, if_true, if_false, jaj, jan, jaw, qb, Option.map_some, Int.toNat_natCast, not_true_eq_false, not_false_eq_true, true_and, and_true, and_self, false_and, and_false, reduceIte, jcr, jcl, beq_self_eq_true, ne_eq, bne_self_eq_false, hx, Int.ofNat_lt.2 this]
 split <;> simp [*] <;> omega
theorem yqq {t : Timetable} (h : yal t) {i j : Nat} {a b : Trip} (hij : i < j) (ha : t.Trips[i]? = some a) (hb : t.Trips[j]? = some b) : a.Id < b.Id := by
 induction j generalizing b with
 | zero => omega
 | succ j ih =>
  obtain ⟨c, hc⟩ := ja7 (l := t.Trips) (i := j) (by have := jcb hb; omega)
  have h1 := h.2.2.2 j c b hc hb
  by_cases hji : i = j
  ·subst hji; rw [ha] at hc; cases hc; exact h1
  ·have := ih (by omega) hc; omega
theorem ylh {k : Nat} {c : l1Cur} (h : Cur k c) (hk : k <= 200000000) : Tot (zq36 c) fun r => Cur (k + 1000) r.2 /\ Bd r.1 := yed h hk
def DT (t : Timetable) : Prop := Bd t.Network /\ t.Trips.length <= 30
theorem DT.tb {t : Timetable} (h : DT t) : TB t := ⟨h.1, by have := h.2; omega⟩
theorem yew {k : Nat} {c : l1Cur} (h : Cur k c) (hk : k <= 100000000) : Tot (zq49 c) fun r => Cur (k + 400) r.2 /\ DT r.1 /\ NB r.1.Network /\ r.1.Trips.length <= 8 := by
 unfold zq49
 refine .call (ybe h (by omega)) fun r ⟨hc, hn⟩ => .call (yad 8 hc (by omega)) fun r1 ⟨hc1, h0, h1⟩ => ?_
 refine .call (P := fun o => Cur (k + 400) ⟨o.1, o.2.1, ⟨o.2.2.1⟩⟩ /\ o.2.2.2.length <= 8) ?_ fun o ⟨ho1, ho2⟩ => .ok ⟨ho1, ⟨hn.bd, by show o.2.2.2.length <= 30; omega⟩, hn, ho2⟩
 refine .iter (fun m s => s.2.1 = (m : Int) /\ m + s.2.2.2.2.2.length <= 8 /\ Cur (k + 302 + 6 * (8 - m)) ⟨s.2.2.1, s.2.2.2.1, ⟨s.2.2.2.2.1⟩⟩) (n := r1.1.toNat) ⟨by show r1.1 = _; omega, by show r1.1.toNat + 0 <= 8; omega, hc1.mono (by omega)⟩ ?_
 rintro m ⟨n, v, v1, v2, v3, v4⟩ ⟨hv, hl, hcur⟩
 simp only at hv hl hcur
 subst hv
 unfold yft
 refine .iteP (fun hc => ?_) (fun hc => .dn ⟨hcur.mono (by omega), by show v4.length <= 8; omega⟩)
 refine .call (yad 3 hcur (by omega)) fun r2 ⟨hc2, _⟩ => .call (yad _ hc2 (by omega)) fun r5 ⟨hc5, _⟩ => .call (yad 24 hc5 (by omega)) fun r6 ⟨hc6, _⟩ => .chk (by simp; omega) (.nx ⟨m - 1, by omega, ?_, ?_, ?_⟩)
 ·show w64 ((m : Int) - 1) = _; rw [jaj (by omega)]; omega
 ·show m - 1 + (v4 ++ [_]).length <= 8; simp; omega
 ·exact hc6.mono (by omega)
theorem ycp {k : Nat} {c : l1Cur} (h : Cur k c) (hk : k <= 50000000) : Tot (zq37 c) fun r => Cur (k + 2000) r.2 /\ DT r.1 := by
 unfold zq37
 refine .call (yew h (by omega)) fun r ⟨hc, hd, hn, hl⟩ => ?_
 refine .ite (fun _ => .ok ⟨hc.mono (by omega), hd⟩) fun he => ?_
 have hpos : 0 < r.1.Trips.length := by
  have : (r.1.Trips.length : Int) ≠ 0 := by simpa using he
  omega
 refine .call (yad _ hc (by omega)) fun r1 ⟨hc1, h10, h11⟩ => ?_
 have h12 : r1.1 < (r.1.Trips.length : Int) := by omega
 refine .idx h10 h12 fun e _ => ?_
 have fin : ∀ (v : List UInt8) (v1 v2 : Int) (v3 : List Line) (v4 v5 v6 : Int) (v7 : List ByteArray), Cur (k + 2000) ⟨v, v1, ⟨v2⟩⟩ -> Bd ⟨v7, v3⟩ -> Tot ((idx r.1.Trips r1.1).bind fun e2 => some ((⟨(⟨v7, v3⟩ : Network), (r.1.Trips.set r1.1.toNat (⟨v4, v5, v6⟩ : Trip))⟩ : Timetable), (⟨v, v1, (⟨v2⟩ : IK .u64)⟩ : l1Cur))) fun r => Cur (k + 2000) r.2 /\ DT r.1 := fun v v1 v2 v3 v4 v5 v6 v7 q1 q2 =>
  .idx h10 h12 fun e2 _ => .ok ⟨q1, q2, by show (r.1.Trips.set _ _).length <= 30; rw [List.length_set]; omega⟩
 refine .flb (.call (yad 24 hc1 (by omega)) fun r2 ⟨hc2, _⟩ => ?_)
 refine .ite (fun _ => .call (yee _ (by simp) hc2 (by omega)) fun r3 ⟨hc3, _⟩ => .go (fin _ _ _ _ _ _ _ _ (hc3.mono (by omega)) hd.1)) fun _ => ?_
 refine .ite (fun _ => .call (yad 7 hc2 (by omega)) fun r3 ⟨hc3, _⟩ => .go (fin _ _ _ _ _ _ _ _ (hc3.mono (by omega)) hd.1)) fun _ => ?_
 refine .ite (fun _ => .call (yee _ (by simp) hc2 (by omega)) fun r3 ⟨hc3, _⟩ => .go (fin _ _ _ _ _ _ _ _ (hc3.mono (by omega)) hd.1)) fun _ => ?_
 refine .ite (fun _ => .call (ylh hc2 (by omega)) fun r3 ⟨hc3, hb⟩ => .go (fin _ _ _ _ _ _ _ _ (hc3.mono (by omega)) hb)) fun _ => ?_
 refine .ite (fun _ => ?_) fun _ => .go (fin _ _ _ _ _ _ _ _ (hc2.mono (by omega)) hd.1)
 refine .call (P := fun o => Cur (k + 2000) ⟨o.1, o.2.1, ⟨o.2.2.1⟩⟩ /\ o.2.2.2.length <= 30) ?_ fun o ⟨ho1, ho2⟩ => .ret ⟨ho1, hd.1, ho2⟩
 refine .iter (fun m s => ∃ i : Nat, s.1 = (i : Int) /\ m + i = 14 /\ s.2.2.2.2.length <= 8 + i /\ Cur (k + 500 + 2 * i) ⟨s.2.1, s.2.2.1, ⟨s.2.2.2.1⟩⟩) (n := 14) ⟨0, rfl, rfl, by simpa using hl, hc2.mono (by omega)⟩ ?_
 rintro m ⟨v8, v9, v10, v11, v12⟩ ⟨i, hv, hm, hl12, hcur⟩
 simp only at hv hl12 hcur
 subst hv
 unfold yfv
 refine .call (yad 2 hcur (by omega)) fun r8 ⟨hc8, _⟩ => ?_
 refine .call (P := fun b => b = true -> i < 14) (.ite (fun _ => .ok fun hb => by simp at hb; omega) fun _ => .ok fun hb => by cases hb) fun b hb => ?_
 refine .ite (fun ht => .chk (by simp; omega) (.nx ⟨m - 1, by have := hb ht; omega, i + 1, jah (by omega), by have := hb ht; omega, ?_, hc8.mono (by omega)⟩)) (fun _ => .dn ⟨hc8.mono (by omega), by show v12.length <= 30; omega⟩)
 show (v12 ++ [_]).length <= 8 + (i + 1); simp; omega
theorem yd5 {k : Nat} {c : l1Cur} (h : Cur k c) (hk : k <= 40000000) : Tot (zq50 c) fun r => Cur (k + 3000) r.2 /\ DT r.1 := by
 unfold zq50
 refine .call (ykr 16 h (by omega)) fun r hc => ?_
 refine .ite (fun _ => .call (ycp hc (by omega)) fun r1 ⟨hc1, hd⟩ => .ok ⟨hc1.mono (by omega), hd⟩) fun _ => ?_
 refine .call (ybe hc (by omega)) fun r2 ⟨hc2, hn⟩ => .call (yad 6 hc2 (by omega)) fun r3 ⟨hc3, h30, h31⟩ => ?_
 refine .call (P := fun o => Cur (k + 3000) ⟨o.1, o.2.1, ⟨o.2.2.1⟩⟩ /\ o.2.2.2.length <= 10) ?_ fun o ⟨ho1, ho2⟩ => ?_
 ·refine .iter (fun m s => s.1 = (m : Int) /\ m + s.2.2.2.2.length <= 10 /\ Cur (k + 310 + 6 * (10 - m)) ⟨s.2.1, s.2.2.1, ⟨s.2.2.2.1⟩⟩) (n := 3 + r3.1.toNat) ⟨by show w64 (3 + r3.1) = _; rw [jaj (by omega)]; omega, by show 3 + r3.1.toNat + 0 <= 10; omega, hc3.mono (by omega)⟩ ?_
  rintro m ⟨i, v, v1, v2, v3⟩ ⟨hv, hl, hcur⟩
  simp only at hv hl hcur
  subst hv
  unfold yfs
  refine .iteP (fun hc => ?_) (fun hc => .dn ⟨hcur.mono (by omega), by show v3.length <= 10; omega⟩)
  refine .call (yad 2 hcur (by omega)) fun r7 ⟨hc7, _⟩ => .call (yad _ hc7 (by omega)) fun r8 ⟨hc8, _⟩ => .call (yad 16 hc8 (by omega)) fun r9 ⟨hc9, _⟩ => .chk (by simp; omega) (.nx ⟨m - 1, by omega, ?_, ?_, ?_⟩)
  ·show w64 ((m : Int) - 1) = _; rw [jaj (by omega)]; omega
  ·show m - 1 + (v3 ++ [_]).length <= 10; simp; omega
  ·exact hc9.mono (by omega)
 ·refine .call (P := fun l => l.length <= 10) ?_ fun l hl => .ok ⟨ho1, hn.bd, by show l.length <= 30; omega⟩
  refine .iter (fun m s => ∃ i : Nat, s.1 = (i : Int) /\ 1 <= i /\ m + i = 11 /\ s.2.length <= 10) (n := 10) ⟨1, rfl, by omega, by omega, ho2⟩ ?_
  rintro m ⟨x, v8⟩ ⟨i, hx, h1, hm, hl⟩
  simp only at hx hl
  subst hx
  unfold yfr
  refine .iteP (fun hc => ?_) (fun hc => .dn hl)
  have e1 : w64 ((i : Int) - 1) = (i : Int) - 1 := jaj (by omega)
  refine .idx (by omega) hc fun e _ => ?_
  rw [e1]
  refine .idx (by omega) (by omega) fun e2 _ => ?_
  refine .call (P := fun _ => True) ?_ fun r11 _ => .idx (by omega) hc fun e3 _ => .nx ⟨m - 1, by omega, i + 1, jah (by omega), by omega, by omega, by show (v8.set _ _).length <= 10; rw [List.length_set]; exact hl⟩
  unfold zq52
  exact .ite (fun _ => .ok trivial) fun _ => .ok trivial
theorem ybk {k : Nat} {c : l1Cur} (n : Int) (h : Cur k c) (hk : k <= 3000000000) : Tot (zq47 c n) fun r => Cur (k + 2) r.2 /\ 0 <= r.1 /\ (r.1 < n \/ r.1 = 0) := yad n h hk
theorem yko {k : Nat} {c : l1Cur} (n : Int) (h : Cur k c) (hk : k <= 3000000000) : Tot (zq46 c n) fun r => Cur (k + 2) r.2 := ykr n h hk
theorem ypf {k : Nat} {c : l1Cur} (l : List Int) (hl : l ≠ []) (h : Cur k c) (hk : k <= 3000000000) : Tot (zq34 c l) fun r => Cur (k + 2) r.2 /\ r.1 ∈ l := yee l hl h hk
theorem ymh {k : Nat} {c : l1Cur} (l : List Int) (hl : l ≠ []) (h : Cur k c) (hk : k <= 3000000000) : Tot (zq35 c l) fun r => Cur (k + 2) r.2 /\ r.1 ∈ l := ycq l hl h hk
theorem yqg {k : Nat} {c : l1Cur} (h : Cur k c) (hk : k <= 2000000000) : Tot (zq48 c) fun r => Cur (k + 4) r.2 := by
 unfold zq48
 refine Tot.call (yko 16 h (by omega)) fun r hr => .ite (fun _ => ?_) (fun _ => ?_)
 ·exact Tot.call (ypf _ (by simp) hr (by omega)) fun r hr => .ok hr.1
 ·exact Tot.call (ybk 240 hr (by omega)) fun r hr => .ok hr.1
theorem ygj (x y : Int) : zq0 x y = some (if x < y then -1 else if y < x then 1 else 0) := by
 unfold zq0 zq1
 by_cases h : x < y
 ·simp [h]
 ·by_cases h2 : y < x <;> simp [h, h2]
theorem ycw (a : List Int) (h : a.length <= 1000) : yf0 a a = some true := by
 unfold yf0
 simp only [bne_self_eq_false, Bool.false_eq_true, if_false]
 rw [jcw (hd := Classical.propDecidable _) a (fun _ _ => True) (fun i x hx => ?_) (by unfold yb2; simp)]
 ·rw [if_pos (fun _ _ _ => trivial)]
 ·have hi := (List.getElem?_eq_some_iff.1 hx).1
  unfold yb2
  have hlt : decide ((i : Int) < (a.length : Int)) = true := by simp; omega
  left
  simp only [hlt, if_true, jaw, hx, qb, bne_self_eq_false, Bool.false_eq_true, if_false, jah (n := i) (by omega), and_self]
theorem yge (a : List ByteArray) (h : a.length <= 1000) : yia a a = some true := by
 unfold yia
 simp only [bne_self_eq_false, Bool.false_eq_true, if_false]
 rw [jcw (hd := Classical.propDecidable _) a (fun _ _ => True) (fun i x hx => ?_) (by unfold yb0; simp)]
 ·rw [if_pos (fun _ _ _ => trivial)]
 ·have hi := (List.getElem?_eq_some_iff.1 hx).1
  unfold yb0
  have hlt : decide ((i : Int) < (a.length : Int)) = true := by simp; omega
  left
  simp only [hlt, if_true, jaw, hx, qb, beq_self_eq_true, Bool.not_true, Bool.false_eq_true, if_false, jah (n := i) (by omega), and_self]
theorem yd3 (n : Network) (h : Bd n) : yib n n = some true := by
 obtain ⟨h1, h2, h3⟩ := h
 unfold yib
 rw [yge _ h1]
 simp only [qb, Bool.not_true, Bool.false_eq_true, if_false, bne_self_eq_false]
 rw [jcw (hd := Classical.propDecidable _) n.Lines (fun _ _ => True) (fun i x hx => ?_) (by unfold yb1; simp)]
 ·rw [if_pos (fun _ _ _ => trivial)]
 ·have hi := (List.getElem?_eq_some_iff.1 hx).1
  obtain ⟨g1, g2⟩ := h3 x (List.mem_of_getElem? hx)
  unfold yb1
  have hlt : decide ((i : Int) < (n.Lines.length : Int)) = true := by simp; omega
  left
  simp only [hlt, if_true, jaw, hx, qb, beq_self_eq_true, Bool.not_true, Bool.false_eq_true, if_false, ycw _ g1, ycw _ g2, jah (n := i) (by omega), and_self]
theorem yig (n : Network) (h : Bd n) : zq15 n = some n := by
 obtain ⟨h1, h2, h3⟩ := h
 unfold zq15
 rw [ylf _ h1, jan (by omega)]
 simp only [qb]
 rw [jlg (fun x : Line => x) n.Lines _ (by simp) (fun i a x y ha hy hx => ?_) (fun a ha => ?_)]
 ·simp only [qb, List.map_id']
 ·have hi := (List.getElem?_eq_some_iff.1 hx).1
  obtain ⟨g1, g2⟩ := h3 x (List.mem_of_getElem? hx)
  unfold ydu
  have hlt : decide ((i : Int) < (n.Lines.length : Int)) = true := by simp; omega
  simp only [hlt, if_true, jaw, hx, hy, qb, ygi x g1 g2, jah (n := i) (by omega), Int.toNat_natCast]
 ·unfold ydu; simp
theorem yle (l : List Trip) (h : l.length <= 1000) : zq79 l = some l := by
 unfold zq79
 rw [jan (by simp; omega)]; rfl
theorem yec {t : Timetable} (h : TB t) : zq16 t = some t := by
 unfold zq16
 rw [yig _ h.1]
 simp only [qb, yle _ h.2]
theorem yd7 {t : Timetable} (h : TB t) : zq74 t = some t := by
 have := h.2
 unfold zq74
 rw [yh2 _ h.1]
 simp only [qb]
 rw [jan (by simp; omega)]
 rfl
def AtP (l : List Trip) (x : Trip) (p : Nat) : Prop := p <= l.length /\ (∀ (j : Nat) y, j < p -> l[j]? = some y -> y.Id < x.Id) /\ ∀ y, l[p]? = some y -> ¬ y.Id < x.Id
theorem yhz {t : Timetable} (h : t.Trips.length <= 1000) (x : Trip) : ∃ p : Nat, iter (ybb t x) (0 : Int) = some (p : Int) /\ AtP t.Trips x p := by
 have : Tot (iter (ybb t x) (0 : Int)) fun v => ∃ p : Nat, v = (p : Int) /\ AtP t.Trips x p := by
  refine .iter (fun m v => ∃ i : Nat, v = (i : Int) /\ m + i = t.Trips.length /\ ∀ (j : Nat) y, j < i -> t.Trips[j]? = some y -> y.Id < x.Id) (n := t.Trips.length) ⟨0, rfl, rfl, fun j y hj => by omega⟩ ?_
  rintro m v ⟨i, rfl, hm, hj⟩
  unfold ybb
  by_cases hc : i < t.Trips.length
  ·obtain ⟨y, hy⟩ := ja7 (l := t.Trips) (i := i) hc
   by_cases hlt : y.Id < x.Id
   ·simp (disch := omega) only [if_pos, if_neg, decide_eq_true_eq, decide_true, decide_false, Bool.not_true, Bool.not_false, Bool.false_eq_true, Bool.not_eq_true', decide_eq_false_iff_not, if_true, if_false, jaj, jan, jaw, qb, Option.map_some, Int.toNat_natCast, not_true_eq_false, not_false_eq_true, true_and, and_true, and_self, false_and, and_false, reduceIte, jcr, jcl, beq_self_eq_true, ne_eq, bne_self_eq_false, hy, Int.ofNat_lt.2 hc, hlt]
    refine .nx ⟨m - 1, by omega, i + 1, by omega, by omega, fun j z hjz hz => ?_⟩
    by_cases hji : j = i
    ·subst hji; rw [hy] at hz; cases hz; exact hlt
    ·exact hj j z (by omega) hz
   ·simp (disch := omega) only [if_pos, if_neg, decide_eq_true_eq, decide_true, decide_false, Bool.not_true, Bool.not_false, Bool.false_eq_true, Bool.not_eq_true', decide_eq_false_iff_not, if_true, if_false, jaj, jan, jaw, qb, Option.map_some, Int.toNat_natCast, not_true_eq_false, not_false_eq_true, true_and, and_true, and_self, false_and, and_false, reduceIte, jcr, jcl, beq_self_eq_true, ne_eq, bne_self_eq_false, hy, Int.ofNat_lt.2 hc, hlt]
    exact .dn ⟨i, rfl, by omega, hj, fun z hz => by rw [hy] at hz; cases hz; exact hlt⟩
  ·have hc' : ¬ ((i : Int) < (t.Trips.length : Int)) := by omega
   simp (disch := omega) only [if_pos, if_neg, decide_eq_true_eq, decide_true, decide_false, Bool.not_true, Bool.not_false, Bool.false_eq_true, Bool.not_eq_true', decide_eq_false_iff_not, if_true, if_false, jaj, jan, jaw, qb, Option.map_some, Int.toNat_natCast, not_true_eq_false, not_false_eq_true, true_and, and_true, and_self, false_and, and_false, reduceIte, jcr, jcl, beq_self_eq_true, ne_eq, bne_self_eq_false, hc']
   exact .dn ⟨i, rfl, by omega, hj, fun z hz => by have := jcb hz; omega⟩
 obtain ⟨v, hv, p, rfl, hp⟩ := this
 exact ⟨p, hv, hp⟩
def putT (t : Timetable) (x : Trip) (p : Nat) : Timetable := ⟨t.Network, t.Trips.take p ++ [x] ++ t.Trips.drop p⟩
theorem ymj {t : Timetable} {x : Trip} {p : Nat} (h : p <= t.Trips.length) : (putT t x p).Trips.length = t.Trips.length + 1 := by
 simp [putT]; omega
theorem ygd {t : Timetable} (h : TB t) {x : Trip} {p : Nat} (h1 : iter (ybb t x) (0 : Int) = some (p : Int)) (hp : p <= t.Trips.length) : zq27 t x = some (putT t x p) := by
 have h2 := h.2
 unfold zq27
 rw [h1]
 simp only [qb, yec h]
 unfold zq88 insM
 rw [if_pos ⟨by omega, by omega, by simp, by simp; omega⟩]
 rfl
theorem ymo {t : Timetable} (h : TB t) {x : Trip} {p : Nat} (h1 : iter (ybb t x) (0 : Int) = some (p : Int)) (hp : p <= t.Trips.length) : zq75 t x = some (putT t x p) := by
 have h2 := h.2
 have h3 : iter (yfl t x) (0 : Int) = some (p : Int) := h1
 unfold zq75
 rw [h3]
 simp only [qb, yd7 h]
 rw [jan (by omega)]
 simp only [qb]
 rw [jan (by simp; omega)]
 simp only [qb]
 rw [jan (by simp; omega)]
 simp only [qb]
 rw [jan (by omega)]
 simp only [qb]
 rw [jan (by simp; omega)]
 simp [putT]
theorem yih {t : Timetable} (h : TB t) : zq12 t = some (if yal t then (t, true) else (⟨⟨[], []⟩, []⟩, false)) := by
 unfold zq12
 rw [ya2 h]
 by_cases hg : yal t <;> simp [hg]
theorem ya3 {t : Timetable} (h : TB t) : yfz t t = some true := by
 have h2 := h.2
 unfold yfz
 rw [yd3 _ h.1]
 simp only [qb, Bool.not_true, Bool.false_eq_true, if_false, bne_self_eq_false]
 rw [jcw (hd := Classical.propDecidable _) t.Trips (fun _ _ => True) (fun i x hx => ?_) (by unfold ybz; simp)]
 ·rw [if_pos (fun _ _ _ => trivial)]
 ·have := jcb hx
  unfold ybz
  left
  refine ⟨?_, trivial⟩
  simp only [Int.ofNat_lt.2 this, decide_true, if_true, jaw, hx, qb, beq_self_eq_true, Bool.and_self, Bool.not_true, Bool.false_eq_true, if_false, jah (n := i) (by omega)]
theorem yd6 : TB (⟨⟨[], []⟩, []⟩ : Timetable) := ⟨⟨by simp, by simp, by simp⟩, by simp⟩
def wch (x : UInt8) : Prop := (97 <= x.toNat /\ x.toNat <= 122) \/ (48 <= x.toNat /\ x.toNat <= 57)
instance (x : UInt8) : Decidable (wch x) := by unfold wch; infer_instance
def clk (n : Nat) : List UInt8 := [UInt8.ofNat (48 + n / 60 / 10), UInt8.ofNat (48 + n / 60 % 10), 58, UInt8.ofNat (48 + n % 60 / 10), UInt8.ofNat (48 + n % 60 % 10)]
theorem yp1 (n : Nat) : (clk n).length = 5 := rfl
def TmOK (t : Int) : Prop := 0 <= t /\ t <= 1799
instance (t : Int) : Decidable (TmOK t) := by unfold TmOK; infer_instance
def NmL (l : List UInt8) : Prop := (∀ x ∈ l, wch x) /\ l.length <= 8
theorem ypo {s : ByteArray} (h : yaf s) : NmL s.data.toList := by
 refine ⟨fun x hx => ?_, ?_⟩
 ·obtain ⟨i, hi⟩ := List.mem_iff_getElem?.1 hx
  have := h.2 i x hi
  unfold ChOK at this
  unfold wch
  omega
 ·have h2 := h.1.2
  rw [<- yp2] at h2
  exact h2
theorem yqm {l : List UInt8} (h : NmL l) {c : UInt8} (hc : ¬ wch c) : c ∉ l := fun hm => hc (h.1 c hm)
theorem ym8 {c : UInt8} (n : Nat) (hn : n <= 1799) (hc : c.toNat < 48) : c ∉ clk n := by
 intro h
 unfold clk at h
 simp only [List.mem_cons, List.not_mem_nil, or_false] at h
 rcases h with h | h | h | h | h
 ·have h2 := congrArg UInt8.toNat h; rw [UInt8.toNat_ofNat'] at h2; omega
 ·have h2 := congrArg UInt8.toNat h; rw [UInt8.toNat_ofNat'] at h2; omega
 ·subst h; exact absurd hc (by decide)
 ·have h2 := congrArg UInt8.toNat h; rw [UInt8.toNat_ofNat'] at h2; omega
 ·have h2 := congrArg UInt8.toNat h; rw [UInt8.toNat_ofNat'] at h2; omega
instance (x : UInt8) : Decidable (Dig x) := by unfold Dig; infer_instance
theorem ygg {α : Type} {l : List α} {i : Nat} {x : α} (h : l[(i : Int).toNat]? = some x) : l[i]? = some x := by rwa [Int.toNat_natCast] at h
theorem ym9 (x y : ByteArray) : (x.toList == y.toList) = decide (x = y) := by
 have h := yp3 x.data.toList y.data.toList
 rw [<- yas x, <- yas y] at h
 rw [h]
 congr 1
 apply propext
 constructor
 ·intro h2; rw [yas x, h2, <- yas y]
 ·intro h2; rw [h2]
def yap {α : Type} : List α -> List α -> List α
 | [], _ => []
 | a :: as', bs => a :: yap bs as'
 termination_by a b => a.length + b.length
theorem yak {α : Type} (b : List α) : yap [] b = [] := by rw [yap]
theorem yac {α : Type} (x : α) (a b : List α) : yap (x :: a) b = x :: yap b a := by rw [yap]
theorem yax {α : Type} (x : α) : ∀ (k : Nat) (a b : List α), a.length = k -> b.length = k -> yap (a ++ [x]) b = yap a b ++ [x]
 | 0, a, b, ha, hb => by
  have := List.eq_nil_of_length_eq_zero ha
  have := List.eq_nil_of_length_eq_zero hb
  subst a; subst b
  rw [List.nil_append, yac, yak]; rfl
 | k + 1, a :: a', b :: b', ha, hb => by
  have ih := yax x k a' b' (by simpa using ha) (by simpa using hb)
  rw [List.cons_append, yac, yac, ih, yac, yac]; rfl
theorem ycj {α : Type} (x : α) (a b : List α) (h : a.length = b.length + 1) : yap a (b ++ [x]) = yap a b ++ [x] := by
 cases a with
 | nil => simp at h
 | cons y a =>
  rw [yac, yac, yax x b.length b a rfl (by simp at h; omega)]; rfl
theorem yfc {α : Type} : ∀ (k : Nat) (a b : List α), a.length = b.length + 1 -> b.length = k -> (yap a b).length = a.length + b.length
 | 0, a, b, h, hk => by
  have := List.eq_nil_of_length_eq_zero hk
  subst b
  match a, h with
  | [x], _ => rw [yac, yak]; rfl
 | k + 1, x :: a, y :: b, h, hk => by
  have ih := yfc k a b (by simpa using h) (by simpa using hk)
  rw [yac, yac]
  simp only [List.length_cons, ih]; omega
theorem ybp {α : Type} : ∀ (k : Nat) (a b : List α) (x : α), a.length + b.length = k -> x ∈ yap a b -> x ∈ a \/ x ∈ b
 | k, [], b, x, _, h => by rw [yak] at h; cases h
 | 0, y :: a, b, x, hk, h => by simp at hk
 | k + 1, y :: a, b, x, hk, h => by
  rw [yac] at h
  rcases List.mem_cons.1 h with rfl | h
  ·exact .inl (by simp)
  ·rcases ybp k b a x (by simp at hk; omega) h with h | h
   ·exact .inr h
   ·exact .inl (by simp [h])
theorem ya5 {α : Type} : ∀ (k : Nat) (a b : List α) (j : Nat), a.length = b.length + 1 -> b.length = k -> (yap a b)[2 * j]? = a[j]? /\ (yap a b)[2 * j + 1]? = b[j]?
 | 0, a, b, j, h, hk => by
  have := List.eq_nil_of_length_eq_zero hk
  subst b
  match a, h with
  | [x], _ =>
   rw [yac, yak]
   cases j with
   | zero => simp
   | succ j => simp
 | k + 1, x :: a, y :: b, j, h, hk => by
  rw [yac, yac]
  cases j with
  | zero => simp
  | succ j =>
   have ih := ya5 k a b j (by simpa using h) (by simpa using hk)
   rw [show 2 * (j + 1) = 2 * j + 1 + 1 by omega]
   simp only [List.getElem?_cons_succ]
   exact ih
theorem ybo (c : UInt8) (a : List UInt8) : ∀ ws : List (List UInt8), Lib.join (a :: ws) [c] = a ++ ws.flatMap (c :: ·)
 | [] => by simp [Lib.join, List.intercalate]
 | w :: ws => by
  have ih := ybo c w ws
  have e : Lib.join (a :: w :: ws) [c] = a ++ c :: Lib.join (w :: ws) [c] := by simp [Lib.join, List.intercalate]
  rw [e, ih]; simp
theorem yh5 (c : UInt8) : ∀ ws : List (List UInt8), ws ≠ [] -> ws.flatMap (· ++ [c]) = Lib.join ws [c] ++ [c]
 | [w], _ => by simp [Lib.join, List.intercalate]
 | w :: v :: ws, _ => by
  have ih := yh5 c (v :: ws) (by simp)
  have e : Lib.join (w :: v :: ws) [c] = w ++ c :: Lib.join (v :: ws) [c] := by simp [Lib.join, List.intercalate]
  rw [List.flatMap_cons, ih, e]; simp
def yeu : List UInt8 := [115, 116, 111, 112]
def yme : List UInt8 := [108, 105, 110, 101]
def yqe : List UInt8 := [116, 114, 105, 112]
def nmS (n : Network) (s : Int) : List UInt8 := (n.Stops.getD s.toNat ByteArray.empty).data.toList
def lnW (n : Network) (l : Line) : List (List UInt8) := yme :: l.Name.data.toList :: yap (l.Stops.map (nmS n)) (l.Runs.map Lib.itoa)
def stW (s : ByteArray) : List (List UInt8) := [yeu, s.data.toList]
def trW (n : Network) (x : Trip) : List (List UInt8) := [yqe, Lib.itoa x.Id, ((n.Lines.map (·.Name)).getD x.Line.toNat ByteArray.empty).data.toList, clk x.Start.toNat]
def netW (n : Network) : List (List (List UInt8)) := n.Stops.map stW ++ n.Lines.map (lnW n)
def ttW (t : Timetable) : List (List (List UInt8)) := netW t.Network ++ t.Trips.map (trW t.Network)
def ofW (ws : List (List (List UInt8))) : List UInt8 := ws.flatMap fun w => Lib.join w [32] ++ [10]
theorem ybd (a b : List (List (List UInt8))) : ofW (a ++ b) = ofW a ++ ofW b := by unfold ofW; rw [List.flatMap_append]
theorem ypm (w : List (List UInt8)) : ofW [w] = Lib.join w [32] ++ [10] := by simp [ofW]
theorem ymk (ws : List (List (List UInt8))) (h : ws ≠ []) : ofW ws = Lib.join (ws.map fun w => Lib.join w [32]) [10] ++ [10] := by
 rw [<- yh5 10 _ (by simpa using h)]
 unfold ofW
 rw [List.flatMap_map]
def WOK (w : List UInt8) : Prop := 32 ∉ w /\ 10 ∉ w /\ w.length <= 12
theorem ya6 {s : ByteArray} (h : yaf s) : WOK s.data.toList := ⟨yqm (ypo h) (by decide), yqm (ypo h) (by decide), by have := (ypo h).2; omega⟩
theorem ya7 {n : Int} (h0 : 0 <= n) (h1 : n < 1000000) : WOK (Lib.itoa n) := by
 rw [yfb h0]
 exact ⟨ym3 (by decide) _, ym3 (by decide) _, by have := yks (n := n.toNat) (by omega); omega⟩
theorem yp0 {a : Int} (h : TmOK a) : WOK (clk a.toNat) := ⟨ym8 _ (by have := h.2; omega) (by decide), ym8 _ (by have := h.2; omega) (by decide), by rw [yp1]; omega⟩
theorem ypw {c : UInt8} (hc : c ≠ 32) : ∀ {ws : List (List UInt8)}, (∀ w ∈ ws, c ∉ w) -> c ∉ Lib.join ws [32]
 | [], _ => by simp [Lib.join, List.intercalate]
 | w :: ws, h => by
  rw [ybo]
  simp only [List.mem_append, List.mem_flatMap, List.mem_cons, not_or, not_exists, not_and]
  exact ⟨h w (by simp), fun x hx => ⟨hc, h x (by simp [hx])⟩⟩
theorem yd8 {k : Nat} : ∀ {ws : List (List UInt8)}, (∀ w ∈ ws, w.length <= k) -> (Lib.join ws [32]).length <= (k + 1) * ws.length
 | [], _ => by simp [Lib.join, List.intercalate]
 | [w], h => by
  have := h w (by simp)
  simp [Lib.join, List.intercalate]; omega
 | w :: v :: ws, h => by
  have ih := yd8 (k := k) (ws := v :: ws) (fun x hx => h x (by simp [hx]))
  have := h w (by simp)
  have e : Lib.join (w :: v :: ws) [32] = w ++ 32 :: Lib.join (v :: ws) [32] := by simp [Lib.join, List.intercalate]
  rw [e, List.length_append, List.length_cons]
  simp only [List.length_cons] at ih ⊢
  have e2 : (k + 1) * (ws.length + 1 + 1) = (k + 1) * (ws.length + 1) + (k + 1) := by rw [Nat.mul_succ]
  omega
theorem ypi {ws : List (List UInt8)} (h0 : ws ≠ []) (h : ∀ w ∈ ws, WOK w) : spl1 32 (Lib.join ws [32]) = ws := ych h0 fun w hw => (h w hw).1
theorem yla {α : Type} {l : List α} {i : Int} {x d : α} (h : l[i.toNat]? = some x) : l.getD i.toNat d = x := by rw [List.getD_eq_getElem?_getD, h]; rfl
theorem yau {n : Network} (hn : Good n) {s : Int} (h0 : 0 <= s) (h1 : s < n.Stops.length) : ∃ x, n.Stops[s.toNat]? = some x /\ nmS n s = x.data.toList /\ yaf x := by
 obtain ⟨x, hx⟩ := ja7 (l := n.Stops) (i := s.toNat) (by omega)
 exact ⟨x, hx, by unfold nmS; rw [yla hx], (hn.2.2.1 _ x hx).1⟩
theorem yph {n : Network} (hn : Good n) {s : ByteArray} (hs : s ∈ n.Stops) : ∀ w ∈ stW s, WOK w := by
 obtain ⟨i, hi⟩ := List.mem_iff_getElem?.1 hs
 have h1 := ya6 (hn.2.2.1 i s hi).1
 have h2 : WOK yeu := by unfold WOK yeu; decide
 intro w hw
 simp only [stW, List.mem_cons, List.not_mem_nil, or_false] at hw
 rcases hw with rfl | rfl
 ·exact h2
 ·exact h1
theorem yaw {n : Network} (hn : Good n) {i : Nat} {l : Line} (hl : n.Lines[i]? = some l) : yan n.Stops.length l /\ yaf l.Name := by
 refine ⟨hn.2.2.2.2 i l hl, ?_⟩
 exact (hn.2.2.2.1 i l.Name (by rw [List.getElem?_map, hl]; rfl)).1
theorem yk0 {n : Network} (hn : Good n) {i : Nat} {l : Line} (hl : n.Lines[i]? = some l) : ∀ w ∈ lnW n l, WOK w := by
 obtain ⟨hp, hname⟩ := yaw hn hl
 intro w hw
 simp only [lnW, List.mem_cons] at hw
 rcases hw with rfl | rfl | hw
 ·unfold WOK yme; decide
 ·exact ya6 hname
 ·rcases ybp _ _ _ w rfl hw with hw | hw
  ·obtain ⟨s, hs, rfl⟩ := List.mem_map.1 hw
   obtain ⟨j, hj⟩ := List.mem_iff_getElem?.1 hs
   have hr := (hp.2.2.1 j s hj).1
   obtain ⟨x, _, h2, h3⟩ := yau hn hr.1 hr.2
   rw [h2]
   exact ya6 h3
  ·obtain ⟨r, hr, rfl⟩ := List.mem_map.1 hw
   obtain ⟨j, hj⟩ := List.mem_iff_getElem?.1 hr
   have := hp.2.2.2 j r hj
   exact ya7 (by omega) (by omega)
theorem ybf {n : Network} {l : Line} (hp : yan n.Stops.length l) : (lnW n l).length = 2 * l.Stops.length + 1 /\ l.Stops.length = l.Runs.length + 1 := by
 have h2 := hp.2.1
 have h3 := hp.1.1
 have e : l.Stops.length = l.Runs.length + 1 := by omega
 unfold lnW
 rw [List.length_cons, List.length_cons, yfc l.Runs.length _ _ (by simp; omega) (by simp)]
 simp only [List.length_map]
 omega
theorem ypd {t : Timetable} (h : yal t) {i : Nat} {x : Trip} (hx : t.Trips[i]? = some x) : ∃ l, t.Network.Lines[x.Line.toNat]? = some l /\ (0 <= x.Line /\ x.Line < t.Network.Lines.length) /\ (1 <= x.Id /\ x.Id <= 999) /\ TmOK x.Start /\ (t.Network.Lines.map (·.Name)).getD x.Line.toNat ByteArray.empty = l.Name := by
 obtain ⟨hid, l, hl, hs, _⟩ := h.2.2.1 i x hx
 obtain ⟨h0, h1, h2⟩ := jgy hl
 refine ⟨l, h2, ⟨h0, h1⟩, hid, hs, ?_⟩
 exact yla (by rw [List.getElem?_map, h2]; rfl)
theorem ype {t : Timetable} (h : yal t) {i : Nat} {x : Trip} (hx : t.Trips[i]? = some x) : ∀ w ∈ trW t.Network x, WOK w := by
 obtain ⟨l, hl, hr, hid, hs, hnm⟩ := ypd h hx
 intro w hw
 simp only [trW, List.mem_cons, List.not_mem_nil, or_false] at hw
 rcases hw with rfl | rfl | rfl | rfl
 ·unfold WOK yqe; decide
 ·exact ya7 (by omega) (by omega)
 ·rw [hnm]; exact ya6 (yaw h.1 hl).2
 ·exact yp0 hs
theorem ykk {t : Timetable} (h : yal t) : ∀ ws ∈ ttW t, ws ≠ [] /\ ∀ w ∈ ws, WOK w := by
 intro ws hws
 unfold ttW netW at hws
 rcases List.mem_append.1 hws with hws | hws
 ·rcases List.mem_append.1 hws with hws | hws
  ·obtain ⟨s, hs, rfl⟩ := List.mem_map.1 hws
   exact ⟨by simp [stW], yph h.1 hs⟩
  ·obtain ⟨l, hl, rfl⟩ := List.mem_map.1 hws
   obtain ⟨i, hi⟩ := List.mem_iff_getElem?.1 hl
   exact ⟨by simp [lnW], yk0 h.1 hi⟩
 ·obtain ⟨x, hx, rfl⟩ := List.mem_map.1 hws
  obtain ⟨i, hi⟩ := List.mem_iff_getElem?.1 hx
  exact ⟨by simp [trW], ype h hi⟩
theorem yh0 {k : Nat} : ∀ {ws : List (List (List UInt8))}, (∀ w ∈ ws, (Lib.join w [32]).length <= k) -> (ofW ws).length <= (k + 1) * ws.length
 | [], _ => by simp [ofW]
 | w :: ws, h => by
  have ih := yh0 (k := k) (ws := ws) (fun x hx => h x (by simp [hx]))
  have := h w (by simp)
  have e : ofW (w :: ws) = (Lib.join w [32] ++ [10]) ++ ofW ws := rfl
  have e2 : (k + 1) * (w :: ws).length = (k + 1) * ws.length + (k + 1) := by rw [List.length_cons, Nat.mul_succ]
  rw [e, e2, List.length_append, List.length_append]
  simp only [List.length_cons, List.length_nil]
  omega
theorem ypc {t : Timetable} (h : yal t) : (ofW (ttW t)).length <= 3000 := by
 have hw := ykk h
 have e : ofW (ttW t) = ofW (t.Network.Stops.map stW) ++ ofW (t.Network.Lines.map (lnW t.Network)) ++ ofW (t.Trips.map (trW t.Network)) := by
  unfold ttW netW
  rw [ybd, ybd]
 have l1 := yh0 (k := 26) (ws := t.Network.Stops.map stW) (fun ws hws => by
  have h1 := (hw ws (by unfold ttW netW; simp only [List.mem_append]; exact .inl (.inl hws))).2
  have h2 := yd8 (k := 12) (ws := ws) (fun w hw => (h1 w hw).2.2)
  obtain ⟨s, _, rfl⟩ := List.mem_map.1 hws
  exact h2)
 have l2 := yh0 (k := 169) (ws := t.Network.Lines.map (lnW t.Network)) (fun ws hws => by
  have h1 := (hw ws (by unfold ttW netW; simp only [List.mem_append]; exact .inl (.inr hws))).2
  have h2 := yd8 (k := 12) (ws := ws) (fun w hw => (h1 w hw).2.2)
  obtain ⟨l, hl, rfl⟩ := List.mem_map.1 hws
  obtain ⟨i, hi⟩ := List.mem_iff_getElem?.1 hl
  have hp := (yaw h.1 hi).1
  have := (ybf hp).1
  have := hp.1.2
  omega)
 have l3 := yh0 (k := 52) (ws := t.Trips.map (trW t.Network)) (fun ws hws => by
  have h1 := (hw ws (by unfold ttW; simp only [List.mem_append]; exact .inr hws)).2
  have h2 := yd8 (k := 12) (ws := ws) (fun w hw => (h1 w hw).2.2)
  obtain ⟨s, _, rfl⟩ := List.mem_map.1 hws
  exact h2)
 have b1 := h.1.1.2
 have b2 := h.1.2.1.2
 have b3 := h.2.1
 simp only [List.length_map] at l1 l2 l3
 rw [e, List.length_append, List.length_append]
 omega
theorem ymc (l s : List UInt8) (h : l.length + s.length <= 4294967296) : yf3 l (str s) = some ((s.length : Int), .mk, l ++ s) := by
 unfold yf3 jco
 rw [if_pos (by rw [yah]; exact h), yah, yex]
theorem yqv (l : List UInt8) (c : UInt8) (h : l.length + 1 <= 4294967296) : yo0 l c = some (.mk, l ++ [c]) := by
 unfold yo0 jdm
 rw [if_pos h]
theorem yea {α : Type} : ∀ (k : Nat) (a b : List α), a.length + b.length = k -> (yap a b).length <= k
 | k, [], b, h => by rw [yak]; simp
 | 0, x :: a, b, h => by simp at h
 | k + 1, x :: a, b, h => by
  have ih := yea k b a (by simp at h; omega)
  rw [yac]
  simp only [List.length_cons]; omega
theorem ycl {k : Nat} : ∀ {ws : List (List UInt8)}, (∀ w ∈ ws, w.length <= k) -> (ws.flatMap (32 :: ·)).length <= (k + 1) * ws.length
 | [], _ => by simp
 | w :: ws, h => by
  have ih := ycl (k := k) (ws := ws) (fun x hx => h x (by simp [hx]))
  have := h w (by simp)
  have e2 : (k + 1) * (w :: ws).length = (k + 1) * ws.length + (k + 1) := by rw [List.length_cons, Nat.mul_succ]
  rw [e2, List.flatMap_cons, List.length_append, List.length_cons]
  omega
theorem yb3 {α : Type} (f : α -> List (List UInt8)) (l : List α) (i : Nat) : (ofW ((l.take i).map f)).length <= (ofW (l.map f)).length := by
 have e : l.map f = (l.take i).map f ++ (l.drop i).map f := by rw [<- List.map_append, List.take_append_drop]
 rw [e, ybd, List.length_append]
 omega
theorem yb4 {α : Type} (f : α -> List (List UInt8)) {l : List α} {i : Nat} {x : α} (h : l[i]? = some x) : ofW ((l.take (i + 1)).map f) = ofW ((l.take i).map f) ++ (Lib.join (f x) [32] ++ [10]) := by
 rw [ja1 h, List.map_append, ybd, List.map_cons, List.map_nil, ypm]
theorem yqr {n : Network} (h : Good n) : yal ⟨n, []⟩ := ⟨h, by simp, fun i x hx => by simp at hx, fun i a b hx => by simp at hx⟩
theorem ygf {n : Network} (h : Good n) : (ofW (n.Stops.map stW)).length + (ofW (n.Lines.map (lnW n))).length <= 3000 := by
 have := ypc (yqr h)
 unfold ttW netW at this
 simp only [List.map_nil, List.append_nil] at this
 rw [ybd, List.length_append] at this
 exact this
theorem yhv (s : ByteArray) : Lib.join (stW s) [32] ++ [10] = [115, 116, 111, 112, 32] ++ s.data.toList ++ [10] := by
 unfold stW
 rw [ybo]
 simp [yeu]
theorem yq3 {n : Network} (hn : Good n) : Tot (iter (ydt n) ((0 : Int), ([] : List UInt8))) fun r => r = ofW (n.Stops.map stW) := by
 have hb := ygf hn
 refine Tot.iter (fun k (s : Int × List UInt8) => ∃ i : Nat, k + i = n.Stops.length /\ s = ((i : Int), ofW ((n.Stops.take i).map stW))) (n := n.Stops.length) ⟨0, by omega, rfl⟩ ?_
 rintro k _ ⟨i, hk, rfl⟩
 have hl := yb3 stW n.Stops i
 have h8 := hn.1.2
 unfold ydt
 dsimp only
 refine .iteP (fun hlt => .idx (by omega) hlt fun e he => ?_) (fun hge => .dn (by rw [show i = n.Stops.length by omega, List.take_length]))
 have he := ygg he
 have hnm := (hn.2.2.1 i e he).1
 have hsz := hnm.1.2
 have hsz2 : e.data.toList.length <= 8 := hsz
 obtain ⟨s, rfl⟩ : ∃ s, e = str s := ⟨e.data.toList, yas e⟩
 rw [yex] at hsz2
 refine .chk (by rw [yah, yah]; simp only [List.length_append, List.length_cons, List.length_nil]; omega) (.chk (by rw [yag, yah, yah]; simp only [List.length_append, List.length_cons, List.length_nil]; omega) ?_)
 rw [yag, yag, ymc _ _ (by simp only [List.length_append, List.length_cons, List.length_nil]; omega)]
 refine .nx ⟨k - 1, by omega, i + 1, by omega, ?_⟩
 rw [jah (by omega), yb4 stW he, yhv, yex]
def Tj (n : Network) (l : Line) (j : Nat) : List (List UInt8) := yap ((l.Stops.map (nmS n)).take j) ((l.Runs.map Lib.itoa).take (j - 1))
theorem ykm (n : Network) (l : Line) (j : Nat) : (Tj n l j).length <= 2 * j := by
 have := yea _ ((l.Stops.map (nmS n)).take j) ((l.Runs.map Lib.itoa).take (j - 1)) rfl
 simp only [List.length_take, List.length_map] at this
 unfold Tj
 omega
theorem ykl {n : Network} (hn : Good n) {k : Nat} {l : Line} (hl : n.Lines[k]? = some l) (j : Nat) : ∀ w ∈ Tj n l j, w.length <= 12 := by
 intro w hw
 have hW := yk0 hn hl
 obtain ⟨hp, _⟩ := yaw hn hl
 rcases ybp _ _ _ w rfl hw with h | h
 ·have h := List.mem_of_mem_take h
  obtain ⟨s, hs, rfl⟩ := List.mem_map.1 h
  obtain ⟨q, hq⟩ := List.mem_iff_getElem?.1 hs
  have hr := (hp.2.2.1 q s hq).1
  obtain ⟨x, _, h2, h3⟩ := yau hn hr.1 hr.2
  rw [h2]
  exact (ya6 h3).2.2
 ·have h := List.mem_of_mem_take h
  obtain ⟨r, hr, rfl⟩ := List.mem_map.1 h
  obtain ⟨q, hq⟩ := List.mem_iff_getElem?.1 hr
  have := hp.2.2.2 q r hq
  exact (ya7 (by omega) (by omega)).2.2
theorem tj_0 {n : Network} {l : Line} {s : Int} (hs : l.Stops[0]? = some s) : Tj n l 1 = [nmS n s] := by
 unfold Tj
 have : (l.Stops.map (nmS n)).take 1 = [nmS n s] := by
  rw [ja1 (x := nmS n s) (by rw [List.getElem?_map, hs]; rfl)]; simp
 rw [this, show (1 : Nat) - 1 = 0 from rfl, List.take_zero, yac, yak]
theorem tj_s {n : Network} {l : Line} {j : Nat} {s r : Int} (hlen : l.Stops.length = l.Runs.length + 1) (hs : l.Stops[j + 1]? = some s) (hr : l.Runs[j]? = some r) : Tj n l (j + 2) = Tj n l (j + 1) ++ [Lib.itoa r] ++ [nmS n s] := by
 unfold Tj
 have hj := jcb hs
 have hj2 := jcb hr
 have e1 : (l.Stops.map (nmS n)).take (j + 2) = (l.Stops.map (nmS n)).take (j + 1) ++ [nmS n s] := ja1 (by rw [List.getElem?_map, hs]; rfl)
 have e2 : (l.Runs.map Lib.itoa).take (j + 1) = (l.Runs.map Lib.itoa).take j ++ [Lib.itoa r] := ja1 (by rw [List.getElem?_map, hr]; rfl)
 rw [show j + 2 - 1 = j + 1 by omega, show j + 1 - 1 = j by omega, e1, yax (nmS n s) (j + 1) _ _ (by simp; omega) (by simp; omega), e2, ycj _ _ _ (by simp; omega)]
theorem yq2 {n : Network} (hn : Good n) {k : Nat} {l : Line} (hl : n.Lines[k]? = some l) (B : List UInt8) (hB : B.length <= 10000) : Tot (iter (yds n l) ((0 : Int), B)) fun r => r = B ++ (yap (l.Stops.map (nmS n)) (l.Runs.map Lib.itoa)).flatMap (32 :: ·) := by
 obtain ⟨hp, _⟩ := yaw hn hl
 have hlen := (ybf hp).2
 have h6 := hp.1.2
 refine Tot.iter (fun q (s : Int × List UInt8) => ∃ i : Nat, q + i = l.Stops.length /\ s = ((i : Int), B ++ (Tj n l i).flatMap (32 :: ·))) (n := l.Stops.length) ⟨0, by omega, by simp [Tj, yak]⟩ ?_
 rintro q _ ⟨i, hq, rfl⟩
 have hfl := ycl (k := 12) (ykl hn hl i)
 have htl := ykm n l i
 unfold yds
 dsimp only
 refine .iteP (fun hlt => .idx (by omega) hlt fun e2 he2 => ?_) (fun hge => .dn ?_)
 ·have he2 := ygg he2
  have hr2 := (hp.2.2.1 i e2 he2).1
  obtain ⟨x, hx, hnm, hxn⟩ := yau hn hr2.1 hr2.2
  have hxl : x.data.toList.length <= 8 := hxn.1.2
  have hix : idx n.Stops e2 = some x := by
   have := ixs hx
   rwa [show ((e2.toNat : Nat) : Int) = e2 by omega] at this
  have key : ∀ (T : List UInt8), T.length <= 20000 -> Tot ((idx n.Stops e2).bind fun e4 =>
    (chk ((str [32]).size + e4.size <= 4294967296)).bind fun u4 =>
    (yf3 T ((str [32]) ++ e4)).bind fun r4 =>
    some (Lp.nx ((w64 ((i : Int) + 1)), r4.2.2) : Lp (Int × List UInt8) (List UInt8))) fun r => r = .nx (((i + 1 : Nat) : Int), T ++ 32 :: nmS n e2) := by
   intro T hT
   obtain ⟨s, rfl⟩ : ∃ s, x = str s := ⟨x.data.toList, yas x⟩
   rw [yex] at hxl hnm
   refine .eq hix (.chk (by rw [yah, yah]; simp only [List.length_append, List.length_cons, List.length_nil]; omega) ?_)
   rw [yag, ymc _ _ (by simp only [List.length_append, List.length_cons, List.length_nil]; omega), jah (by omega), hnm]
   exact .ok rfl
  have nxt : ∀ T, T = B ++ (Tj n l (i + 1)).flatMap (32 :: ·) -> ∀ r, r = (Lp.nx (((i + 1 : Nat) : Int), T) : Lp (Int × List UInt8) (List UInt8)) -> (∀ a', r = .nx a' -> ∃ k', k' < q /\ ∃ j : Nat, k' + j = l.Stops.length /\ a' = ((j : Int), B ++ (Tj n l j).flatMap (32 :: ·))) /\ ∀ b, r = .dn b -> b = B ++ (yap (l.Stops.map (nmS n)) (l.Runs.map Lib.itoa)).flatMap (32 :: ·) := by
   intro T hT r hr
   subst hr
   exact ⟨fun a' e => by cases e; exact ⟨q - 1, by omega, i + 1, by omega, by rw [hT]⟩, fun b e => by cases e⟩
  by_cases h0 : i = 0
  ·subst h0
   have hz : Tj n l 0 = [] := by simp [Tj, yak]
   rw [if_neg (by simp), qb]
   refine (key _ (by rw [hz]; simp; omega)).mono (nxt _ ?_)
   rw [hz, tj_0 he2]
   simp
  ·obtain ⟨j, rfl⟩ : ∃ j, i = j + 1 := ⟨i - 1, by omega⟩
   obtain ⟨r, hr⟩ := ja7 (l := l.Runs) (i := j) (by omega)
   have hrr := hp.2.2.2 j r hr
   have hil := (ya7 (n := r) (by omega) (by omega)).2.2
   have ew : w64 (((j + 1 : Nat) : Int) - 1) = (j : Int) := jjj (by omega)
   rw [if_pos (by simp only [decide_eq_true_eq]; omega), ew, ixs hr, qb, yq1 (by omega) (by omega), qb, jan (by rw [yah, yah]; simp only [List.length_append, List.length_cons, List.length_nil]; omega), qb, yag, ymc _ _ (by simp only [List.length_append, List.length_cons, List.length_nil]; omega), qb, qb]
   refine (key _ (by simp only [List.length_append, List.length_cons, List.length_nil]; omega)).mono (nxt _ ?_)
   rw [tj_s hlen he2 hr]
   simp
 ·have : i = l.Stops.length := by omega
  subst this
  unfold Tj
  rw [List.take_of_length_le (by simp), List.take_of_length_le (by simp; omega)]
theorem yh1 (n : Network) (l : Line) : Lib.join (lnW n l) [32] ++ [10] = [108, 105, 110, 101, 32] ++ l.Name.data.toList ++ (yap (l.Stops.map (nmS n)) (l.Runs.map Lib.itoa)).flatMap (32 :: ·) ++ [10] := by
 unfold lnW
 rw [ybo, List.flatMap_cons]
 simp [yme]
theorem ylb {n : Network} (hn : Good n) : zq18 n = some (str (ofW (netW n))) := by
 have hb := ygf hn
 have h5 := hn.2.1.2
 unfold zq18
 refine Tot.val (.call (yq3 hn) fun v2 h2 => .call (P := fun r => r = ofW (netW n)) ?_ fun r hr => ?_)
 ·subst h2
  refine Tot.iter (fun k (s : Int × List UInt8) => ∃ i : Nat, k + i = n.Lines.length /\ s = ((i : Int), ofW (n.Stops.map stW) ++ ofW ((n.Lines.take i).map (lnW n)))) (n := n.Lines.length) ⟨0, by omega, by simp [ofW]⟩ ?_
  rintro k _ ⟨i, hk, rfl⟩
  have hl := yb3 (lnW n) n.Lines i
  unfold yfx
  dsimp only
  refine .iteP (fun hlt => .idx (by omega) hlt fun e he => ?_) (fun hge => .dn (by rw [show i = n.Lines.length by omega, List.take_length]; unfold netW; rw [ybd]))
  have he := ygg he
  obtain ⟨hp, hname⟩ := yaw hn he
  have hnl : e.Name.data.toList.length <= 8 := hname.1.2
  have hen : e.Name = str e.Name.data.toList := yas _
  rw [hen, yah, yah, jan (by simp only [List.length_append, List.length_cons, List.length_nil]; omega), qb, yag, ymc _ _ (by simp only [List.length_append, List.length_cons, List.length_nil]; omega), qb]
  refine .call (yq2 hn he _ (by simp only [List.length_append, List.length_cons, List.length_nil]; omega)) fun v8 h8 => ?_
  have hfl := ycl (k := 12) (ykl hn he e.Stops.length)
  have htl := ykm n e e.Stops.length
  have h6 := hp.1.2
  have hlen := (ybf hp).2
  have hTj : Tj n e e.Stops.length = yap (e.Stops.map (nmS n)) (e.Runs.map Lib.itoa) := by
   unfold Tj
   rw [List.take_of_length_le (by simp), List.take_of_length_le (by simp; omega)]
  rw [hTj] at hfl htl
  have h10 : mkU8 10 = 10 := by decide
  subst h8
  rw [h10, yqv _ _ (by simp only [List.length_append, List.length_cons, List.length_nil]; omega), qb]
  refine .nx ⟨k - 1, by omega, i + 1, by omega, ?_⟩
  rw [jah (by omega), yb4 (lnW n) he, yh1]
  simp
 ·subst hr
  exact .ok rfl
theorem ypz {x : Int} (h : 0 <= x) (k : Nat) : x.fdiv (2 ^ k) = x / (2 ^ k : Nat) := by
 rw [Int.fdiv_eq_ediv_of_nonneg _ (by exact_mod_cast Nat.zero_le (2 ^ k))]
 simp
theorem yhy {x y : Int} {v k : Nat} (h : y * (2 ^ v : Nat) <= x) (hy : 0 <= y) : y / (2 ^ k : Nat) * (2 ^ (v + k) : Nat) <= x := by
 have h1 : y / (2 ^ k : Nat) * (2 ^ k : Nat) <= y := Int.ediv_mul_le _ (by have := Nat.two_pow_pos k; omega)
 have h2 : y / (2 ^ k : Nat) * (2 ^ k : Nat) * (2 ^ v : Nat) <= y * (2 ^ v : Nat) := Int.mul_le_mul_of_nonneg_right h1 (Int.natCast_nonneg _)
 rw [Nat.add_comm, Nat.pow_add, Int.natCast_mul, <- Int.mul_assoc]
 omega
theorem ymn (x : IK .u64) (h0 : 0 <= x.v) (h1 : x.v < 8589934592) : Tot (zq31 x) fun r => 0 <= r /\ r <= 64 /\ (1 <= x.v -> ((2 ^ r.toNat : Nat) : Int) <= 2 * x.v) := by
 unfold zq31
 refine Tot.call (P := fun (r : Int × Int) => 0 <= r.1 /\ r.1 < 4294967296 /\ (1 <= x.v -> 1 <= r.1) /\ 0 <= r.2 /\ r.2 <= 32 /\ r.1 * (2 ^ r.2.toNat : Nat) <= x.v) (.iteP (fun hc => Tot.chk (by decide) (.ok ?_)) (fun hc => .ok ⟨h0, by dsimp only; omega, fun h => h, Int.le_refl _, by dsimp only; omega, by simp⟩)) fun ⟨x1, v⟩ ⟨p1, p2, p3, p4, p5, p6⟩ => ?_
 ·have e : ((2 ^ 32 : Nat) : Int) = 4294967296 := by decide
  have e2 : x.v.fdiv (2 ^ (min (32 : Int).toNat (IntKind.u64).bits)) = x.v / (2 ^ 32 : Nat) := ypz h0 32
  simp only [e2]
  exact ⟨by omega, by omega, fun _ => by omega, by omega, by omega, Int.ediv_mul_le _ (by decide)⟩
 dsimp only at p1 p2 p3 p4 p5 p6 ⊢
 refine Tot.call (P := fun (r : Int × Int) => 0 <= r.1 /\ r.1 < 65536 /\ (1 <= x.v -> 1 <= r.1) /\ 0 <= r.2 /\ r.2 <= 48 /\ r.1 * (2 ^ r.2.toNat : Nat) <= x.v) (.iteP (fun hc => Tot.chk (by decide) (.ok ?_)) (fun hc => .ok ⟨p1, by dsimp only; omega, p3, p4, by dsimp only; omega, p6⟩)) fun ⟨x2, v1⟩ ⟨q1, q2, q3, q4, q5, q6⟩ => ?_
 ·have e : ((2 ^ 16 : Nat) : Int) = 65536 := by decide
  have e2 : x1.fdiv (2 ^ (min (16 : Int).toNat (IntKind.u64).bits)) = x1 / (2 ^ 16 : Nat) := ypz p1 16
  have e3 : w64 (v + 16) = v + 16 := jaj (by omega)
  have e4 : (v + 16).toNat = v.toNat + 16 := by omega
  simp only [e2, e3, e4]
  exact ⟨by omega, by omega, fun _ => by omega, by omega, by omega, yhy p6 p1⟩
 dsimp only at q1 q2 q3 q4 q5 q6 ⊢
 refine Tot.call (P := fun (r : Int × Int) => 0 <= r.1 /\ r.1 < 256 /\ (1 <= x.v -> 1 <= r.1) /\ 0 <= r.2 /\ r.2 <= 56 /\ r.1 * (2 ^ r.2.toNat : Nat) <= x.v) (.iteP (fun hc => Tot.chk (by decide) (.ok ?_)) (fun hc => .ok ⟨q1, by dsimp only; omega, q3, q4, by dsimp only; omega, q6⟩)) fun ⟨x3, v2⟩ ⟨r1, r2, r3, r4, r5, r6⟩ => ?_
 ·have e : ((2 ^ 8 : Nat) : Int) = 256 := by decide
  have e2 : x2.fdiv (2 ^ (min (8 : Int).toNat (IntKind.u64).bits)) = x2 / (2 ^ 8 : Nat) := ypz q1 8
  have e3 : w64 (v1 + 8) = v1 + 8 := jaj (by omega)
  have e4 : (v1 + 8).toNat = v1.toNat + 8 := by omega
  simp only [e2, e3, e4]
  exact ⟨by omega, by omega, fun _ => by omega, by omega, by omega, yhy q6 q1⟩
 dsimp only at r1 r2 r3 r4 r5 r6 ⊢
 have e8 : IntKind.u8.wrap x3 = x3 := Int.emod_eq_of_lt r1 r2
 rw [e8]
 generalize hs : str _ = S
 have hS : (Nat.beq S.size 256 && (List.range 256).all fun i => Nat.ble (S.data.toList.getD i 0).toNat 8 && (Nat.beq i 0 || Nat.ble (2 ^ (S.data.toList.getD i 0).toNat) (2 * i))) = true := by
  rw [<- hs]; kernel_rfl
 clear hs
 simp only [Bool.and_eq_true, List.all_eq_true, List.mem_range, Bool.or_eq_true] at hS
 obtain ⟨s1, s2⟩ := hS
 have s1 := Nat.eq_of_beq_eq_true s1
 obtain ⟨n, rfl⟩ : ∃ n : Nat, x3 = n := ⟨x3.toNat, by omega⟩
 have s2 := s2 n (by omega)
 have t1 := Nat.le_of_ble_eq_true s2.1
 refine Tot.chk (by omega) (.ok ?_)
 rw [Int.toNat_natCast]
 revert t1 s2
 generalize (S.data.toList.getD n 0).toNat = t
 intro s2 t1
 rw [jaj (x := (t : Int)) (by omega), jaj (by omega)]
 refine ⟨by omega, by omega, fun hx => ?_⟩
 have e1 : (v2 + (t : Int)).toNat = v2.toNat + t := by omega
 rw [e1, Nat.pow_add, Int.natCast_mul]
 have hn := r3 hx
 have t2 : 2 ^ t <= 2 * n := by
  rcases s2.2 with h | h
  ·have := Nat.eq_of_beq_eq_true h; omega
  ·exact Nat.le_of_ble_eq_true h
 have t3 : ((2 ^ v2.toNat : Nat) : Int) * (2 ^ t : Nat) <= (2 ^ v2.toNat : Nat) * (2 * n : Nat) := Int.mul_le_mul_of_nonneg_left (by exact_mod_cast t2) (by exact_mod_cast Nat.zero_le _)
 have t4 : ((2 ^ v2.toNat : Nat) : Int) * ((2 * n : Nat) : Int) = 2 * ((n : Int) * (2 ^ v2.toNat : Nat)) := by
  rw [Int.natCast_mul, Int.mul_comm ((2 ^ v2.toNat : Nat) : Int), Int.mul_assoc]; rfl
 omega
theorem ym4 (x : IK .u64) (h0 : 0 <= x.v) (h1 : x.v < 8589934592) : Tot (zq30 x) fun r => 0 <= r /\ r <= 64 /\ (1 <= x.v -> ((2 ^ r.toNat : Nat) : Int) <= 2 * x.v) := by
 unfold zq30
 exact Tot.call (ymn x h0 h1) fun r hr => .ok hr
theorem yd4 {n : Int} (h0 : 0 <= n) (h1 : n < 18446744073709551616) : IntKind.u64.wrap n = n := by
 show n % 18446744073709551616 = n
 exact Int.emod_eq_of_lt h0 h1
theorem hlp : Pdq.Hlp yd1 ydy := by
 refine ⟨fun n h1 h2 => ?_, fun x => ?_⟩
 ·unfold yd1
  rw [yd4 (by omega) (by omega)]
  refine Tot.call (ym4 ⟨n⟩ (by dsimp only; omega) (by dsimp only; omega)) fun r ⟨r1, r2, r3⟩ => Tot.chk r1 (.ok ?_)
  have r3 := r3 (by dsimp only; omega)
  dsimp only at r3 ⊢
  have e : min r.toNat (IntKind.u64).bits = r.toNat := Nat.min_eq_left (by show r.toNat <= 64; omega)
  have e2 : (1 : Int) * 2 ^ r.toNat = ((2 ^ r.toNat : Nat) : Int) := by rw [Int.one_mul]; norm_cast
  rw [e, e2]
  have := Nat.two_pow_pos r.toNat
  rw [yd4 (by omega) (by omega)]
  omega
 ·unfold ydy
  exact Tot.chk (by decide) (Tot.chk (by decide) (Tot.chk (by decide) (.ok trivial)))
def Sj (n : Network) (l : Line) (j : Nat) : List (List UInt8) := yap ((l.Stops.map (nmS n)).take j) ((l.Runs.map Lib.itoa).take j)
theorem yqk (n : Network) (l : Line) (j : Nat) : (Sj n l j).length <= 2 * j := by
 have := yea _ ((l.Stops.map (nmS n)).take j) ((l.Runs.map Lib.itoa).take j) rfl
 simp only [List.length_take, List.length_map] at this
 unfold Sj
 omega
theorem yqj {n : Network} (hn : Good n) {k : Nat} {l : Line} (hl : n.Lines[k]? = some l) (j : Nat) : ∀ w ∈ Sj n l j, w.length <= 12 := by
 intro w hw
 obtain ⟨hp, _⟩ := yaw hn hl
 rcases ybp _ _ _ w rfl hw with h | h
 ·have h := List.mem_of_mem_take h
  obtain ⟨s, hs, rfl⟩ := List.mem_map.1 h
  obtain ⟨q, hq⟩ := List.mem_iff_getElem?.1 hs
  have hr := (hp.2.2.1 q s hq).1
  obtain ⟨x, _, h2, h3⟩ := yau hn hr.1 hr.2
  rw [h2]
  exact (ya6 h3).2.2
 ·have h := List.mem_of_mem_take h
  obtain ⟨r, hr, rfl⟩ := List.mem_map.1 h
  obtain ⟨q, hq⟩ := List.mem_iff_getElem?.1 hr
  have := hp.2.2.2 q r hq
  exact (ya7 (by omega) (by omega)).2.2
theorem sj_s {n : Network} {l : Line} {j : Nat} {s r : Int} (hlen : l.Stops.length = l.Runs.length + 1) (hs : l.Stops[j]? = some s) (hr : l.Runs[j]? = some r) : Sj n l (j + 1) = Sj n l j ++ [nmS n s] ++ [Lib.itoa r] := by
 unfold Sj
 have hj := jcb hs
 have hj2 := jcb hr
 have e1 : (l.Stops.map (nmS n)).take (j + 1) = (l.Stops.map (nmS n)).take j ++ [nmS n s] := ja1 (by rw [List.getElem?_map, hs]; rfl)
 have e2 : (l.Runs.map Lib.itoa).take (j + 1) = (l.Runs.map Lib.itoa).take j ++ [Lib.itoa r] := ja1 (by rw [List.getElem?_map, hr]; rfl)
 rw [e1, e2, ycj _ _ _ (by simp; omega), yax (nmS n s) j _ _ (by simp; omega) (by simp; omega)]
theorem sj_z {n : Network} {l : Line} {j : Nat} {s : Int} (hs : l.Stops[j]? = some s) (hr : l.Runs.length = j) : Sj n l (j + 1) = Sj n l j ++ [nmS n s] := by
 unfold Sj
 have hj := jcb hs
 have e1 : (l.Stops.map (nmS n)).take (j + 1) = (l.Stops.map (nmS n)).take j ++ [nmS n s] := ja1 (by rw [List.getElem?_map, hs]; rfl)
 have e2 : (l.Runs.map Lib.itoa).take (j + 1) = (l.Runs.map Lib.itoa).take j := by rw [List.take_of_length_le (by simp; omega), List.take_of_length_le (by simp; omega)]
 rw [e1, e2, yax (nmS n s) j _ _ (by simp; omega) (by simp; omega)]
theorem yqy {n : Network} (hn : Good n) {k : Nat} {l : Line} (hl : n.Lines[k]? = some l) (B : List UInt8) (hB : B.length <= 10000) : Tot (iter (yc6 n l) (str B, (0 : Int))) fun r => r = str (B ++ (yap (l.Stops.map (nmS n)) (l.Runs.map Lib.itoa)).flatMap (32 :: ·)) := by
 obtain ⟨hp, _⟩ := yaw hn hl
 have hlen := (ybf hp).2
 have h6 := hp.1.2
 refine Tot.iter (fun q (s : ByteArray × Int) => ∃ i : Nat, q + i = l.Stops.length /\ s = (str (B ++ (Sj n l i).flatMap (32 :: ·)), (i : Int))) (n := l.Stops.length) ⟨0, by omega, by simp [Sj, yak]⟩ ?_
 rintro q _ ⟨i, hq, rfl⟩
 have hfl := ycl (k := 12) (yqj hn hl i)
 have htl := yqk n l i
 unfold yc6
 dsimp only
 refine .iteP (fun hlt => ?_) (fun hge => .dn ?_)
 ·obtain ⟨e4, he4⟩ := ja7 (l := l.Stops) (i := i) (by omega)
  have hr2 := (hp.2.2.1 i e4 he4).1
  obtain ⟨x, hx, hnm, hxn⟩ := yau hn hr2.1 hr2.2
  have hxl : x.data.toList.length <= 8 := hxn.1.2
  have hix : idx n.Stops e4 = some x := by
   have := ixs hx
   rwa [show ((e4.toNat : Nat) : Int) = e4 by omega] at this
  obtain ⟨s, rfl⟩ : ∃ s, x = str s := ⟨x.data.toList, yas x⟩
  rw [yex] at hxl hnm
  rw [jan (by rw [yah, yah]; simp only [List.length_append, List.length_cons, List.length_nil]; omega), qb, ixs he4, qb, hix, qb, yag, jan (by rw [yah, yah]; simp only [List.length_append, List.length_cons, List.length_nil]; omega), qb, yag]
  by_cases hR : i < l.Runs.length
  ·obtain ⟨r, hr⟩ := ja7 (l := l.Runs) (i := i) hR
   have hrr := hp.2.2.2 i r hr
   have hil := (ya7 (n := r) (by omega) (by omega)).2.2
   rw [if_pos (by simp only [decide_eq_true_eq]; omega), jan (by rw [yah, yah]; simp only [List.length_append, List.length_cons, List.length_nil]; omega), qb, ixs hr, qb, yq0 (by omega) (by omega), qb, yag, jan (by rw [yah, yah]; simp only [List.length_append, List.length_cons, List.length_nil]; omega), qb, yag, qb]
   refine .nx ⟨q - 1, by omega, i + 1, by omega, ?_⟩
   rw [jah (by omega), sj_s hlen he4 hr, hnm]
   simp
  ·rw [if_neg (by simp only [decide_eq_true_eq]; omega), qb]
   refine .nx ⟨q - 1, by omega, i + 1, by omega, ?_⟩
   rw [jah (by omega), sj_z he4 (by omega), hnm]
   simp
 ·have : i = l.Stops.length := by omega
  subst this
  unfold Sj
  rw [List.take_of_length_le (by simp), List.take_of_length_le (by simp; omega)]
theorem ykp {n : Network} (hn : Good n) : zq78 n = some (str (ofW (netW n))) := by
 have hb := ygf hn
 have h5 := hn.2.1.2
 have h8 := hn.1.2
 unfold zq78
 refine Tot.val (.call (P := fun r => r = str (ofW (n.Stops.map stW))) ?_ fun v2 h2 => .call (P := fun r => r = str (ofW (netW n))) ?_ fun r hr => ?_)
 ·refine Tot.iter (fun k (s : ByteArray × Int) => ∃ i : Nat, k + i = n.Stops.length /\ s = (str (ofW ((n.Stops.take i).map stW)), (i : Int))) (n := n.Stops.length) ⟨0, by omega, by simp [ofW]⟩ ?_
  rintro k _ ⟨i, hk, rfl⟩
  have hl := yb3 stW n.Stops i
  unfold yfk
  dsimp only
  refine .iteP (fun hlt => ?_) (fun hge => .dn (by rw [show i = n.Stops.length by omega, List.take_length]))
  obtain ⟨e, he⟩ := ja7 (l := n.Stops) (i := i) (by omega)
  have hnm := (hn.2.2.1 i e he).1
  have hsz : e.data.toList.length <= 8 := hnm.1.2
  obtain ⟨s, rfl⟩ : ∃ s, e = str s := ⟨e.data.toList, yas e⟩
  rw [yex] at hsz
  rw [jan (by rw [yah, yah]; simp only [List.length_append, List.length_cons, List.length_nil]; omega), qb, ixs he, qb, yag, jan (by rw [yah, yah]; simp only [List.length_append, List.length_cons, List.length_nil]; omega), qb, yag, jan (by rw [yah, yah]; simp only [List.length_append, List.length_cons, List.length_nil]; omega), qb, yag]
  refine .nx ⟨k - 1, by omega, i + 1, by omega, ?_⟩
  rw [jah (by omega), yb4 stW he, yhv, yex]
  simp
 ·subst h2
  refine Tot.iter (fun k (s : ByteArray × Int) => ∃ i : Nat, k + i = n.Lines.length /\ s = (str (ofW (n.Stops.map stW) ++ ofW ((n.Lines.take i).map (lnW n))), (i : Int))) (n := n.Lines.length) ⟨0, by omega, by simp [ofW]⟩ ?_
  rintro k _ ⟨i, hk, rfl⟩
  have hl := yb3 (lnW n) n.Lines i
  unfold yfj
  dsimp only
  refine .iteP (fun hlt => ?_) (fun hge => .dn (by rw [show i = n.Lines.length by omega, List.take_length]; unfold netW; rw [ybd]))
  obtain ⟨e, he⟩ := ja7 (l := n.Lines) (i := i) (by omega)
  obtain ⟨hp, hname⟩ := yaw hn he
  have hnl : e.Name.data.toList.length <= 8 := hname.1.2
  have hen : e.Name = str e.Name.data.toList := yas _
  rw [ixs he, qb, hen, jan (by rw [yah, yah]; simp only [List.length_append, List.length_cons, List.length_nil]; omega), qb, yag, jan (by rw [yah, yah]; simp only [List.length_append, List.length_cons, List.length_nil]; omega), qb, yag]
  refine .call (yqy hn he _ (by simp only [List.length_append, List.length_cons, List.length_nil]; omega)) fun v8 h8 => ?_
  have hfl := ycl (k := 12) (ykl hn he e.Stops.length)
  have htl := ykm n e e.Stops.length
  have h6 := hp.1.2
  have hlen := (ybf hp).2
  have hTj : Tj n e e.Stops.length = yap (e.Stops.map (nmS n)) (e.Runs.map Lib.itoa) := by
   unfold Tj
   rw [List.take_of_length_le (by simp), List.take_of_length_le (by simp; omega)]
  rw [hTj] at hfl htl
  subst h8
  rw [jan (by rw [yah, yah]; simp only [List.length_append, List.length_cons, List.length_nil]; omega), qb, yag]
  refine .nx ⟨k - 1, by omega, i + 1, by omega, ?_⟩
  rw [jah (by omega), yb4 (lnW n) he, yh1]
  simp
 ·subst hr
  exact .ok rfl
theorem yay {α β : Type} {f : α -> β} : ∀ {l l' : List α}, (∀ x ∈ l, ∀ y ∈ l', f x = f y -> x = y) -> l.map f = l'.map f -> l = l'
 | [], [], _, _ => rfl
 | [], y :: l', _, h => by simp at h
 | x :: l, [], _, h => by simp at h
 | x :: l, y :: l', hi, h => by
  simp only [List.map_cons, List.cons.injEq] at h
  rw [hi x (by simp) y (by simp) h.1, yay (fun a ha b hb => hi a (by simp [ha]) b (by simp [hb])) h.2]
theorem yk9 {α : Type} {a b a' b' : List α} (h1 : a.length = b.length + 1) (h2 : a'.length = b'.length + 1) (h : yap a b = yap a' b') : a = a' /\ b = b' :=
 ⟨List.ext_getElem? fun j => by rw [<- (ya5 _ a b j h1 rfl).1, <- (ya5 _ a' b' j h2 rfl).1, h], List.ext_getElem? fun j => by rw [<- (ya5 _ a b j h1 rfl).2, <- (ya5 _ a' b' j h2 rfl).2, h]⟩
theorem ypp {n : Network} (hn : Good n) {a b : Int} (ha : 0 <= a /\ a < n.Stops.length) (hb : 0 <= b /\ b < n.Stops.length) (h : nmS n a = nmS n b) : a = b := by
 obtain ⟨x, hx, h1, _⟩ := yau hn ha.1 ha.2
 obtain ⟨y, hy, h2, _⟩ := yau hn hb.1 hb.2
 have hxy : x = y := by rw [yas x, yas y, <- h1, <- h2, h]
 subst hxy
 have e1 := (hn.2.2.1 _ x hx).2
 have e2 := (hn.2.2.1 _ x hy).2
 have : ((a.toNat : Nat) : Int) = ((b.toNat : Nat) : Int) := e1.symm.trans e2
 omega
theorem ykw {n : Network} (hn : Good n) : netW n ≠ [] := by
 intro h
 have := congrArg List.length h
 have h2 := hn.1.1
 simp [netW] at this
 rw [this.1] at h2
 simp at h2
theorem ypr {n m : Network} (hn : Good n) (hm : Good m) (h : ofW (netW n) = ofW (netW m)) : netW n = netW m := by
 have key : ∀ {k : Network}, Good k -> ofW (netW k) = Lib.join ((netW k).map fun w => Lib.join w [32]) [10] ++ [10] /\ spl1 10 (Lib.join ((netW k).map fun w => Lib.join w [32]) [10]) = (netW k).map (fun w => Lib.join w [32]) /\ ((netW k).map fun w => Lib.join w [32]).map (spl1 32) = netW k := by
  intro k hk
  have hw := ykk (yqr hk)
  have e : ttW ⟨k, []⟩ = netW k := by unfold ttW; simp
  rw [e] at hw
  refine ⟨ymk _ (ykw hk), ych (by simp [ykw hk]) ?_, ?_⟩
  ·intro p hp
   obtain ⟨w, hw1, rfl⟩ := List.mem_map.1 hp
   exact ypw (by decide) fun x hx => ((hw w hw1).2 x hx).2.1
  ·rw [List.map_map]
   refine (List.map_congr_left fun w hw1 => ?_).trans (List.map_id _)
   exact ypi (hw w hw1).1 (hw w hw1).2
 obtain ⟨a1, a2, a3⟩ := key hn
 obtain ⟨b1, b2, b3⟩ := key hm
 rw [a1, b1] at h
 have h := List.append_cancel_right h
 rw [<- a3, <- b3, <- a2, <- b2, h]
theorem ypq {n m : Network} (hn : Good n) (hm : Good m) (h : ofW (netW n) = ofW (netW m)) : n = m := by
 have h := ypr hn hm h
 unfold netW at h
 have hS : n.Stops.map stW = m.Stops.map stW := by
  have f1 : ∀ k : Network, (k.Stops.map stW ++ k.Lines.map (lnW k)).filter (fun w => w.head? == some yeu) = k.Stops.map stW := by
   intro k
   rw [List.filter_append]
   have e1 : (k.Stops.map stW).filter (fun w => w.head? == some yeu) = k.Stops.map stW := by
    rw [List.filter_eq_self]
    intro w hw
    obtain ⟨s, _, rfl⟩ := List.mem_map.1 hw
    simp [stW]
   have e2 : (k.Lines.map (lnW k)).filter (fun w => w.head? == some yeu) = [] := by
    rw [List.filter_eq_nil_iff]
    intro w hw
    obtain ⟨s, _, rfl⟩ := List.mem_map.1 hw
    simp [lnW, yme, yeu]
   rw [e1, e2, List.append_nil]
  rw [<- f1 n, <- f1 m, h]
 have hSt : n.Stops = m.Stops := yay (fun x _ y _ hxy => by
  have : x.data.toList = y.data.toList := by simpa [stW] using hxy
  rw [yas x, yas y, this]) hS
 rw [hS] at h
 have h := List.append_cancel_left h
 have hnm : nmS m = nmS n := by funext s; unfold nmS; rw [hSt]
 have hL : lnW m = lnW n := by funext l; unfold lnW; rw [hnm]
 rw [hL] at h
 have hLn : n.Lines = m.Lines := by
  refine yay (fun x hx y hy hxy => ?_) h
  obtain ⟨i, hi⟩ := List.mem_iff_getElem?.1 hx
  obtain ⟨j, hj⟩ := List.mem_iff_getElem?.1 hy
  obtain ⟨px, _⟩ := yaw hn hi
  obtain ⟨py, _⟩ := yaw hm hj
  rw [<- hSt] at py
  simp only [lnW, List.cons.injEq, true_and] at hxy
  obtain ⟨q1, q2⟩ := hxy
  have lx := (ybf px).2
  have ly := (ybf py).2
  obtain ⟨q3, q4⟩ := yk9 (by simp; omega) (by simp; omega) q2
  have r1 : x.Stops = y.Stops := yay (fun a ha b hb hab => by
   obtain ⟨ia, ha⟩ := List.mem_iff_getElem?.1 ha
   obtain ⟨ib, hb⟩ := List.mem_iff_getElem?.1 hb
   exact ypp hn (ye5 px ha) (ye5 py hb) hab) q3
  have r2 : x.Runs = y.Runs := yay (fun a _ b _ hab => ymr hab) q4
  have r3 : x.Name = y.Name := by rw [yas x.Name, yas y.Name, q1]
  cases x; cases y
  simp only at r1 r2 r3
  rw [r1, r2, r3]
 cases n; cases m
 simp only at hSt hLn
 rw [hSt, hLn]
def rmC (x : Trip) : Change := ⟨2, x, 0⟩
def adC (x : Trip) : Change := ⟨1, x, 0⟩
def mvC (x : Trip) (s : Int) : Change := ⟨3, x, s⟩
def yab (l m : List Trip) : List Change :=
 match l, m with
 | [], bs => bs.map adC
 | a :: xl, [] => rmC a :: yab xl []
 | a :: xl, b :: bs => if a.Id < b.Id then rmC a :: yab xl (b :: bs) else if b.Id < a.Id then adC b :: yab (a :: xl) bs else if a.Start = b.Start then yab xl bs else mvC a b.Start :: yab xl bs
 termination_by l.length + m.length
def Inc (l : List Trip) : Prop := l.Pairwise fun x y => x.Id < y.Id
def yaq (l m : List Trip) : Prop := ∀ x ∈ l, ∀ y ∈ m, x.Id = y.Id -> x.Line = y.Line
theorem ya9 (bs : List Trip) : yab [] bs = bs.map adC := by rw [yab]
theorem ye1 (a : Trip) (xl : List Trip) : yab (a :: xl) [] = rmC a :: yab xl [] := by rw [yab]
theorem ye3 {a b : Trip} {xl bs : List Trip} (h : a.Id < b.Id) : yab (a :: xl) (b :: bs) = rmC a :: yab xl (b :: bs) := by rw [yab, if_pos h]
theorem ye4 {a b : Trip} {xl bs : List Trip} (h : b.Id < a.Id) : yab (a :: xl) (b :: bs) = adC b :: yab (a :: xl) bs := by rw [yab, if_neg (by omega), if_pos h]
theorem yci {a b : Trip} {xl bs : List Trip} (h : a.Id = b.Id) (h2 : a.Start = b.Start) : yab (a :: xl) (b :: bs) = yab xl bs := by rw [yab, if_neg (by omega), if_neg (by omega), if_pos h2]
theorem ye2 {a b : Trip} {xl bs : List Trip} (h : a.Id = b.Id) (h2 : ¬ a.Start = b.Start) : yab (a :: xl) (b :: bs) = mvC a b.Start :: yab xl bs := by rw [yab, if_neg (by omega), if_neg (by omega), if_neg h2]
theorem yps (b : Trip) (bs : List Trip) : yab [] (b :: bs) = adC b :: yab [] bs := by rw [ya9, ya9]; rfl
theorem yev {a b : Trip} (h1 : a.Id = b.Id) (h2 : a.Line = b.Line) (h3 : a.Start = b.Start) : a = b := by cases a; cases b; simp only at h1 h2 h3; rw [h1, h2, h3]
theorem yae {a : Trip} {xl : List Trip} (h : Inc (a :: xl)) : (∀ x ∈ xl, a.Id < x.Id) /\ Inc xl := List.pairwise_cons.1 h
theorem ybn {a : Trip} {xl bs : List Trip} (h : yaq (a :: xl) bs) : yaq xl bs := fun x hx => h x (List.mem_cons_of_mem _ hx)
theorem yb6 {b : Trip} {xl bs : List Trip} (h : yaq xl (b :: bs)) : yaq xl bs := fun x hx y hy => h x hx y (List.mem_cons_of_mem _ hy)
inductive FirstC (l m : List Trip) : Prop
 | none (h : yab l m = []) (he : l = m)
 | rm (p : List Trip) (a : Trip) (xl bs : List Trip) (hl : l = p ++ a :: xl) (hm : m = p ++ bs) (hlt : ∀ y ∈ bs, a.Id < y.Id) (h : yab l m = rmC a :: yab xl bs)
 | ad (p : List Trip) (b : Trip) (xl bs : List Trip) (hl : l = p ++ xl) (hm : m = p ++ b :: bs) (hlt : ∀ y ∈ xl, b.Id < y.Id) (h : yab l m = adC b :: yab xl bs)
 | mv (p : List Trip) (a b : Trip) (xl bs : List Trip) (hl : l = p ++ a :: xl) (hm : m = p ++ b :: bs) (hid : a.Id = b.Id) (hln : a.Line = b.Line) (hs : ¬ a.Start = b.Start) (h : yab l m = mvC a b.Start :: yab xl bs)
theorem ylc : ∀ (l m : List Trip), Inc l -> Inc m -> yaq l m -> FirstC l m
 | [], [], _, _, _ => .none (by rw [ya9]; rfl) rfl
 | [], b :: bs, _, hm, _ => .ad [] b [] bs rfl rfl (by simp) (yps b bs)
 | a :: xl, [], _, _, _ => .rm [] a xl [] rfl rfl (by simp) (ye1 a xl)
 | a :: xl, b :: bs, hl, hm, hk => by
  rcases Int.lt_trichotomy a.Id b.Id with h | h | h
  ·refine .rm [] a xl (b :: bs) rfl rfl ?_ (ye3 h)
   intro y hy
   rcases List.mem_cons.1 hy with rfl | hy
   ·exact h
   ·have := (yae hm).1 y hy; omega
  ·by_cases h2 : a.Start = b.Start
   ·have hab : a = b := yev h (hk a (by simp) b (by simp) h) h2
    subst hab
    cases ylc xl bs (yae hl).2 (yae hm).2 (yb6 (ybn hk)) with
    | none g he => exact .none (by rw [yci h h2, g]) (by rw [he])
    | rm p x xs ys g1 g2 g3 g4 => exact .rm (a :: p) x xs ys (by rw [g1]; rfl) (by rw [g2]; rfl) g3 (by rw [yci h h2, g4])
    | ad p x xs ys g1 g2 g3 g4 => exact .ad (a :: p) x xs ys (by rw [g1]; rfl) (by rw [g2]; rfl) g3 (by rw [yci h h2, g4])
    | mv p x y xs ys g1 g2 g3 g4 g5 g6 => exact .mv (a :: p) x y xs ys (by rw [g1]; rfl) (by rw [g2]; rfl) g3 g4 g5 (by rw [yci h h2, g6])
   ·exact .mv [] a b xl bs rfl rfl h (hk a (by simp) b (by simp) h) h2 (ye2 h h2)
  ·refine .ad [] b (a :: xl) bs rfl rfl ?_ (ye4 h)
   intro y hy
   rcases List.mem_cons.1 hy with rfl | hy
   ·exact h
   ·have := (yae hl).1 y hy; omega
def invC (c : Change) : Change := if c.Kind = 1 then ⟨2, c.Trip, c.To⟩ else if c.Kind = 2 then ⟨1, c.Trip, c.To⟩ else ⟨c.Kind, ⟨c.Trip.Id, c.Trip.Line, c.To⟩, c.Trip.Start⟩
theorem ym5 (x : Trip) : invC (rmC x) = adC x := rfl
theorem ym7 (x : Trip) : invC (adC x) = rmC x := rfl
theorem yqp {a b : Trip} (h : a.Id = b.Id) (hl : a.Line = b.Line) : invC (mvC a b.Start) = mvC b a.Start := by
 show (⟨3, ⟨a.Id, a.Line, b.Start⟩, a.Start⟩ : Change) = ⟨3, b, a.Start⟩
 rw [h, hl]
theorem yav : ∀ (l m : List Trip), yaq l m -> (yab l m).map invC = yab m l
 | [], bs, _ => by
  rw [ya9]
  induction bs with
  | nil => rw [ya9]; rfl
  | cons b bs ih => rw [ye1, List.map_cons, List.map_cons, ym7, ih (fun x hx => by simp at hx)]
 | a :: xl, [], h => by
  rw [ye1, yps, List.map_cons, ym5, yav xl [] (ybn h)]
 | a :: xl, b :: bs, h => by
  rcases Int.lt_trichotomy a.Id b.Id with g | g | g
  ·rw [ye3 g, ye4 g, List.map_cons, ym5, yav xl (b :: bs) (ybn h)]
  ·by_cases h2 : a.Start = b.Start
   ·rw [yci g h2, yci g.symm h2.symm, yav xl bs (yb6 (ybn h))]
   ·rw [ye2 g h2, ye2 g.symm (fun e => h2 e.symm), List.map_cons, yqp g (h a (by simp) b (by simp) g), yav xl bs (yb6 (ybn h))]
  ·rw [ye4 g, ye3 g, List.map_cons, ym7, yav (a :: xl) bs (yb6 h)]
 termination_by l m => l.length + m.length
def gch (bs : List Trip) (x : Trip) : List Change :=
 match bs.find? (fun y => y.Id == x.Id) with
 | none => [rmC x]
 | some y => if y.Start = x.Start then [] else [mvC x y.Start]
def fch (xl bs : List Trip) : List Change := xl.flatMap (gch bs) ++ (bs.filter fun y => xl.all fun x => x.Id != y.Id).map adC
theorem yh7 {b x : Trip} {bs : List Trip} (h : ¬ b.Id = x.Id) : gch (b :: bs) x = gch bs x := by
 unfold gch
 rw [List.find?_cons_of_neg (by simpa using h)]
theorem yh8 {x : Trip} {bs : List Trip} (h : ∀ y ∈ bs, ¬ y.Id = x.Id) : gch bs x = [rmC x] := by
 unfold gch
 rw [List.find?_eq_none.2 fun y hy => by simpa using h y hy]
theorem yfg {xl : List Trip} {f g : Trip -> List Change} (h : ∀ x ∈ xl, f x = g x) : xl.flatMap f = xl.flatMap g := by
 induction xl with
 | nil => rfl
 | cons a xl ih => rw [List.flatMap_cons, List.flatMap_cons, h a (by simp), ih fun x hx => h x (by simp [hx])]
theorem ybq : ∀ (l m : List Trip), Inc l -> Inc m -> (fch l m).Perm (yab l m)
 | [], bs, _, _ => by
  rw [ya9]
  unfold fch
  rw [List.flatMap_nil, List.nil_append, List.filter_eq_self.2 (by simp)]
 | a :: xl, [], hl, _ => by
  have ih := ybq xl [] (yae hl).2 .nil
  rw [ye1]
  unfold fch at ih ⊢
  rw [List.flatMap_cons, yh8 (by simp)]
  exact ih.cons _
 | a :: xl, b :: bs, hl, hm => by
  obtain ⟨la, hl'⟩ := yae hl
  obtain ⟨lb, hm'⟩ := yae hm
  rcases Int.lt_trichotomy a.Id b.Id with g | g | g
  ·have ih := ybq xl (b :: bs) hl' hm
   rw [ye3 g]
   unfold fch at ih ⊢
   rw [List.flatMap_cons, yh8 (fun y hy => by
    rcases List.mem_cons.1 hy with rfl | hy
    ·omega
    ·have := lb y hy; omega)]
   have e : ((b :: bs).filter fun y => (a :: xl).all fun x => x.Id != y.Id) = (b :: bs).filter fun y => xl.all fun x => x.Id != y.Id := by
    refine List.filter_congr fun y hy => ?_
    have : a.Id < y.Id := by
     rcases List.mem_cons.1 hy with rfl | hy
     ·exact g
     ·have := lb y hy; omega
    rw [List.all_cons, show (a.Id != y.Id) = true by simpa using (by omega : ¬ a.Id = y.Id), Bool.true_and]
   rw [e]
   exact ih.cons _
  ·have ih := ybq xl bs hl' hm'
   have e1 : xl.flatMap (gch (b :: bs)) = xl.flatMap (gch bs) := yfg fun x hx => yh7 (by have := la x hx; omega)
   have e2 : ((b :: bs).filter fun y => (a :: xl).all fun x => x.Id != y.Id) = bs.filter fun y => xl.all fun x => x.Id != y.Id := by
    rw [List.filter_cons_of_neg (by simp [g])]
    refine List.filter_congr fun y hy => ?_
    have := lb y hy
    rw [List.all_cons, show (a.Id != y.Id) = true by simpa using (by omega : ¬ a.Id = y.Id), Bool.true_and]
   have e3 : gch (b :: bs) a = if b.Start = a.Start then [] else [mvC a b.Start] := by
    unfold gch
    rw [List.find?_cons_of_pos (by simpa using g.symm)]
   unfold fch at ih ⊢
   rw [List.flatMap_cons, e1, e2, e3]
   by_cases h2 : a.Start = b.Start
   ·rw [yci g h2, if_pos h2.symm, List.nil_append]; exact ih
   ·rw [ye2 g h2, if_neg (fun e => h2 e.symm)]; exact ih.cons _
  ·have ih := ybq (a :: xl) bs hl hm'
   have e1 : (a :: xl).flatMap (gch (b :: bs)) = (a :: xl).flatMap (gch bs) := yfg fun x hx => yh7 (by
    rcases List.mem_cons.1 hx with rfl | hx
    ·omega
    ·have := la x hx; omega)
   rw [ye4 g]
   unfold fch at ih ⊢
   rw [e1, List.filter_cons_of_pos (by
    rw [List.all_eq_true]
    intro x hx
    rcases List.mem_cons.1 hx with rfl | hx
    ·simpa using (by omega : ¬ x.Id = b.Id)
    ·have := la x hx; simpa using (by omega : ¬ x.Id = b.Id)), List.map_cons]
   exact List.perm_middle.trans (ih.cons _)
 termination_by l m => l.length + m.length
def IncC (l : List Change) : Prop := l.Pairwise fun x y => x.Trip.Id < y.Trip.Id
theorem ybl : ∀ (l m : List Trip), ∀ c ∈ yab l m, (∃ x ∈ l, c.Trip.Id = x.Id) \/ ∃ y ∈ m, c.Trip.Id = y.Id
 | [], bs, c, h => by
  rw [ya9] at h
  obtain ⟨y, hy, rfl⟩ := List.mem_map.1 h
  exact .inr ⟨y, hy, rfl⟩
 | a :: xl, [], c, h => by
  rw [ye1] at h
  rcases List.mem_cons.1 h with rfl | h
  ·exact .inl ⟨a, by simp, rfl⟩
  ·rcases ybl xl [] c h with ⟨x, hx, e⟩ | ⟨x, hx, e⟩
   ·exact .inl ⟨x, by simp [hx], e⟩
   ·simp at hx
 | a :: xl, b :: bs, c, h => by
  rcases Int.lt_trichotomy a.Id b.Id with g | g | g
  ·rw [ye3 g] at h
   rcases List.mem_cons.1 h with rfl | h
   ·exact .inl ⟨a, by simp, rfl⟩
   ·rcases ybl xl (b :: bs) c h with ⟨x, hx, e⟩ | ⟨x, hx, e⟩
    ·exact .inl ⟨x, by simp [hx], e⟩
    ·exact .inr ⟨x, hx, e⟩
  ·by_cases h2 : a.Start = b.Start
   ·rw [yci g h2] at h
    rcases ybl xl bs c h with ⟨x, hx, e⟩ | ⟨x, hx, e⟩
    ·exact .inl ⟨x, by simp [hx], e⟩
    ·exact .inr ⟨x, by simp [hx], e⟩
   ·rw [ye2 g h2] at h
    rcases List.mem_cons.1 h with rfl | h
    ·exact .inl ⟨a, by simp, rfl⟩
    ·rcases ybl xl bs c h with ⟨x, hx, e⟩ | ⟨x, hx, e⟩
     ·exact .inl ⟨x, by simp [hx], e⟩
     ·exact .inr ⟨x, by simp [hx], e⟩
  ·rw [ye4 g] at h
   rcases List.mem_cons.1 h with rfl | h
   ·exact .inr ⟨b, by simp, rfl⟩
   ·rcases ybl (a :: xl) bs c h with ⟨x, hx, e⟩ | ⟨x, hx, e⟩
    ·exact .inl ⟨x, hx, e⟩
    ·exact .inr ⟨x, by simp [hx], e⟩
 termination_by l m => l.length + m.length
theorem ycy : ∀ (l m : List Trip), Inc l -> Inc m -> IncC (yab l m)
 | [], bs, _, hm => by
  rw [ya9]
  unfold IncC
  rw [List.pairwise_map]
  exact hm
 | a :: xl, [], hl, hm => by
  rw [ye1]
  refine List.pairwise_cons.2 ⟨fun c hc => ?_, ycy xl [] (yae hl).2 hm⟩
  rcases ybl xl [] c hc with ⟨x, hx, e⟩ | ⟨x, hx, e⟩
  ·rw [e]; exact (yae hl).1 x hx
  ·simp at hx
 | a :: xl, b :: bs, hl, hm => by
  obtain ⟨la, hl'⟩ := yae hl
  obtain ⟨lb, hm'⟩ := yae hm
  rcases Int.lt_trichotomy a.Id b.Id with g | g | g
  ·rw [ye3 g]
   refine List.pairwise_cons.2 ⟨fun c hc => ?_, ycy xl (b :: bs) hl' hm⟩
   show a.Id < c.Trip.Id
   rcases ybl xl (b :: bs) c hc with ⟨x, hx, e⟩ | ⟨x, hx, e⟩
   ·rw [e]; exact la x hx
   ·rw [e]
    rcases List.mem_cons.1 hx with rfl | hx
    ·exact g
    ·have := lb x hx; omega
  ·by_cases h2 : a.Start = b.Start
   ·rw [yci g h2]; exact ycy xl bs hl' hm'
   ·rw [ye2 g h2]
    refine List.pairwise_cons.2 ⟨fun c hc => ?_, ycy xl bs hl' hm'⟩
    show a.Id < c.Trip.Id
    rcases ybl xl bs c hc with ⟨x, hx, e⟩ | ⟨x, hx, e⟩
    ·rw [e]; exact la x hx
    ·rw [e, g]; exact lb x hx
  ·rw [ye4 g]
   refine List.pairwise_cons.2 ⟨fun c hc => ?_, ycy (a :: xl) bs hl hm'⟩
   show b.Id < c.Trip.Id
   rcases ybl (a :: xl) bs c hc with ⟨x, hx, e⟩ | ⟨x, hx, e⟩
   ·rw [e]
    rcases List.mem_cons.1 hx with rfl | hx
    ·exact g
    ·have := la x hx; omega
   ·rw [e]; exact lb x hx
 termination_by l m => l.length + m.length
theorem ybv (l : List Trip) (h : l.length <= 100000) (v : Trip) : zq85 l v = some (fixI (fun e => (v.Id == e.Id) && ((v.Line == e.Line) && ((v.Start == e.Start) && true))) l) := by
 unfold zq85
 rw [jdg l (fun e => (v.Id == e.Id) && ((v.Line == e.Line) && ((v.Start == e.Start) && true))) (fun i x hx => ?_) (by unfold yc4; simp)]
 have := jcb hx
 unfold yc4
 dsimp only
 rw [if_pos (by simp only [decide_eq_true_eq]; omega), ixs hx, qb, jah (by omega)]
 split <;> rfl
theorem ykx {α : Type} (P : List α) (a : α) (Q : List α) : (P ++ a :: Q)[P.length]? = some a := by simp
theorem yky {p : Trip -> Bool} {P : List Trip} {a : Trip} {Q : List Trip} (ha : p a = true) (hP : ∀ x ∈ P, p x = false) : fixI p (P ++ a :: Q) = (P.length : Int) := by
 refine jqj (ykx P a Q) ha fun j y hj hy => ?_
 rw [List.getElem?_append_left hj] at hy
 exact hP y (List.mem_of_getElem? hy)
theorem ymu {l : List Trip} {x : Trip} {p q : Nat} (h : AtP l x p) (h2 : AtP l x q) : p = q := by
 have key : ∀ {p q : Nat}, AtP l x p -> AtP l x q -> ¬ p < q := by
  intro p q h h2 hlt
  obtain ⟨y, hy⟩ := ja7 (l := l) (i := p) (by have := h2.1; omega)
  exact h.2.2 y hy (h2.2.1 p y hlt hy)
 have a := key h h2
 have b := key h2 h
 omega
theorem ymd {n : Network} (hn : Bd n) {P Q : List Trip} (hl : (P ++ Q).length <= 900) {b : Trip} (hP : ∀ x ∈ P, x.Id < b.Id) (hQ : ∀ x ∈ Q, b.Id < x.Id) : zq27 ⟨n, P ++ Q⟩ b = some ⟨n, P ++ b :: Q⟩ := by
 have hT : TB ⟨n, P ++ Q⟩ := ⟨hn, by show (P ++ Q).length <= 1000; omega⟩
 obtain ⟨p, h1, h2⟩ := yhz hT.2 b
 have h3 : AtP (P ++ Q) b P.length := by
  refine ⟨by simp, fun j y hj hy => ?_, fun y hy => ?_⟩
  ·rw [List.getElem?_append_left hj] at hy
   exact hP y (List.mem_of_getElem? hy)
  ·rw [List.getElem?_append_right (Nat.le_refl _), Nat.sub_self] at hy
   have := hQ y (List.mem_of_getElem? hy)
   omega
 have := ymu h2 h3
 subst this
 rw [ygd hT h1 h2.1]
 unfold putT
 simp
theorem ygc {n : Network} (hn : Bd n) {P Q : List Trip} {a : Trip} (hl : (P ++ a :: Q).length <= 900) : zq29 ⟨n, P ++ a :: Q⟩ (P.length : Int) = some ⟨n, P ++ Q⟩ := by
 have hT : TB ⟨n, P ++ a :: Q⟩ := ⟨hn, by show (P ++ a :: Q).length <= 1000; omega⟩
 have hl2 : P.length + (Q.length + 1) <= 900 := by simpa using hl
 unfold zq29
 rw [yec hT]
 simp only [qb, jah (n := P.length) (by omega)]
 unfold zq82 delM
 rw [if_pos ⟨by omega, by omega, by simp; omega⟩]
 have e3 : ((P.length + 1 : Nat) : Int).toNat = P.length + 1 := by omega
 have e4 : (P ++ a :: Q).drop (P.length + 1) = Q := by simp
 simp only [qb, Int.toNat_natCast, e3, e4]
 simp
theorem ypk {α : Type} (P : List α) (a b : α) (Q : List α) : (P ++ a :: Q).set P.length b = P ++ b :: Q := by
 rw [List.set_append_right _ _ (Nat.le_refl _)]; simp
theorem beq3 (a : Trip) : ((a.Id == a.Id) && ((a.Line == a.Line) && ((a.Start == a.Start) && true))) = true := by simp
theorem ybu {P Q : List Trip} (h : Inc (P ++ Q)) : Inc P /\ Inc Q /\ ∀ x ∈ P, ∀ y ∈ Q, x.Id < y.Id := List.pairwise_append.1 h
theorem yqn {a y : Trip} (h : ¬ a.Id = y.Id) : ((a.Id == y.Id) && ((a.Line == y.Line) && ((a.Start == y.Start) && true))) = false := by
 have : (a.Id == y.Id) = false := by simpa using h
 rw [this]; rfl
def Mid (n : Network) (L : List Change) (bs : List Trip) (k : Nat) (s : Int × Int × List ByteArray × List Line × List Trip) : Prop :=
 ∃ (i : Nat) (P xl cs : List Trip), k + i = L.length /\ s = (s.1, (i : Int), n.Stops, n.Lines, P ++ xl) /\ L.drop i = yab xl cs /\ P ++ cs = bs /\ (∀ x ∈ P, ∀ y ∈ xl, x.Id < y.Id) /\ Inc xl /\ xl.length <= 12 /\ (∀ x ∈ xl, s.1 < x.Id) /\ (∀ x ∈ cs, s.1 < x.Id) /\ yaq xl cs
theorem ycm {α : Type} {L r : List α} {i : Nat} {c : α} (h : L.drop i = c :: r) : L[i]? = some c /\ L.drop (i + 1) = r := by
 constructor
 ·have := congrArg (fun l => l[0]?) h
  simpa [List.getElem?_drop] using this
 ·have := congrArg (List.drop 1) h
  simpa [List.drop_drop] using this
theorem yij {n : Network} (hn : Bd n) {L : List Change} {bs : List Trip} (hbs : Inc bs) (hl : bs.length <= 12) (hL : L.length <= 24) (k : Nat) (s : Int × Int × List ByteArray × List Line × List Trip) (h : Mid n L bs k s) :
  Tot (yef L s) fun r => (∀ a', r = .nx a' -> ∃ k', k' < k /\ Mid n L bs k' a') /\ ∀ b, r = .dn b -> b = .go (n.Stops, n.Lines, bs) := by
 obtain ⟨c, w1, w2, w3, w4⟩ := s
 obtain ⟨i, P0, xl, cs, hk, hs, hd, hPb, hPa, hinc, ha12, hca, hcc, hlin⟩ := h
 dsimp only at hs hca hcc
 simp only [Prod.mk.injEq, true_and] at hs
 obtain ⟨rfl, rfl, rfl, rfl⟩ := hs
 subst hPb
 obtain ⟨hP0, hcsI, hP0cs⟩ := ybu hbs
 have hlen : P0.length + cs.length <= 12 := by simpa using hl
 unfold yef
 dsimp only
 refine .iteP (fun hlt => ?_) (fun hge => ?_)
 ·cases ylc xl cs hinc hcsI hlin with
  | none g he =>
   exfalso
   have := congrArg List.length (hd.trans g)
   rw [List.length_drop] at this
   simp at this; omega
  | rm p a xl2 bs2 g1 g2 g3 g4 =>
   subst g1; subst g2
   obtain ⟨d1, d2⟩ := ycm (hd.trans g4)
   obtain ⟨q1, q2, q3⟩ := ybu hinc
   obtain ⟨q4, q5⟩ := yae q2
   have hca2 := hca a (by simp)
   have hl3 : p.length + (xl2.length + 1) <= 12 := by simpa using ha12
   have hall : ∀ x ∈ P0 ++ p, x.Id < a.Id := by
    intro x hx
    rcases List.mem_append.1 hx with hx | hx
    ·exact hPa x hx a (by simp)
    ·exact q3 x hx a (by simp)
   have eL : P0 ++ (p ++ a :: xl2) = (P0 ++ p) ++ a :: xl2 := by simp
   rw [eL, ixs d1, qb, if_neg (by show ¬ decide (a.Id <= c) = true; simp only [decide_eq_true_eq]; omega)]
   have e1 : zq85 ((P0 ++ p) ++ a :: xl2) (rmC a).Trip = some ((P0 ++ p).length : Int) := by
    rw [ybv _ (by simp; omega)]
    exact congrArg some (yky (beq3 a) fun x hx => yqn (by have := hall x hx; show ¬ a.Id = x.Id; omega))
   have e2 := ygc hn (P := P0 ++ p) (a := a) (Q := xl2) (by simp; omega)
   rw [e1, qb, if_neg (show ¬ (((rmC a).Kind == 1) = true) from (show ¬ (((2 : Int) == 1) = true) by decide)), qb, if_neg (by decide), if_pos (show ((rmC a).Kind == 2) = true from rfl), if_pos (show ((rmC a).To == 0) = true from rfl), qb, decide_eq_true (by omega), if_pos rfl]
   rw [e2, qb]
   refine .nx ⟨k - 1, by omega, i + 1, P0 ++ p, xl2, bs2, by omega, by rw [jah (by omega)], d2, by simp, fun x hx y hy => ?_, q5, by omega, fun x hx => q4 x hx, g3, ?_⟩
   ·have := hall x hx; have := q4 y hy; omega
   ·exact fun x hx y hy => hlin x (by simp [hx]) y (by simp [hy])
  | ad p b xl2 bs2 g1 g2 g3 g4 =>
   subst g1; subst g2
   obtain ⟨d1, d2⟩ := ycm (hd.trans g4)
   obtain ⟨q1, q2, q3⟩ := ybu hinc
   obtain ⟨u1, u2, u3⟩ := ybu hcsI
   obtain ⟨q4, q5⟩ := yae u2
   have hca2 := hcc b (by simp)
   have hl3 : p.length + xl2.length <= 12 := by simpa using ha12
   have hl4 : P0.length + (p.length + (bs2.length + 1)) <= 12 := by simpa using hlen
   have hall : ∀ x ∈ P0 ++ p, x.Id < b.Id := by
    intro x hx
    rcases List.mem_append.1 hx with hx | hx
    ·exact hP0cs x hx b (by simp)
    ·exact u3 x hx b (by simp)
   have eL : P0 ++ (p ++ xl2) = (P0 ++ p) ++ xl2 := by simp
   rw [eL, ixs d1, qb, if_neg (by show ¬ decide (b.Id <= c) = true; simp only [decide_eq_true_eq]; omega)]
   have e2 := ymd hn (P := P0 ++ p) (b := b) (Q := xl2) (by simp; omega) hall g3
   have e3 : zq25 (⟨n, (P0 ++ p) ++ xl2⟩ : Timetable) (adC b).Trip.Id = some (-1) := by
    rw [ya4 _ (by show ((P0 ++ p) ++ xl2).length <= 1000; simp; omega)]
    refine congrArg some (jlf fun x hx => ?_)
    rcases List.mem_append.1 hx with hx | hx
    ·have := hall x hx; exact beq_false_of_ne (by show x.Id ≠ b.Id; omega)
    ·have := g3 x hx; exact beq_false_of_ne (by show x.Id ≠ b.Id; omega)
   rw [ybv _ (by simp; omega), qb, if_pos (show ((adC b).Kind == 1) = true from rfl), if_pos (show ((adC b).To == 0) = true from rfl), e3, qb, qb, decide_eq_true (by omega), if_pos rfl]
   rw [show (adC b).Trip = b from rfl, e2, qb]
   refine .nx ⟨k - 1, by omega, i + 1, P0 ++ p ++ [b], xl2, bs2, by omega, by rw [jah (by omega)]; simp, d2, by simp, fun x hx y hy => ?_, q2, by omega, fun x hx => g3 x hx, fun x hx => q4 x hx, ?_⟩
   ·rcases List.mem_append.1 hx with hx | hx
    ·have := hall x hx; have := g3 y hy; omega
    ·rw [List.mem_singleton] at hx; subst hx; exact g3 y hy
   ·exact fun x hx y hy => hlin x (by simp [hx]) y (by simp [hy])
  | mv p a b xl2 bs2 g1 g2 gid gln gst g4 =>
   subst g1; subst g2
   obtain ⟨d1, d2⟩ := ycm (hd.trans g4)
   obtain ⟨q1, q2, q3⟩ := ybu hinc
   obtain ⟨q4, q5⟩ := yae q2
   obtain ⟨u1, u2, u3⟩ := ybu hcsI
   obtain ⟨u4, u5⟩ := yae u2
   have hca2 := hca a (by simp)
   have hl3 : p.length + (xl2.length + 1) <= 12 := by simpa using ha12
   have hall : ∀ x ∈ P0 ++ p, x.Id < a.Id := by
    intro x hx
    rcases List.mem_append.1 hx with hx | hx
    ·exact hPa x hx a (by simp)
    ·exact q3 x hx a (by simp)
   have eL : P0 ++ (p ++ a :: xl2) = (P0 ++ p) ++ a :: xl2 := by simp
   rw [eL, ixs d1, qb, if_neg (by show ¬ decide (a.Id <= c) = true; simp only [decide_eq_true_eq]; omega)]
   have e1 : zq85 ((P0 ++ p) ++ a :: xl2) (mvC a b.Start).Trip = some ((P0 ++ p).length : Int) := by
    rw [ybv _ (by simp; omega)]
    exact congrArg some (yky (beq3 a) fun x hx => yqn (by have := hall x hx; show ¬ a.Id = x.Id; omega))
   have e5 : (((mvC a b.Start).To != (mvC a b.Start).Trip.Start)) = true := by
    show (b.Start != a.Start) = true
    simpa using fun e : b.Start = a.Start => gst e.symm
   rw [e1, qb, if_neg (show ¬ (((mvC a b.Start).Kind == 1) = true) from (show ¬ (((3 : Int) == 1) = true) by decide)), qb, if_neg (by decide), if_neg (show ¬ (((mvC a b.Start).Kind == 2) = true) from (show ¬ (((3 : Int) == 2) = true) by decide)), qb, if_neg (by decide), if_pos (show ((mvC a b.Start).Kind == 3) = true from rfl), if_pos e5, qb, decide_eq_true (by omega), if_pos rfl, ixs (ykx (P0 ++ p) a xl2), qb, Int.toNat_natCast, ypk]
   have e6 : (⟨a.Id, a.Line, (mvC a b.Start).To⟩ : Trip) = b := yev gid gln rfl
   rw [e6]
   refine .nx ⟨k - 1, by omega, i + 1, P0 ++ p ++ [b], xl2, bs2, by omega, by rw [jah (by omega)]; simp, d2, by simp, fun x hx y hy => ?_, q5, by omega, fun x hx => q4 x hx, fun x hx => by have := u4 x hx; show a.Id < x.Id; omega, ?_⟩
   ·have hy2 := q4 y hy
    rcases List.mem_append.1 hx with hx | hx
    ·have := hall x hx; omega
    ·rw [List.mem_singleton] at hx; subst hx; omega
   ·exact fun x hx y hy => hlin x (by simp [hx]) y (by simp [hy])
 ·have hi : i = L.length := by omega
  have hnil : yab xl cs = [] := by rw [<- hd, hi, List.drop_length]
  have he : xl = cs := by
   cases ylc xl cs hinc hcsI hlin with
   | none g he => exact he
   | rm p a xl2 bs2 g1 g2 g3 g4 => rw [g4] at hnil; cases hnil
   | ad p a xl2 bs2 g1 g2 g3 g4 => rw [g4] at hnil; cases hnil
   | mv p a b xl2 bs2 g1 g2 g3 g4 g5 g6 => rw [g6] at hnil; cases hnil
  rw [he]
  exact .dn rfl
theorem yat {t : Timetable} (h : yal t) : Inc t.Trips := List.pairwise_iff_getElem.2 fun i j hi hj hij => yqq h hij (List.getElem?_eq_getElem hi) (List.getElem?_eq_getElem hj)
theorem yik {t u : Timetable} (hb : TB t) (hb2 : TB u) (hg : yal t) (hg2 : yal u) (hn : u.Network = t.Network) (hlin : yaq t.Trips u.Trips) (hl : (yab t.Trips u.Trips).length <= 24) : zq9 t (yab t.Trips u.Trips) = some (u, true) := by
 unfold zq9
 rw [if_neg (by simp only [decide_eq_true_eq]; omega), yec hb, qb]
 have e : iter (yef (yab t.Trips u.Trips)) ((0 : Int), (0 : Int), t.Network.Stops, t.Network.Lines, t.Trips) = some (.go (t.Network.Stops, t.Network.Lines, u.Trips)) := by
  refine Tot.val (Tot.iter (Mid t.Network (yab t.Trips u.Trips) u.Trips) (n := (yab t.Trips u.Trips).length) ⟨0, [], t.Trips, u.Trips, by omega, rfl, by simp, rfl, by simp, yat hg, hg.2.1, fun x hx => ?_, fun x hx => ?_, hlin⟩ (fun k s h => yij hb.1 (yat hg2) hg2.2.1 hl k s h))
  ·obtain ⟨i, hi⟩ := List.mem_iff_getElem?.1 hx
   have := (hg.2.2.1 i x hi).1; show 0 < x.Id; omega
  ·obtain ⟨i, hi⟩ := List.mem_iff_getElem?.1 hx
   have := (hg2.2.2.1 i x hi).1; show 0 < x.Id; omega
 rw [e]
 have eu : (⟨⟨t.Network.Stops, t.Network.Lines⟩, u.Trips⟩ : Timetable) = u := by
  cases u; simp only at hn ⊢; rw [hn]
 show (zq12 (⟨⟨t.Network.Stops, t.Network.Lines⟩, u.Trips⟩ : Timetable)).bind _ = _
 rw [eu, yih hb2, if_pos hg2]; rfl
theorem kcmp (x y : Change) : zq13 x y = some (if x.Trip.Id < y.Trip.Id then -1 else if y.Trip.Id < x.Trip.Id then 1 else 0) := by
 unfold zq13; rw [ygj]; rfl
theorem ltK : Pdq.Lt zq13 (fun a b => a.Trip.Id <= b.Trip.Id) := by
 refine ⟨fun x y => by omega, fun a b => by omega, fun x y => ⟨_, kcmp x y, ?_⟩⟩
 by_cases h : x.Trip.Id < y.Trip.Id
 ·simp [h]
 ·by_cases h2 : y.Trip.Id < x.Trip.Id <;> simp [h, h2] <;> omega
theorem pqK : ∀ n, ycf n = Pdq.pdq_k yd1 ydy zq13 n
 | 0 => rfl
 | n + 1 => by
  show ybt (ycf n) = Pdq.pdq_F yd1 ydy zq13 (Pdq.pdq_k yd1 ydy zq13 n)
  rw [pqK n]
  rfl
theorem srtK (l : List Change) (h : l.length < 4294967296) : Tot (zq89 l) fun l' => l'.Perm l /\ l'.Pairwise fun a b => a.Trip.Id <= b.Trip.Id := by
 unfold zq89
 refine Tot.call (ym4 _ (by dsimp only; rw [yd4 (by omega) (by omega)]; omega) (by dsimp only; rw [yd4 (by omega) (by omega)]; omega)) fun r _ => ?_
 unfold yl5
 rw [pqK]
 exact Tot.call (Pdq.pdq_ok ltK hlp (limit := r) h) fun l' hl' => .ok hl'
theorem yqi {l m : List Change} (hm : IncC m) (hp : l.Perm m) (h : l.length < 4294967296) : zq89 l = some m := by
 refine Tot.val ((srtK l h).mono fun l' ⟨h1, h2⟩ => ?_)
 refine List.Perm.eq_of_pairwise (fun a b ha hb h3 h4 => ?_) h2 (hm.imp fun {a b} h => by omega) (h1.trans hp)
 have hid : a.Trip.Id = b.Trip.Id := by omega
 have ha := (h1.trans hp).mem_iff.1 ha
 obtain ⟨i, hi, rfl⟩ := List.mem_iff_getElem.1 ha
 obtain ⟨j, hj, rfl⟩ := List.mem_iff_getElem.1 hb
 have key := List.pairwise_iff_getElem.1 hm
 rcases Nat.lt_trichotomy i j with h | h | h
 ·have := key i j hi hj h; omega
 ·subst h; rfl
 ·have := key j i hj hi h; omega
theorem ycx : ∀ (l m : List Trip), (yab l m).length <= l.length + m.length
 | [], bs => by rw [ya9]; simp
 | a :: xl, [] => by
  have := ycx xl []
  rw [ye1]; simp at this ⊢; omega
 | a :: xl, b :: bs => by
  rcases Int.lt_trichotomy a.Id b.Id with g | g | g
  ·have := ycx xl (b :: bs); rw [ye3 g]; simp at this ⊢; omega
  ·by_cases h2 : a.Start = b.Start
   ·have := ycx xl bs; rw [yci g h2]; simp; omega
   ·have := ycx xl bs; rw [ye2 g h2]; simp; omega
  ·have := ycx (a :: xl) bs; rw [ye4 g]; simp at this ⊢; omega
 termination_by l m => l.length + m.length
theorem ycn {α : Type} {l : List α} {i : Nat} {x : α} (h : l[i]? = some x) : l.drop i = x :: l.drop (i + 1) := by
 obtain ⟨hi, hx⟩ := List.getElem?_eq_some_iff.1 h
 rw [List.drop_eq_getElem_cons hi, hx]
theorem yh6 {l : List Trip} (h : Inc l) (i : Nat) : Inc (l.drop i) := List.Pairwise.sublist (List.drop_sublist i l) h
noncomputable instance (l m : List Trip) : Decidable (yaq l m) := Classical.propDecidable _
theorem yql {a b : Timetable} (ha : Inc a.Trips) (hb : Inc b.Trips) (la : a.Trips.length <= 12) (lb : b.Trips.length <= 12) : iter (ydn a b) ((0 : Int), (0 : Int), ([] : List Change)) = some (if yaq a.Trips b.Trips then .go (yab a.Trips b.Trips) else .ret ([], false)) := by
 refine Tot.val (Tot.iter (fun n (s : Int × Int × List Change) => ∃ i j : Nat, n + i + j = a.Trips.length + b.Trips.length /\ (i <= a.Trips.length /\ j <= b.Trips.length) /\ s.1 = (i : Int) /\ s.2.1 = (j : Int) /\ s.2.2.length <= i + j /\ s.2.2 ++ yab (a.Trips.drop i) (b.Trips.drop j) = yab a.Trips b.Trips /\ (yaq (a.Trips.drop i) (b.Trips.drop j) -> yaq a.Trips b.Trips)) (n := a.Trips.length + b.Trips.length) ⟨0, 0, by omega, ⟨by omega, by omega⟩, rfl, rfl, by simp, by simp, fun h => by simpa using h⟩ ?_)
 rintro n ⟨v1, v2, k⟩ ⟨i, j, hn, ⟨hi, hj⟩, h1, h2, hk, hmd, hln⟩
 dsimp only at h1 h2 hk hmd
 subst h1; subst h2
 unfold ydn
 dsimp only
 have hA : (if decide ((i : Int) < (a.Trips.length : Int)) = true then some true else some (decide ((j : Int) < (b.Trips.length : Int)))) = some (decide (i < a.Trips.length \/ j < b.Trips.length)) := by
  by_cases hi' : i < a.Trips.length
  ·rw [if_pos (by simp only [decide_eq_true_eq]; omega), decide_eq_true (.inl hi')]
  ·rw [if_neg (by simp only [decide_eq_true_eq]; omega)]
   exact congrArg some (decide_eq_decide.2 (by omega))
 rw [hA, qb]
 refine .iteP (fun hlt => ?_) (fun hge => ?_)
 ·by_cases hj' : j = b.Trips.length
  ·-- only trips of the first are left
   obtain ⟨x, hx⟩ := ja7 (l := a.Trips) (i := i) (by omega)
   have hdb : b.Trips.drop j = [] := by rw [hj', List.drop_length]
   rw [if_pos (by rw [hj']; simp), qb, if_pos rfl, ixs hx, qb, jan (by simp; omega), qb]
   refine .nx ⟨n - 1, by omega, i + 1, j, by omega, ⟨by omega, hj⟩, jah (by omega), rfl, by show (k ++ _).length <= _; simp; omega, ?_, fun h => hln ?_⟩
   ·show (k ++ [rmC x]) ++ _ = _
    rw [<- hmd, ycn hx, hdb, ye1]; simp
   ·rw [hdb]; intro y _ z hz; simp at hz
  ·obtain ⟨y, hy⟩ := ja7 (l := b.Trips) (i := j) (by omega)
   rw [if_neg (by simp; omega)]
   by_cases hi' : i < a.Trips.length
   ·obtain ⟨x, hx⟩ := ja7 (l := a.Trips) (i := i) hi'
    have da := ycn hx
    have db := ycn hy
    have ia := yh6 ha i
    have ib := yh6 hb j
    rw [da] at ia; rw [db] at ib
    rw [if_pos (by simp only [decide_eq_true_eq]; omega), ixs hx, qb, ixs hy, qb, qb]
    rcases Int.lt_trichotomy x.Id y.Id with g | g | g
    ·rw [decide_eq_true g, if_pos rfl, qb, jan (by simp; omega), qb]
     refine .nx ⟨n - 1, by omega, i + 1, j, by omega, ⟨by omega, hj⟩, jah (by omega), rfl, by show (k ++ _).length <= _; simp; omega, ?_, fun h => hln ?_⟩
     ·show (k ++ [rmC x]) ++ _ = _
      rw [<- hmd, da, db, ye3 g]; simp
     ·rw [da]
      intro u hu w hw hid
      rcases List.mem_cons.1 hu with rfl | hu
      ·exfalso
       rw [db] at hw
       rcases List.mem_cons.1 hw with rfl | hw
       ·omega
       ·have := (yae ib).1 w hw; omega
      ·exact h u hu w hw hid
    ·rw [decide_eq_false (by omega), if_neg (by simp), if_neg (by simp; omega), qb, qb, qb, decide_eq_false (by omega), if_neg (by simp), qb, qb]
     by_cases hl : x.Line = y.Line
     ·rw [if_neg (by simp [hl]), qb, qb]
      have fin : ∀ k1 : List Change, k1.length <= k.length + 1 -> k1 ++ yab (a.Trips.drop (i + 1)) (b.Trips.drop (j + 1)) = yab a.Trips b.Trips -> Tot (some (Lp.nx (w64 ((i : Int) + 1), w64 ((j : Int) + 1), k1)) : Option (Lp (Int × Int × List Change) (Fl (List Change × Bool) (List Change)))) fun r => (∀ a', r = .nx a' -> ∃ k', k' < n /\ ∃ i j : Nat, k' + i + j = a.Trips.length + b.Trips.length /\ (i <= a.Trips.length /\ j <= b.Trips.length) /\ a'.1 = (i : Int) /\ a'.2.1 = (j : Int) /\ a'.2.2.length <= i + j /\ a'.2.2 ++ yab (a.Trips.drop i) (b.Trips.drop j) = yab a.Trips b.Trips /\ (yaq (a.Trips.drop i) (b.Trips.drop j) -> yaq a.Trips b.Trips)) /\ ∀ b', r = .dn b' -> b' = (if yaq a.Trips b.Trips then .go (yab a.Trips b.Trips) else .ret ([], false)) := by
       intro k1 hk1 hk2
       refine .nx ⟨n - 2, by omega, i + 1, j + 1, by omega, ⟨by omega, by omega⟩, jah (by omega), jah (by omega), by show k1.length <= _; omega, hk2, fun h => hln ?_⟩
       rw [da, db]
       intro u hu w hw hid
       rcases List.mem_cons.1 hu with rfl | hu
       ·rcases List.mem_cons.1 hw with rfl | hw
        ·exact hl
        ·have := (yae ib).1 w hw; omega
       ·rcases List.mem_cons.1 hw with rfl | hw
        ·have := (yae ia).1 u hu; omega
        ·exact h u hu w hw hid
      by_cases hs : x.Start = y.Start
      ·rw [if_neg (by simp [hs]), qb]
       exact fin k (by omega) (by rw [<- hmd, da, db, yci g hs])
      ·rw [if_pos (by simpa using hs), qb, qb, jan (by simp; omega), qb, qb]
       exact fin _ (by simp) (by show (k ++ [mvC x y.Start]) ++ _ = _; rw [<- hmd, da, db, ye2 g hs]; simp)
     ·rw [if_pos (by simpa using hl)]
      refine .dn ?_
      rw [if_neg (fun h : yaq a.Trips b.Trips => hl (h x (List.mem_of_getElem? hx) y (List.mem_of_getElem? hy) g))]
    ·rw [decide_eq_false (by omega), if_neg (by simp), if_neg (by simp; omega), qb, qb, qb, decide_eq_true g, if_pos rfl, qb, jan (by simp; omega), qb]
     refine .nx ⟨n - 1, by omega, i, j + 1, by omega, ⟨hi, by omega⟩, rfl, jah (by omega), by show (k ++ _).length <= _; simp; omega, ?_, fun h => hln ?_⟩
     ·show (k ++ [adC y]) ++ _ = _
      rw [<- hmd, da, db, ye4 g]; simp
     ·rw [db]
      intro u hu w hw hid
      rcases List.mem_cons.1 hw with rfl | hw
      ·exfalso
       rw [da] at hu
       rcases List.mem_cons.1 hu with rfl | hu
       ·omega
       ·have := (yae ia).1 u hu; omega
      ·exact h u hu w hw hid
   ·-- only trips of the second are left
    have hie : i = a.Trips.length := by omega
    have hda : a.Trips.drop i = [] := by rw [hie, List.drop_length]
    rw [if_neg (by simp only [decide_eq_true_eq]; omega), qb, if_neg (by simp), if_pos (by rw [hie]; simp), qb, if_pos rfl, ixs hy, qb, jan (by simp; omega), qb]
    refine .nx ⟨n - 1, by omega, i, j + 1, by omega, ⟨hi, by omega⟩, rfl, jah (by omega), by show (k ++ _).length <= _; simp; omega, ?_, fun h => hln ?_⟩
    ·show (k ++ [adC y]) ++ _ = _
     rw [<- hmd, ycn hy, hda, yps]; simp
    ·rw [hda]; intro y hy; simp at hy
 ·have hi' : i = a.Trips.length := by omega
  have hj' : j = b.Trips.length := by omega
  have hda : a.Trips.drop i = [] := by rw [hi', List.drop_length]
  have hdb : b.Trips.drop j = [] := by rw [hj', List.drop_length]
  rw [hda, hdb] at hmd hln
  rw [if_pos (hln (fun x hx => by simp at hx))]
  rw [ya9] at hmd
  exact .dn (by rw [<- hmd]; simp)
theorem yeb {l : List Trip} {id : Int} : (fixI (fun y => y.Id == id) l < 0 /\ l.find? (fun y => y.Id == id) = none) \/ ∃ (i : Nat) (y : Trip), fixI (fun y => y.Id == id) l = (i : Int) /\ l[i]? = some y /\ y.Id = id /\ l.find? (fun y => y.Id == id) = some y := by
 by_cases h : fixI (fun y => y.Id == id) l < 0
 ·exact .inl ⟨h, List.find?_eq_none.2 fun x hx => by simpa using jnb h x hx⟩
 ·obtain ⟨i, hi⟩ : ∃ i : Nat, fixI (fun y => y.Id == id) l = (i : Int) := ⟨(fixI (fun y => y.Id == id) l).toNat, by omega⟩
  obtain ⟨y, h1, h2, h3⟩ := jtd hi
  refine .inr ⟨i, y, hi, h1, by simpa using h2, ?_⟩
  obtain ⟨hl, hy⟩ := List.getElem?_eq_some_iff.1 h1
  rw [List.find?_eq_some_iff_getElem]
  refine ⟨h2, i, hl, hy, fun j hj => ?_⟩
  have := h3 j _ hj (List.getElem?_eq_getElem (by omega))
  simp [this]
theorem yqs {a b : Timetable} (hib : Inc b.Trips) (la : a.Trips.length <= 12) (lb : b.Trips.length <= 12) : iter (yg6 a b) ((0 : Int), ([] : List Change)) = some (if yaq a.Trips b.Trips then .go (a.Trips.flatMap (gch b.Trips)) else .ret ([], false)) := by
 ·refine (Tot.val (Tot.iter (fun n (s : Int × List Change) => ∃ i : Nat, n + i = a.Trips.length /\ s.1 = (i : Int) /\ s.2 = (a.Trips.take i).flatMap (gch b.Trips) /\ s.2.length <= i /\ ∀ x ∈ a.Trips.take i, ∀ y ∈ b.Trips, x.Id = y.Id -> x.Line = y.Line) (n := a.Trips.length) ⟨0, by omega, rfl, by simp, by simp, by simp⟩ ?_))
  rintro n ⟨v1, k⟩ ⟨i, hn, h1, h2, hk, hl⟩
  dsimp only at h1 h2 hk
  subst h1
  unfold yg6
  dsimp only
  refine .iteP (fun hlt => ?_) (fun hge => ?_)
  ·obtain ⟨x, hx⟩ := ja7 (l := a.Trips) (i := i) (by omega)
   have hT : ∀ k1 : List Change, k1 = k ++ gch b.Trips x -> k1.length <= k.length + 1 -> (∀ y ∈ b.Trips, x.Id = y.Id -> x.Line = y.Line) -> Tot (some (Lp.nx (w64 ((i : Int) + 1), k1)) : Option (Lp (Int × List Change) (Fl (List Change × Bool) (List Change)))) fun r => (∀ a', r = .nx a' -> ∃ k', k' < n /\ ∃ i : Nat, k' + i = a.Trips.length /\ a'.1 = (i : Int) /\ a'.2 = (a.Trips.take i).flatMap (gch b.Trips) /\ a'.2.length <= i /\ ∀ x ∈ a.Trips.take i, ∀ y ∈ b.Trips, x.Id = y.Id -> x.Line = y.Line) /\ ∀ b', r = .dn b' -> b' = (if yaq a.Trips b.Trips then .go (a.Trips.flatMap (gch b.Trips)) else .ret ([], false)) := by
    intro k1 e1 e2 e3
    refine .nx ⟨n - 1, by omega, i + 1, by omega, jah (by omega), ?_, by show k1.length <= _; omega, fun u hu => ?_⟩
    ·show k1 = _
     rw [e1, h2, ja1 hx, List.flatMap_append]; simp
    ·rw [ja1 hx, List.mem_append, List.mem_singleton] at hu
     rcases hu with hu | rfl
     ·exact hl u hu
     ·exact e3
   rw [ixs hx, qb, ya4 _ (by omega), qb]
   rcases yeb (l := b.Trips) (id := x.Id) with ⟨f1, f2⟩ | ⟨j, y, f1, f2, f3, f4⟩
   ·rw [if_pos (by simpa using f1), jan (by simp; omega), qb]
    refine hT _ ?_ (by simp) fun y hy hid => ?_
    ·unfold gch; rw [f2]; rfl
    ·exact absurd hid (fun e => by have := List.find?_eq_none.1 f2 y hy; simp [e] at this)
   ·rw [if_neg (by rw [f1]; simp), f1, ixs f2, qb]
    by_cases hline : y.Line = x.Line
    ·have hT2 : ∀ z ∈ b.Trips, x.Id = z.Id -> x.Line = z.Line := by
      intro z hz hid
      obtain ⟨q, hq, rfl⟩ := List.mem_iff_getElem.1 hz
      obtain ⟨hj, hy⟩ := List.getElem?_eq_some_iff.1 f2
      have key := List.pairwise_iff_getElem.1 hib
      have : q = j := by
       rcases Nat.lt_trichotomy q j with h | h | h
       ·have := key q j hq hj h; rw [hy] at this; omega
       ·exact h
       ·have := key j q hj hq h; rw [hy] at this; omega
      subst this
      rw [hy, hline]
     rw [if_neg (by simp [hline])]
     simp only [qb]
     by_cases hs : y.Start = x.Start
     ·rw [if_neg (by simp [hs])]
      exact hT k (by unfold gch; rw [f4]; simp [hs]) (by omega) hT2
     ·rw [if_pos (by simpa using hs), jan (by simp; omega), qb]
      exact hT _ (by unfold gch; rw [f4]; simp only; rw [if_neg hs]; rfl) (by simp) hT2
    ·rw [if_pos (by simpa using hline)]
     refine .dn ?_
     rw [if_neg (fun h : yaq a.Trips b.Trips => hline (h x (List.mem_of_getElem? hx) y (List.mem_of_getElem? f2) f3.symm).symm)]
  ·have : i = a.Trips.length := by omega
   subst this
   rw [List.take_length] at h2 hl
   rw [if_pos (show yaq a.Trips b.Trips from hl)]
   exact .dn (by rw [h2])
theorem ypy {a b : Timetable} (la : a.Trips.length <= 12) (lb : b.Trips.length <= 12) (O : List Change) (hO : O.length <= 100) : iter (yen a b) ((0 : Int), O) = some (O ++ (b.Trips.filter fun y => a.Trips.all fun x => x.Id != y.Id).map adC) := by
 refine Tot.val (Tot.iter (fun n (s : Int × List Change) => ∃ i : Nat, n + i = b.Trips.length /\ s.1 = (i : Int) /\ s.2 = O ++ ((b.Trips.take i).filter fun y => a.Trips.all fun x => x.Id != y.Id).map adC /\ s.2.length <= 100 + i) (n := b.Trips.length) ⟨0, by omega, rfl, by simp, by simpa using hO⟩ ?_)
 rintro n ⟨v1, k⟩ ⟨i, hn, h1, h2, hk⟩
 dsimp only at h1 h2 hk
 subst h1
 unfold yen
 dsimp only
 refine .iteP (fun hlt => ?_) (fun hge => .dn (by rw [h2, show i = b.Trips.length by omega, List.take_length]))
 obtain ⟨y, hy⟩ := ja7 (l := b.Trips) (i := i) (by omega)
 rw [ixs hy, qb, ya4 _ (by omega), qb]
 by_cases h : fixI (fun x => x.Id == y.Id) a.Trips < 0
 ·have hall : (a.Trips.all fun x => x.Id != y.Id) = true := by
   rw [List.all_eq_true]
   intro x hx
   have := jnb h x hx
   simpa using this
  rw [if_pos (by simpa using h), jan (by simp; omega), qb, qb]
  refine .nx ⟨n - 1, by omega, i + 1, by omega, jah (by omega), ?_, by show (k ++ _).length <= _; simp; omega⟩
  show k ++ [adC y] = _
  rw [h2, ja1 hy, List.filter_append, List.filter_cons_of_pos (by simpa using hall)]; simp
 ·have hall : (a.Trips.all fun x => x.Id != y.Id) = false := by
   rw [Bool.eq_false_iff]
   intro hc
   rw [List.all_eq_true] at hc
   apply h
   rw [jlf fun x hx => by simpa using hc x hx]
   decide
  rw [if_neg (by simpa using h), qb]
  refine .nx ⟨n - 1, by omega, i + 1, by omega, jah (by omega), ?_, by show k.length <= _; omega⟩
  show k = _
  rw [h2, ja1 hy, List.filter_append, List.filter_cons_of_neg (by simp [hall])]; simp
def DfP (a b : Timetable) : Prop := (yal a /\ yal b /\ a.Network = b.Network) /\ yaq a.Trips b.Trips /\ (yab a.Trips b.Trips).length <= 24
noncomputable instance (a b : Timetable) : Decidable (DfP a b) := Classical.propDecidable _
noncomputable def dfR (a b : Timetable) : List Change × Bool := if DfP a b then (yab a.Trips b.Trips, true) else ([], false)
theorem yb5 {a b : Timetable} (ga : yal a) (gb : yal b) : (str (ofW (netW a.Network)) = str (ofW (netW b.Network))) ↔ a.Network = b.Network := by
 constructor
 ·intro h
  have h2 := congrArg (fun s => s.data.toList) h
  simp only [yex] at h2
  exact ypq ga.1 gb.1 h2
 ·intro h; rw [h]
theorem ymi {a b : Timetable} (ha : TB a) (hb : TB b) : zq32 a b = some (dfR a b) := by
 unfold zq32
 rw [yb7 ha, qb]
 by_cases ga : yal a
 ·rw [decide_eq_true ga, if_neg (by simp), yb7 hb, qb]
  by_cases gb : yal b
  ·rw [decide_eq_true gb, if_neg (by simp), ykp ga.1, qb, ykp gb.1, qb, qb, ym9]
   by_cases hn : a.Network = b.Network
   ·rw [decide_eq_true ((yb5 ga gb).2 hn), if_neg (by simp), yql (yat ga) (yat gb) ga.2.1 gb.2.1]
    unfold dfR
    by_cases hl : yaq a.Trips b.Trips
    ·rw [if_pos hl]
     show (if decide (24 < ((yab a.Trips b.Trips).length : Int)) = true then some (([] : List Change), false) else some (yab a.Trips b.Trips, true)) = _
     by_cases h24 : (yab a.Trips b.Trips).length <= 24
     ·rw [if_neg (by simp only [decide_eq_true_eq]; omega), if_pos (show DfP a b from ⟨⟨ga, gb, hn⟩, hl, h24⟩)]
     ·rw [if_pos (by simp only [decide_eq_true_eq]; omega), if_neg (fun h : DfP a b => h24 h.2.2)]
    ·rw [if_neg hl, if_neg (fun h : DfP a b => hl h.2.1)]; rfl
   ·rw [decide_eq_false (fun h => hn ((yb5 ga gb).1 h)), if_pos (by simp)]
    unfold dfR; rw [if_neg (fun h : DfP a b => hn h.1.2.2)]
  ·rw [decide_eq_false gb, if_pos (by simp), qb, if_pos rfl]
   unfold dfR; rw [if_neg (fun h : DfP a b => gb h.1.2.1)]
 ·rw [decide_eq_false ga, if_pos (by simp), qb, if_pos rfl]
  unfold dfR; rw [if_neg (fun h : DfP a b => ga h.1.1)]
theorem yms {a b : Timetable} (ha : TB a) (hb : TB b) : zq3 a b = some (dfR a b) := by
 unfold zq3
 rw [ya2 ha, qb]
 by_cases ga : yal a
 ·rw [decide_eq_true ga, if_neg (by simp), ya2 hb, qb]
  by_cases gb : yal b
  ·rw [decide_eq_true gb, if_neg (by simp), ylb ga.1, qb, ylb gb.1, qb, qb, ym9]
   by_cases hn : a.Network = b.Network
   ·have la := ga.2.1
    have lb := gb.2.1
    rw [decide_eq_true ((yb5 ga gb).2 hn), if_neg (by simp), yqs (yat gb) la lb]
    unfold dfR
    by_cases hl : yaq a.Trips b.Trips
    ·have hp := ybq a.Trips b.Trips (yat ga) (yat gb)
     have hpl := hp.length_eq
     have hml := ycx a.Trips b.Trips
     have hO : (a.Trips.flatMap (gch b.Trips)).length <= 100 := by
      have : (a.Trips.flatMap (gch b.Trips)).length <= (fch a.Trips b.Trips).length := by unfold fch; rw [List.length_append]; omega
      omega
     rw [if_pos hl]
     show ((iter (yen a b) ((0 : Int), a.Trips.flatMap (gch b.Trips))).bind fun x5 => if decide (24 < (x5.length : Int)) = true then some (([] : List Change), false) else (zq89 x5).bind fun r12 => some (r12, true)) = _
     rw [ypy la lb _ hO, qb]
     show (if decide (24 < ((fch a.Trips b.Trips).length : Int)) = true then some (([] : List Change), false) else (zq89 (fch a.Trips b.Trips)).bind fun r12 => some (r12, true)) = _
     by_cases h24 : (yab a.Trips b.Trips).length <= 24
     ·rw [if_neg (by simp only [decide_eq_true_eq]; omega), yqi (ycy _ _ (yat ga) (yat gb)) hp (by omega), qb, if_pos (show DfP a b from ⟨⟨ga, gb, hn⟩, hl, h24⟩)]
     ·rw [if_pos (by simp only [decide_eq_true_eq]; omega), if_neg (fun h : DfP a b => h24 h.2.2)]
    ·rw [if_neg hl, if_neg (fun h : DfP a b => hl h.2.1)]; rfl
   ·rw [decide_eq_false (fun h => hn ((yb5 ga gb).1 h)), if_pos (by simp)]
    unfold dfR; rw [if_neg (fun h : DfP a b => hn h.1.2.2)]
  ·rw [decide_eq_false gb, if_pos (by simp), qb, if_pos rfl]
   unfold dfR; rw [if_neg (fun h : DfP a b => gb h.1.2.1)]
 ·rw [decide_eq_false ga, if_pos (by simp), qb, if_pos rfl]
  unfold dfR; rw [if_neg (fun h : DfP a b => ga h.1.1)]
theorem ypl (l : List Change) (hl : l.length <= 100000) : yf1 l l = some true := by
 unfold yf1
 rw [if_neg (by simp)]
 refine Tot.val (Tot.flb (Tot.iter (fun n (v : Int) => ∃ i : Nat, n + i = l.length /\ v = (i : Int)) (n := l.length) ⟨0, by omega, rfl⟩ ?_))
 rintro n _ ⟨i, hn, rfl⟩
 unfold ydx
 dsimp only
 refine .iteP (fun hlt => ?_) (fun hge => .dn ⟨fun r hr => (by cases hr), fun u _ => .ok rfl⟩)
 obtain ⟨x, hx⟩ := ja7 (l := l) (i := i) (by omega)
 rw [ixs hx, qb, qb, if_neg (by simp)]
 exact .nx ⟨n - 1, by omega, i + 1, by omega, jah (by omega)⟩
theorem ycv {t u : Timetable} (hb : TB t) (hb2 : TB u) (hg : yal t) (hg2 : yal u) (hn : u.Network = t.Network) (hlin : yaq t.Trips u.Trips) (hl : (yab t.Trips u.Trips).length <= 24) : zq5 t (yab t.Trips u.Trips) = some true /\ zq2 t (yab t.Trips u.Trips) = some (u, true) := by
 have e := yik hb hb2 hg hg2 hn hlin hl
 constructor
 ·unfold zq5
  rw [ya2 hb, qb, decide_eq_true hg, if_neg (by simp), e]; rfl
 ·unfold zq2
  rw [ya2 hb, qb, decide_eq_true hg, if_neg (by simp), e]; rfl
theorem ym6 {t : Timetable} {l : List Change} (hl : l.length <= 100) (hv : zq5 t l = some true) : zq4 t l = some (l.map invC, true) := by
 unfold zq4
 rw [hv, qb, if_neg (by simp)]
 have e : iter (ygz l) ((0 : Int), ([] : List Change)) = some (l.map invC) := by
  refine Tot.val (Tot.iter (fun n (s : Int × List Change) => ∃ i : Nat, n + i = l.length /\ s.1 = (i : Int) /\ s.2 = (l.take i).map invC) (n := l.length) ⟨0, by omega, rfl, rfl⟩ ?_)
  rintro n ⟨v, k⟩ ⟨i, hn, h1, h2⟩
  dsimp only at h1 h2
  subst h1
  unfold ygz
  dsimp only
  refine .iteP (fun hlt => ?_) (fun hge => .dn (by rw [h2, show i = l.length by omega, List.take_length]))
  obtain ⟨x, hx⟩ := ja7 (l := l) (i := i) (by omega)
  have hk : k.length <= 100 := by rw [h2]; simp; omega
  have fin : ∀ y : Change, y = invC x -> Tot ((chk (k.length + ([y] : List Change).length <= 4294967296)).bind fun _ => some (Lp.nx (w64 ((i : Int) + 1), k ++ [y])) : Option (Lp (Int × List Change) (List Change))) fun r => (∀ a', r = .nx a' -> ∃ k', k' < n /\ ∃ i : Nat, k' + i = l.length /\ a'.1 = (i : Int) /\ a'.2 = (l.take i).map invC) /\ ∀ b', r = .dn b' -> b' = l.map invC := by
   rintro y rfl
   rw [jan (by simp; omega), qb]
   exact .nx ⟨n - 1, by omega, i + 1, by omega, jah (by omega), by show k ++ _ = _; rw [h2, ja1 hx, List.map_append]; rfl⟩
  rw [ixs hx, qb]
  obtain ⟨kd, ⟨xi, xl, xs⟩, xt⟩ := x
  by_cases k1 : kd = 1
  ·subst k1
   rw [if_pos (show ((1 : Int) == 1) = true from rfl), qb]
   exact fin _ rfl
  ·by_cases k2 : kd = 2
   ·subst k2
    rw [if_neg (show ¬ ((2 : Int) == 1) = true by decide), if_pos (show ((2 : Int) == 2) = true from rfl), qb]
    exact fin _ rfl
   ·rw [if_neg (by simpa using k1), if_neg (by simpa using k2), qb]
    exact fin _ (by unfold invC; simp only; rw [if_neg k1, if_neg k2])
 rw [e]; rfl
theorem yfh {t : Timetable} (h : t.Trips.length <= 1000) {id : Int} (hx : ∃ y ∈ t.Trips, y.Id = id) : ∃ (i : Nat) (y : Trip), zq71 t id = some (i : Int) /\ t.Trips[i]? = some y /\ y.Id = id := by
 rcases yeb (l := t.Trips) (id := id) with ⟨f1, f2⟩ | ⟨i, y, f1, f2, f3, _⟩
 ·obtain ⟨y, hy, hid⟩ := hx
  have := List.find?_eq_none.1 f2 y hy
  simp [hid] at this
 ·exact ⟨i, y, by rw [ye8 t h, f1], f2, f3⟩
theorem yqo {t : Timetable} (hT : TB t) {i : Nat} (hi : i < t.Trips.length) : zq77 t (i : Int) = some ⟨t.Network, t.Trips.take i ++ t.Trips.drop (i + 1)⟩ := by
 have h2 := hT.2
 unfold zq77
 rw [yd7 hT, qb, jah (by omega), jan ⟨by omega, by omega, by omega⟩, qb, jan (by simp; omega), qb, jan ⟨by omega, by omega⟩, qb, jan (by simp; omega), qb]
 have e3 : ((i + 1 : Nat) : Int).toNat = i + 1 := by omega
 simp [e3]
def Has (T : List Trip) (id : Int) : Prop := ∃ y ∈ T, y.Id = id
def ymv (t : Timetable) (L : List Change) (k : Nat) (s : Int × List ByteArray × List Line × List Trip) : Prop :=
 ∃ i : Nat, k + i = L.length /\ s.1 = (i : Int) /\ (s.2.1 = t.Network.Stops /\ s.2.2.1 = t.Network.Lines) /\ s.2.2.2.length <= 12 + i /\ IncC (L.take i) /\ ∀ x ∈ t.Trips, (∀ c ∈ L.take i, c.Trip.Id < x.Id) -> Has s.2.2.2 x.Id
theorem yk5 {t : Timetable} (hT : TB t) (h12 : t.Trips.length <= 12) {L : List Change} (hL : L.length <= 24) (k : Nat) (s : Int × List ByteArray × List Line × List Trip) (h : ymv t L k s) :
  Tot (ydh t L s) fun r => (∀ a', r = .nx a' -> ∃ k', k' < k /\ ymv t L k' a') /\ ∀ b, r = .dn b -> (b = .ret (⟨⟨[], []⟩, []⟩, false) \/ ∃ T : List Trip, b = .go (t.Network.Stops, t.Network.Lines, T) /\ T.length <= 40) := by
 obtain ⟨w1, w2, w3, T⟩ := s
 obtain ⟨i, hk, hs, ⟨hs2, hs3⟩, hl, hinc, hkeep⟩ := h
 dsimp only at hs hs2 hs3 hl hkeep
 subst hs; subst hs2; subst hs3
 unfold ydh
 dsimp only
 refine .iteP (fun hlt => ?_) (fun hge => .dn (.inr ⟨T, rfl, by omega⟩))
 obtain ⟨e, he⟩ := ja7 (l := L) (i := i) (by omega)
 have hTT : TB ⟨t.Network, T⟩ := ⟨hT.1, by show T.length <= 1000; omega⟩
 rw [ixs he, qb]
 have hprev : (if decide ((0 : Int) < (i : Int)) = true then (idx L (w64 ((i : Int) - 1))).bind fun e2 => some (decide (e.Trip.Id <= e2.Trip.Id)) else some false) = some (decide (¬ ∀ c ∈ L.take i, c.Trip.Id < e.Trip.Id)) := by
  by_cases h0 : 0 < i
  ·obtain ⟨p, hp⟩ := ja7 (l := L) (i := i - 1) (by omega)
   have ew : w64 ((i : Int) - 1) = ((i - 1 : Nat) : Int) := by rw [jaj (by omega)]; omega
   rw [if_pos (by simp only [decide_eq_true_eq]; omega), ew, ixs hp, qb]
   refine congrArg some (decide_eq_decide.2 ⟨fun h hall => ?_, fun h => ?_⟩)
   ·have := hall p (List.mem_of_getElem? (show (L.take i)[i - 1]? = some p by rw [List.getElem?_take, if_pos (by omega)]; exact hp))
    omega
   ·refine Int.not_lt.1 fun hlt2 => h fun c hc => ?_
    obtain ⟨q, hq, rfl⟩ := List.mem_iff_getElem.1 hc
    have hq2 : q < i := by simpa using (by rw [List.length_take] at hq; omega : q < i)
    have hpl : i - 1 < (L.take i).length := by rw [List.length_take]; omega
    have hp2 : (L.take i)[i - 1] = p := by
     have := List.getElem?_eq_getElem hpl
     rw [List.getElem?_take, if_pos (by omega), hp] at this
     exact (Option.some.inj this).symm
    rcases Nat.lt_or_ge q (i - 1) with h1 | h1
    ·have := List.pairwise_iff_getElem.1 hinc q (i - 1) hq hpl h1
     rw [hp2] at this; omega
    ·have : q = i - 1 := by omega
     subst this
     rw [hp2]; exact hlt2
  ·have : i = 0 := by omega
   subst this
   rw [if_neg (by simp)]
   simp
 rw [hprev, qb]
 by_cases hall : ∀ c ∈ L.take i, c.Trip.Id < e.Trip.Id
 case neg =>
  rw [if_pos (by simpa using hall)]
  exact .dn (.inl rfl)
 rw [if_neg (by simpa using hall)]
 have hinc2 : IncC (L.take (i + 1)) := by
  unfold IncC
  rw [ja1 he, List.pairwise_append]
  exact ⟨hinc, List.pairwise_singleton _ _, fun c hc d hd => by rw [List.mem_singleton] at hd; subst hd; exact hall c hc⟩
 have nxt : ∀ T' : List Trip, T'.length <= T.length + 1 -> (∀ id, id ≠ e.Trip.Id -> Has T id -> Has T' id) -> Tot (some (Lp.nx (w64 ((i : Int) + 1), t.Network.Stops, t.Network.Lines, T')) : Option (Lp (Int × List ByteArray × List Line × List Trip) (Fl (Timetable × Bool) (List ByteArray × List Line × List Trip)))) fun r => (∀ a', r = .nx a' -> ∃ k', k' < k /\ ymv t L k' a') /\ ∀ b, r = .dn b -> (b = .ret (⟨⟨[], []⟩, []⟩, false) \/ ∃ T : List Trip, b = .go (t.Network.Stops, t.Network.Lines, T) /\ T.length <= 40) := by
  intro T' h1 h2
  refine .nx ⟨k - 1, by omega, i + 1, by omega, jah (by omega), ⟨rfl, rfl⟩, by show T'.length <= _; omega, hinc2, fun x hx hc => ?_⟩
  have h3 := hc e (by rw [ja1 he]; simp)
  exact h2 x.Id (by omega) (hkeep x hx fun c hc2 => hc c (by rw [ja1 he]; simp [hc2]))
 rw [ye8 t hT.2, qb]
 have hX : Tot (if decide (0 <= fixI (fun x => x.Id == e.Trip.Id) t.Trips) = true then (idx t.Trips (fixI (fun x => x.Id == e.Trip.Id) t.Trips)).bind fun e6 => some ((e6.Id == e.Trip.Id) && ((e6.Line == e.Trip.Line) && ((e6.Start == e.Trip.Start) && true))) else some false) fun x => x = true -> Has T e.Trip.Id := by
  rcases yeb (l := t.Trips) (id := e.Trip.Id) with ⟨f1, f2⟩ | ⟨j, y, f1, f2, f3, _⟩
  ·rw [if_neg (by simp only [decide_eq_true_eq]; omega)]
   exact .ok fun h => (by cases h)
  ·rw [f1, if_pos (by simp only [decide_eq_true_eq]; omega), ixs f2, qb]
   refine .ok fun _ => ?_
   have := hkeep y (List.mem_of_getElem? f2) (fun c hc => by rw [f3]; exact hall c hc)
   rwa [f3] at this
 refine Tot.flb ?_
 refine .call hX fun x hx => ?_
 have c1 : ∃ b : Bool, (if (e.Kind == 1) = true then if decide (fixI (fun x => x.Id == e.Trip.Id) t.Trips < 0) = true then some (e.To == 0) else some false else some false) = some b := by split <;> (try split) <;> exact ⟨_, rfl⟩
 obtain ⟨b1, c1⟩ := c1
 rw [c1, qb]
 by_cases hb1 : b1 = true
 ·rw [if_pos hb1]
  obtain ⟨p, hp1, hp2⟩ := yhz hTT.2 e.Trip
  rw [ymo hTT hp1 hp2.1, qb]
  refine .ok ⟨fun r hr => (by cases hr), fun u hu => ?_⟩
  cases hu
  refine nxt _ (by rw [ymj hp2.1]; exact Nat.le_refl _) fun id _ ⟨y, hy, hid⟩ => ⟨y, ?_, hid⟩
  show y ∈ T.take p ++ [e.Trip] ++ T.drop p
  rw [<- List.take_append_drop p T, List.mem_append] at hy
  simp only [List.mem_append]
  rcases hy with hy | hy
  ·exact .inl (.inl hy)
  ·exact .inr hy
 rw [if_neg hb1]
 have c2 : ∃ b : Bool, (if (e.Kind == 2) = true then if x = true then some (e.To == 0) else some false else some false) = some b /\ (b = true -> x = true) := by
  split
  ·split
   ·exact ⟨_, rfl, fun _ => by assumption⟩
   ·exact ⟨_, rfl, fun h => by cases h⟩
  ·exact ⟨_, rfl, fun h => by cases h⟩
 obtain ⟨b2, c2, hb2x⟩ := c2
 rw [c2, qb]
 by_cases hb2 : b2 = true
 ·rw [if_pos hb2]
  obtain ⟨q, y, f1, f2, f3⟩ := yfh (t := ⟨t.Network, T⟩) hTT.2 (hx (hb2x hb2))
  have f2' : T[q]? = some y := f2
  have hq := jcb f2'
  rw [f1, qb, yqo hTT hq, qb]
  refine .ok ⟨fun r hr => (by cases hr), fun u hu => ?_⟩
  cases hu
  refine nxt _ (by show (T.take q ++ T.drop (q + 1)).length <= _; simp; omega) fun id hne ⟨z, hz, hid⟩ => ⟨z, ?_, hid⟩
  show z ∈ T.take q ++ T.drop (q + 1)
  rw [<- List.take_append_drop q T, List.mem_append, ycn f2', List.mem_cons] at hz
  rw [List.mem_append]
  rcases hz with hz | rfl | hz
  ·exact .inl hz
  ·exact absurd (hid.symm.trans f3) hne
  ·exact .inr hz
 rw [if_neg hb2]
 have c3 : ∃ b : Bool, (if (e.Kind == 3) = true then if x = true then some (e.To != e.Trip.Start) else some false else some false) = some b /\ (b = true -> x = true) := by
  split
  ·split
   ·exact ⟨_, rfl, fun _ => by assumption⟩
   ·exact ⟨_, rfl, fun h => by cases h⟩
  ·exact ⟨_, rfl, fun h => by cases h⟩
 obtain ⟨b3, c3, hb3x⟩ := c3
 rw [c3, qb]
 by_cases hb3 : b3 = true
 ·rw [if_pos hb3]
  obtain ⟨q, y, f1, f2, f3⟩ := yfh (t := ⟨t.Network, T⟩) hTT.2 (hx (hb3x hb3))
  have f2' : T[q]? = some y := f2
  have hq := jcb f2'
  rw [f1, qb, ixs f2', qb, qb, Int.toNat_natCast]
  refine .ok ⟨fun r hr => (by cases hr), fun u hu => ?_⟩
  cases hu
  refine nxt _ (by simp) fun id hne ⟨z, hz, hid⟩ => ?_
  obtain ⟨j, hj⟩ := List.mem_iff_getElem?.1 hz
  by_cases hjq : j = q
  ·subst hjq
   rw [f2'] at hj; cases hj
   exact ⟨⟨y.Id, y.Line, e.To⟩, List.mem_of_getElem? (show (T.set j _)[j]? = _ by rw [List.getElem?_set_self hq]), hid⟩
  ·exact ⟨z, List.mem_of_getElem? (show (T.set q _)[j]? = some z by rw [List.getElem?_set_ne (by omega)]; exact hj), hid⟩
 rw [if_neg hb3]
 exact .ok ⟨fun r hr => (by cases hr; exact ⟨fun a' e => (by cases e), fun b e => (by cases e; exact .inl rfl)⟩), fun u hu => (by cases hu)⟩
theorem yhu {t : Timetable} (n : Bd t.Network) {T : List Trip} (h : T.length <= 40) : TB ⟨⟨t.Network.Stops, t.Network.Lines⟩, T⟩ := ⟨n, by show T.length <= 1000; omega⟩
theorem ypv {t : Timetable} (hT : TB t) (h12 : t.Trips.length <= 12) (L : List Change) : Tot (zq56 t L) fun r => TB r.1 /\ r.1.Trips.length <= 40 := by
 unfold zq56
 refine .iteP (fun _ => .ok ⟨yd6, by simp⟩) (fun hL => ?_)
 rw [yd7 hT, qb]
 refine Tot.flb (Tot.mono (Tot.iter (ymv t L) (Q := fun b => b = .ret (⟨⟨[], []⟩, []⟩, false) \/ ∃ T : List Trip, b = .go (t.Network.Stops, t.Network.Lines, T) /\ T.length <= 40) (n := L.length) ⟨0, by omega, rfl, ⟨rfl, rfl⟩, by show t.Trips.length <= _; omega, by simp [IncC], fun x hx _ => ⟨x, hx, rfl⟩⟩ (fun k s h => yk5 hT h12 (by omega) k s h)) fun b hb => ?_)
 rcases hb with rfl | ⟨T, rfl, hl⟩
 ·exact ⟨fun r hr => (by cases hr; exact ⟨yd6, by simp⟩), fun u hu => (by cases hu)⟩
 ·refine ⟨fun r hr => (by cases hr), fun u hu => ?_⟩
  cases hu
  refine .eq (yb7 (yhu hT.1 hl)) (.iteN (fun _ => .ok ⟨yd6, by simp⟩) (fun _ => .ok ⟨yhu hT.1 hl, hl⟩))
theorem yii {k : Nat} {c : l1Cur} (h : Cur k c) (hk : k <= 10000000) {t : Timetable} (hd : DT t) : Tot (zq38 c t) fun r => Cur (k + 200) r.2 := by
 have h30 := hd.2
 unfold zq38
 refine .call (P := fun o => Cur (k + 120) ⟨o.1, o.2.1, ⟨o.2.2.1⟩⟩ /\ o.2.2.2.length <= 30) (.iter (fun m (s : Int × List UInt8 × Int × Int × List Change) => ∃ i : Nat, m + i = t.Trips.length /\ s.1 = (i : Int) /\ Cur (k + 4 * i) ⟨s.2.1, s.2.2.1, ⟨s.2.2.2.1⟩⟩ /\ s.2.2.2.2.length <= i) (n := t.Trips.length) ⟨0, by omega, rfl, h, by simp⟩ ?_) fun ⟨v7, v8, v9, x2⟩ ⟨hc, hx2⟩ => ?_
 ·rintro m ⟨i0, v, v1, v2, x⟩ ⟨i, hm, hi, hc, hx⟩
  dsimp only at hi hc hx
  subst hi
  unfold yfu
  dsimp only
  refine .iteP (fun hlt => ?_) (fun hge => .dn ⟨hc.mono (by omega), by show x.length <= 30; omega⟩)
  refine .call (P := fun o => Cur (k + 4 * i + 4) ⟨o.1, o.2.1, ⟨o.2.2.1⟩⟩ /\ o.2.2.2.length <= i + 1) (.idx (by omega) hlt fun e _ => .call (ybk 6 hc (by omega)) fun r ⟨hr, _⟩ => .ite (fun _ => .chk (by simp; omega) (.ok ⟨hr.mono (by omega), by simp; omega⟩)) (fun _ => ?_)) fun ⟨v3, v4, v5, x1⟩ ⟨p1, p2⟩ => .nx ⟨m - 1, by omega, i + 1, by omega, jah (by omega), p1.mono (by omega), p2⟩
  have hb : ∃ b : Bool, (if (r.1 == 1) = true then some (r.1 == 1) else some (r.1 == 2)) = some b := by split <;> exact ⟨_, rfl⟩
  obtain ⟨b, hb⟩ := hb
  refine .eq hb (.ite (fun _ => .call (ymh _ (by simp) hr (by omega)) fun r2 ⟨hr2, _⟩ => .chk (by simp; omega) (.ok ⟨hr2.mono (by omega), by simp; omega⟩)) (fun _ => .ok ⟨hr.mono (by omega), by show x.length <= i + 1; omega⟩))
 ·dsimp only at hc hx2 ⊢
  refine .call (P := fun o => Cur (k + 130) ⟨o.1, o.2.1, ⟨o.2.2.1⟩⟩) (.call (yko 2 hc (by omega)) fun r3 hr3 => .ite (fun _ => .call (ybk 9 hr3 (by omega)) fun r4 ⟨hr4, _⟩ => .call (ybk 9 hr4 (by omega)) fun r5 ⟨hr5, _⟩ => .chk (by simp; omega) (.ok (hr5.mono (by omega)))) (fun _ => .ok (hr3.mono (by omega)))) fun ⟨v10, v11, v12, x3⟩ hc2 => ?_
  dsimp only at hc2 ⊢
  refine .call (P := fun o => Cur (k + 180) ⟨o.1, o.2.1, ⟨o.2.2.1⟩⟩) (.call (P := fun o => Cur (k + 140) ⟨o.2.1, o.2.2.1, ⟨o.2.2.2⟩⟩ /\ (o.1 = true -> 0 < x3.length)) (.iteP (fun h0 => .call (yko 8 hc2 (by omega)) fun r6 hr6 => .ok ⟨hr6.mono (by omega), fun _ => by omega⟩) (fun _ => .ok ⟨hc2.mono (by omega), fun h => (by cases h)⟩)) fun ⟨v16, v17, v18, v19⟩ ⟨hc3, hpos⟩ => ?_) fun ⟨v13, v14, v15, x4⟩ hc4 => .ok (hc4.mono (by omega))
  dsimp only at hc3 hpos ⊢
  refine .ite (fun hv => ?_) (fun _ => .ok (hc3.mono (by omega)))
  have h0 := hpos hv
  refine .call (ybk _ hc3 (by omega)) fun r7 ⟨hr7, q0, q1⟩ => ?_
  have hlt : r7.1 < (x3.length : Int) := by omega
  refine .idx q0 hlt fun e1 _ => .call (P := fun o => Cur (k + 160) ⟨o.1, o.2.1, ⟨o.2.2.1⟩⟩) (.call (ybk 4 hr7 (by omega)) fun r8 ⟨hr8, _⟩ => .ite (fun _ => .call (ybk 5 hr8 (by omega)) fun r9 ⟨hr9, _⟩ => .ok (hr9.mono (by omega))) (fun _ => .ite (fun _ => .ok (hr8.mono (by omega))) (fun _ => .ite (fun _ => .call (yqg hr8 (by omega)) fun r10 hr10 => .ok (hr10.mono (by omega))) (fun _ => .call (ybk 4 hr8 (by omega)) fun r11 ⟨hr11, _⟩ => .ok (hr11.mono (by omega)))))) fun ⟨v20, v21, v22, v23, v24, v25, v26⟩ hc5 => .idx q0 hlt fun e2 _ => .ok (hc5.mono (by omega))
theorem yqt (code : List UInt8) : Tot (zq33 code) fun r => TB r.1 /\ TB r.2 := by
 have h0 := (cur0 code).mono (k' := 10) (by omega)
 unfold zq33
 refine .call (yd5 h0 (by omega)) fun r ⟨hc, hd⟩ => .eq (yb7 (t := r.1) hd.tb) (.iteN (fun _ => .call (yd5 hc (by omega)) fun r3 ⟨_, hd3⟩ => .ok ⟨hd.tb, hd3.tb⟩) (fun hg => ?_))
 have h12 := hg.2.1
 refine .call (yii hc (by omega) hd) fun r6 hc6 => .call (ypv hd.tb h12 r6.1) fun r7 ⟨h7, h7l⟩ => ?_
 refine .call (P := fun o => Cur 20000 ⟨o.2.1, o.2.2.1, ⟨o.2.2.2⟩⟩) (.ite (fun _ => .ok (hc6.mono (by omega))) (fun _ => .call (yko 12 hc6 (by omega)) fun r8 hr8 => .ok (hr8.mono (by omega)))) fun ⟨v, v1, v2, v3⟩ hc8 => ?_
 dsimp only at hc8 ⊢
 refine .ite (fun _ => .call (yd5 hc8 (by omega)) fun r10 ⟨_, hd10⟩ => .ok ⟨hd.tb, hd10.tb⟩) (fun _ => ?_)
 refine .call (P := fun l => l.length <= 1000) (.call (P := fun o => Cur 20010 ⟨o.2.1, o.2.2.1, ⟨o.2.2.2⟩⟩ /\ (o.1 = true -> 0 < r7.1.Trips.length)) (.iteP (fun h0 => .call (yko 12 hc8 (by omega)) fun r11 hr11 => .ok ⟨hr11.mono (by omega), fun _ => by omega⟩) (fun _ => .ok ⟨hc8.mono (by omega), fun h => (by cases h)⟩)) fun ⟨v5, v6, v7, v8⟩ ⟨hc9, hpos⟩ => ?_) fun l hl => .ok ⟨hd.tb, h7.1, hl⟩
 dsimp only at hc9 hpos ⊢
 refine .ite (fun hv => ?_) (fun _ => .ok (by omega))
 have h0 := hpos hv
 exact .idx (by decide) (by omega) fun e _ => .call (ybk _ hc9 (by omega)) fun r12 _ => .idx (by decide) (by omega) fun e1 _ => .ok (by rw [List.length_set]; omega)
theorem yid {l m : List Trip} (h : yaq l m) : yaq m l := fun x hx y hy e => (h y hy x hx e.symm).symm
theorem yqw (code : List UInt8) : ykb code = some (decide (65536 < (code.length : Int))) := rfl
theorem versions_true (code : List UInt8) : yao code = some true := by
 unfold yao
 refine Tot.val (.eq (yqw code) (.iteP (fun _ => .ok rfl) (fun _ => ?_)))
 refine .call (yqt code) fun ⟨a, b⟩ ⟨ha, hb⟩ => ?_
 dsimp only at ha hb ⊢
 rw [yms ha hb, qb, ymi ha hb, qb]
 by_cases h : DfP a b
 ·have e : dfR a b = (yab a.Trips b.Trips, true) := if_pos h
  obtain ⟨⟨ga, gb, hn⟩, hl, h24⟩ := h
  have hl2 := yid hl
  have hmi := yav a.Trips b.Trips hl
  have hmi2 := yav b.Trips a.Trips hl2
  have h24b : (yab b.Trips a.Trips).length <= 24 := by rw [<- hmi, List.length_map]; exact h24
  obtain ⟨v1, v2⟩ := ycv ha hb ga gb hn.symm hl h24
  obtain ⟨w1, w2⟩ := ycv hb ha gb ga hn hl2 h24b
  have i1 := ym6 (by omega) v1
  have i2 := ym6 (by omega) w1
  rw [hmi] at i1
  rw [hmi2] at i2
  rw [e]
  dsimp only
  rw [if_neg (by simp), ypl (yab a.Trips b.Trips) (by omega), qb, qb, if_neg (by simp), if_neg (by simp), v2, qb, i1, qb]
  dsimp only
  rw [w2, qb, i2, qb, if_pos rfl, ya3 hb, qb, if_pos rfl, if_pos rfl, if_pos rfl, ya3 ha, qb, if_pos rfl, if_pos rfl, ypl (yab a.Trips b.Trips) (by omega), qb, if_pos rfl, v1, qb, qb]
  exact .ok rfl
 ·have e : dfR a b = ([], false) := if_neg h
  rw [e]
  dsimp only
  rw [if_neg (by simp), ypl [] (by simp), qb, qb, if_neg (by simp), if_pos (by simp)]
  exact .ok rfl
end Go.Proofs.YtdocbkbpjdjlpaaGreatDoor
