/- The plain law: what the models compute, no program in sight. -/
import Derived.Test.YtimaoofeephgjaaGreatDoorTxM
import Derived.Test.YtimaoofeephgjaaGreatDoorAbTot
namespace Go.Proofs.YtimaoofeephgjaaGreatDoor
open Go Go.Ab
set_option maxHeartbeats 4000000
set_option linter.unusedVariables false
set_option linter.unusedSimpArgs false
def Cur (k : Nat) (c : l1Cur) : Prop := 0 ≤ c.at_ ∧ c.at_ ≤ k
theorem Cur.mono {k k' : Nat} {c : l1Cur} (h : Cur k c) (hk : k ≤ k') : Cur k' c := ⟨h.1, by have := h.2; omega⟩
theorem next_ok {k : Nat} {c : l1Cur} (h : Cur k c) (hk : k ≤ 4000000000) : ∃ r, zq45 c = some r ∧ Cur (k + 1) r.2 ∧ 0 ≤ r.1 ∧ r.1 ≤ 255 := by
 obtain ⟨h0, h1⟩ := h
 have hw : w64 (c.at_ + 1) = c.at_ + 1 := w64_id (by omega)
 have hcur : ∀ s, Cur (k + 1) ⟨c.code_, w64 (c.at_ + 1), s⟩ := fun s => by rw [hw]; exact ⟨by show 0 ≤ c.at_ + 1; omega, by show c.at_ + 1 ≤ _; omega⟩
 unfold zq45
 have hv : ∃ v, (if (decide (c.at_ < (c.code_.length : Int))) = true then (idx c.code_ c.at_).bind fun e1 => some (w64 ((e1.toNat : Int))) else some 0) = some v ∧ 0 ≤ v ∧ v ≤ 255 := by
  by_cases hlt : c.at_ < c.code_.length
  ·obtain ⟨x, hx, _, _⟩ := idx_lt h0 hlt
   have := x.toNat_lt
   refine ⟨(x.toNat : Int), ?_, by omega, by omega⟩
   simp only [hlt, decide_true, if_true, hx, Option.bind_some]
   rw [w64_id (by omega)]
  ·exact ⟨0, by simp [hlt], by omega, by omega⟩
 obtain ⟨v, hv, hv0, hv1⟩ := hv
 rw [hv]
 simp only [Option.bind_some]
 split
 ·exact ⟨_, rfl, hcur _, hv0, hv1⟩
 ·rw [chk_of (by omega)]
  exact ⟨_, rfl, hcur _, and255 _⟩
theorem pick_ok {k : Nat} {c : l1Cur} (n : Int) (h : Cur k c) (hk : k ≤ 3000000000) : ∃ r, zq49 c n = some r ∧ Cur (k + 2) r.2 ∧ 0 ≤ r.1 ∧ (r.1 < n ∨ r.1 = 0) := by
 unfold zq49
 by_cases hn : n ≤ 1
 ·exact ⟨(0, c), by simp [hn], h.mono (by omega), by simp, .inr rfl⟩
 ·obtain ⟨r, hr, hc, h0, h1⟩ := next_ok h (by omega)
  have hn' : decide (n ≤ 1) = false := by simpa using hn
  simp only [hn', Bool.false_eq_true, if_false, hr, Option.bind_some]
  have hne : chk (n ≠ 0) = some () := chk_of (by omega)
  by_cases h2 : 200 < n
  ·obtain ⟨r', hr', hc', h0', h1'⟩ := next_ok hc (by omega)
   have e1 : w64 (r.1 * 256) = r.1 * 256 := w64_id (by omega)
   have e2 : w64 (r.1 * 256 + r'.1) = r.1 * 256 + r'.1 := w64_id (by omega)
   have h3 := tmod_rng (a := r.1 * 256 + r'.1) (b := n) (by omega) (by omega)
   simp only [h2, decide_true, if_true, hr', Option.bind_some, hne, e1, e2]
   exact ⟨_, rfl, hc'.mono (by omega), h3.1, .inl h3.2⟩
  ·have h2' : decide (200 < n) = false := by simpa using h2
   have h3 := tmod_rng (a := r.1) (b := n) (by omega) (by omega)
   simp only [h2', Bool.false_eq_true, if_false, Option.bind_some, hne]
   exact ⟨_, rfl, hc.mono (by omega), h3.1, .inl h3.2⟩
theorem amongw_ok {k : Nat} {c : l1Cur} (l : List Int) (hl : l ≠ []) (h : Cur k c) (hk : k ≤ 3000000000) : ∃ r, zq38 c l = some r ∧ Cur (k + 2) r.2 ∧ r.1 ∈ l := by
 unfold zq38
 obtain ⟨r, hr, hc, h0, h1⟩ := pick_ok (l.length : Int) h hk
 have hpos : 0 < l.length := List.length_pos_iff.2 hl
 obtain ⟨x, hx, _, hm⟩ := idx_lt (l := l) h0 (by omega)
 simp only [hr, Option.bind_some, hx]
 exact ⟨_, rfl, hc, hm⟩
theorem among_ok {k : Nat} {c : l1Cur} (l : List Int) (hl : l ≠ []) (h : Cur k c) (hk : k ≤ 3000000000) : ∃ r, zq37 c l = some r ∧ Cur (k + 2) r.2 ∧ r.1 ∈ l := by
 have : zq37 c l = zq38 c l := rfl
 rw [this]; exact amongw_ok l hl h hk
theorem one_ok {k : Nat} {c : l1Cur} (n : Int) (h : Cur k c) (hk : k ≤ 3000000000) : ∃ r, zq48 c n = some r ∧ Cur (k + 2) r.2 := by
 unfold zq48
 obtain ⟨r, hr, hc, _, _⟩ := pick_ok n h hk
 simp only [hr, Option.bind_some]
 exact ⟨_, rfl, hc⟩
theorem of_ok {k : Nat} {c : l1Cur} (l : List ByteArray) (hl : l ≠ []) (h : Cur k c) (hk : k ≤ 3000000000) : ∃ r, zq46 c l = some r ∧ Cur (k + 2) r.2 ∧ r.1 ∈ l := by
 unfold zq46
 obtain ⟨r, hr, hc, h0, h1⟩ := pick_ok (l.length : Int) h hk
 have hpos : 0 < l.length := List.length_pos_iff.2 hl
 obtain ⟨x, hx, _, hm⟩ := idx_lt (l := l) h0 (by omega)
 simp only [hr, Option.bind_some, hx]
 exact ⟨_, rfl, hc, hm⟩
theorem ofw_ok {k : Nat} {c : l1Cur} (l : List ByteArray) (hl : l ≠ []) (h : Cur k c) (hk : k ≤ 3000000000) : ∃ r, zq47 c l = some r ∧ Cur (k + 2) r.2 ∧ r.1 ∈ l := by
 have : zq47 c l = zq46 c l := rfl
 rw [this]; exact of_ok l hl h hk
theorem cur0 (code : List UInt8) : Cur 0 ⟨code, 0, ⟨0⟩⟩ := ⟨by show (0 : Int) ≤ 0; omega, by show (0 : Int) ≤ _; omega⟩
def spl1 (c : UInt8) : List UInt8 → List (List UInt8)
 | [] => [[]]
 | x :: r => if x = c then [] :: spl1 c r else match spl1 c r with
  | [] => [[x]]
  | h :: t => (x :: h) :: t
theorem spl1_ne (c : UInt8) : ∀ l, spl1 c l ≠ []
 | [] => by simp [spl1]
 | x :: r => by
  unfold spl1
  split
  ·simp
  ·split <;> simp
theorem spl1_cons {c x : UInt8} {r : List UInt8} (h : x ≠ c) : ∃ a t, spl1 c r = a :: t ∧ spl1 c (x :: r) = (x :: a) :: t := by
 cases hs : spl1 c r with
 | nil => exact absurd hs (spl1_ne c r)
 | cons a t => exact ⟨a, t, rfl, by rw [spl1, if_neg h, hs]⟩
theorem index1_cons {c x : UInt8} {r : List UInt8} : Lib.index (x :: r) [c] = if x = c then 0 else if Lib.index r [c] = -1 then -1 else Lib.index r [c] + 1 := by
 rw [Lib.index]
 by_cases h : x = c
 ·subst h; simp
 ·have h1 : ([c] : List UInt8).isPrefixOf (x :: r) = false := by
   simp [List.isPrefixOf, Ne.symm h]
  rw [h1, if_neg h]
  simp only [Bool.false_eq_true, if_false, beq_iff_eq]
theorem splitK_spl1 (c : UInt8) : ∀ (l : List UInt8) (k : Nat), l.count c ≤ k → Lib.splitK [c] 0 k l = spl1 c l
 | [], k, _ => by
  cases k with
  | zero => rfl
  | succ k => rw [Lib.splitK]; simp [Lib.index, spl1]
 | x :: r, k, hk => by
  by_cases h : x = c
  ·subst h
   rw [List.count_cons_self] at hk
   cases k with
   | zero => omega
   | succ k =>
    have ih := splitK_spl1 x r k (by omega)
    rw [Lib.splitK, index1_cons, if_pos rfl, spl1, if_pos rfl]
    simpa using ih
  ·rw [List.count_cons_of_ne h] at hk
   have ih := splitK_spl1 c r k hk
   obtain ⟨a, t, h1, h2⟩ := spl1_cons (r := r) h
   rw [h2]
   cases k with
   | zero =>
    rw [Lib.splitK] at ih ⊢
    rw [h1] at ih
    cases ih; rfl
   | succ k =>
    rw [Lib.splitK, index1_cons, if_neg h]
    rw [Lib.splitK, h1] at ih
    by_cases hi : Lib.index r [c] = -1
    ·rw [if_pos (by rw [hi]; rfl)] at ih
     rw [if_pos hi]
     cases ih
     simp
    ·have hge := Lib.index_ge r [c]
     rw [if_neg (by simpa using hi)] at ih
     rw [if_neg hi, if_neg (by simp only [beq_iff_eq]; omega)]
     have e : (Lib.index r [c] + 1).toNat = (Lib.index r [c]).toNat + 1 := by omega
     rw [e]
     simp only [Nat.add_zero, List.length_cons, List.length_nil] at ih ⊢
     cases ih
     simp
theorem count1 (c : UInt8) (s : List UInt8) : Lib.count s [c] = s.count c := Lib.count_one c s
theorem splitB_one {s t : ByteArray} {c : UInt8} (h : t = ⟨#[c]⟩) : (Lib.splitB t 0 (Lib.countB s t) s).map (·.data.toList) = spl1 c s.data.toList := by
 subst h
 rw [Lib.splitB_data]
 exact splitK_spl1 c _ _ (by rw [show Lib.countB s ⟨#[c]⟩ = Lib.count s.data.toList [c] from rfl, count1]; exact Nat.le_refl _)
theorem join_spl1 (c : UInt8) : ∀ l, Lib.join (spl1 c l) [c] = l
 | [] => rfl
 | x :: r => by
  have ih := join_spl1 c r
  by_cases h : x = c
  ·subst h
   rw [spl1, if_pos rfl]
   cases hs : spl1 x r with
   | nil => exact absurd hs (spl1_ne x r)
   | cons a t =>
    rw [hs] at ih
    rw [Lib.join_cons] at ih ⊢
    simp only [Lib.joinTail, List.map_cons, List.flatten_cons, List.nil_append, List.singleton_append] at ih ⊢
    rw [List.cons_append, ih]
  ·obtain ⟨a, t, h1, h2⟩ := spl1_cons (r := r) h
   rw [h1, Lib.join_cons] at ih
   rw [h2, Lib.join_cons, List.cons_append, ih]
theorem spl1_app {c : UInt8} : ∀ {p : List UInt8}, c ∉ p → ∀ l, spl1 c (p ++ c :: l) = p :: spl1 c l
 | [], _, l => by rw [List.nil_append, spl1, if_pos rfl]
 | x :: p, hp, l => by
  simp only [List.mem_cons, not_or] at hp
  have ih := spl1_app hp.2 l
  rw [List.cons_append, spl1, if_neg (Ne.symm hp.1), ih]
theorem spl1_self {c : UInt8} : ∀ {p : List UInt8}, c ∉ p → spl1 c p = [p]
 | [], _ => rfl
 | x :: p, hp => by
  simp only [List.mem_cons, not_or] at hp
  rw [spl1, if_neg (Ne.symm hp.1), spl1_self hp.2]
theorem spl1_join {c : UInt8} : ∀ {l : List (List UInt8)}, l ≠ [] → (∀ p ∈ l, c ∉ p) → spl1 c (Lib.join l [c]) = l
 | [], h, _ => absurd rfl h
 | [p], _, hp => by rw [Lib.join_one]; exact spl1_self (hp p (List.mem_cons_self ..))
 | p :: q :: r, _, hp => by
  have ih := spl1_join (l := q :: r) (by simp) (fun x hx => hp x (List.mem_cons_of_mem _ hx))
  rw [Lib.join_cons] at ih ⊢
  have e : p ++ Lib.joinTail [c] (q :: r) = p ++ c :: (q ++ Lib.joinTail [c] r) := by simp [Lib.joinTail]
  rw [e, spl1_app (hp p (List.mem_cons_self ..)), ih]
theorem bsize (x : ByteArray) : x.data.toList.length = x.size := rfl
theorem tl_eq (x : ByteArray) : x.toList = x.data.toList := by
 have h : ∀ (n i : Nat) (r : List UInt8), x.size - i = n → ByteArray.toList.loop x i r = r.reverse ++ x.data.toList.drop i := by
  intro n
  induction n with
  | zero =>
   intro i r hn
   rw [ByteArray.toList.loop, if_neg (by omega), List.drop_of_length_le (by rw [bsize]; omega), List.append_nil]
  | succ n ih =>
   intro i r hn
   have hi : i < x.data.toList.length := by rw [bsize]; omega
   rw [ByteArray.toList.loop, if_pos (by omega), ih (i + 1) _ (by omega), List.drop_eq_getElem_cons hi]
   have : x.get! i = x.data.toList[i] := by
    have h2 : i < x.data.size := by simpa using hi
    show x.data[i]! = _
    rw [getElem!_pos x.data i h2]
    simp
   rw [this]
   simp
 show ByteArray.toList.loop x 0 [] = _
 rw [h _ 0 [] rfl]
 simp
theorem str_of (x : ByteArray) : x = str x.data.toList := rfl
theorem str_l (l : List UInt8) : (str l).data.toList = l := rfl
theorem str_t (l : List UInt8) : (str l).toList = l := tl_eq _
theorem str_s (l : List UInt8) : (str l).size = l.length := rfl
theorem str_app (a b : List UInt8) : str a ++ str b = str (a ++ b) := by
 apply ByteArray.ext; simp [str]
theorem str_ext (l : List UInt8) (i j : Nat) : (str l).extract i j = str ((l.take j).drop i) := by
 apply ByteArray.ext
 simp [str, List.drop_take]
theorem str_inj {a b : List UInt8} : str a = str b ↔ a = b := ⟨fun h => congrArg (fun x : ByteArray => x.data.toList) h, fun h => by rw [h]⟩
theorem getD_some {l : List UInt8} {i : Nat} {x : UInt8} (h : l[i]? = some x) : l.getD i 0 = x := by rw [List.getD_eq_getElem?_getD, h]; rfl
theorem beq_str (a b : List UInt8) : ((str a).toList == (str b).toList) = decide (a = b) := by
 rw [str_t, str_t]
 by_cases h : a = b <;> simp [h]
theorem all_loop {α : Type} (l : List α) (p : α → Prop) [DecidablePred p] {step : Int → Option (Lp Int (Fl Bool Unit))} (hl : l.length ≤ 4294967296) (b : Bool)
  (h1 : ∀ (i : Nat) x, l[i]? = some x → p x → step (i : Int) = some (.nx (w64 ((i : Int) + 1)))) (h2 : ∀ (i : Nat) x, l[i]? = some x → ¬ p x → step (i : Int) = some (.dn (.ret b)))
  (h3 : step (l.length : Int) = some (.dn (.go ()))) : iter step (0 : Int) = if (∀ x ∈ l, p x) then some (.go ()) else some (.ret b) := by
 have h : ∀ k i : Nat, k + i = l.length → (∀ x ∈ l.take i, p x) → iter step (i : Int) = if (∀ x ∈ l, p x) then some (.go ()) else some (.ret b) := by
  intro k
  induction k with
  | zero =>
   intro i hi hp
   have e : i = l.length := by omega
   subst e
   rw [List.take_length] at hp
   rw [iter_dn h3, if_pos hp]
  | succ k ih =>
   intro i hi hp
   obtain ⟨x, hx⟩ := get_ex (l := l) (i := i) (by omega)
   by_cases hpx : p x
   ·rw [iter_nx (h1 i x hx hpx), w64_succ (by omega)]
    refine ih (i + 1) (by omega) fun y hy => ?_
    rw [take_succ hx] at hy
    rcases List.mem_append.1 hy with hy | hy
    ·exact hp y hy
    ·simp at hy; subst hy; exact hpx
   ·rw [iter_dn (h2 i x hx hpx), if_neg (fun h => hpx (h x (List.mem_of_getElem? hx)))]
 exact h l.length 0 (by omega) (by simp)
def num (n : Nat) : List UInt8 := Lib.decDigits n
theorem num_dig : ∀ (n : Nat), ∀ b ∈ num n, 48 ≤ b.toNat ∧ b.toNat ≤ 57 := by
 intro n
 induction n using Nat.strongRecOn with
 | _ n ih =>
  intro b hb
  unfold num at hb ih
  rw [Lib.decDigits] at hb
  split at hb
  ·simp only [List.mem_singleton] at hb
   subst hb
   rw [UInt8.toNat_ofNat']; omega
  ·rcases List.mem_append.1 hb with hb | hb
   ·exact ih (n / 10) (by omega) b hb
   ·simp only [List.mem_singleton] at hb
    subst hb
    rw [UInt8.toNat_ofNat']; omega
theorem num_len {n : Nat} (h : n < 1000000) : 1 ≤ (num n).length ∧ (num n).length ≤ 6 := by
 unfold num
 rw [Lib.decDigits_length]
 have h1 : ∀ n : Nat, n < 10 → Lib.nDigits n = 1 := fun n h => Lib.nDigits_small h
 have h2 : ∀ n k : Nat, ¬ n < 10 → Lib.nDigits (n / 10) ≤ k → Lib.nDigits n ≤ k + 1 := fun n k h hk => by rw [Lib.nDigits_big h]; omega
 have key : ∀ (k n : Nat), n < 10 ^ (k + 1) → Lib.nDigits n ≤ k + 1 := by
  intro k
  induction k with
  | zero => intro n h; rw [h1 n (by simpa using h)]; omega
  | succ k ih =>
   intro n h
   by_cases h0 : n < 10
   ·rw [h1 n h0]; omega
   ·exact h2 n _ h0 (ih (n / 10) (by rw [Nat.pow_succ] at h; omega))
 exact ⟨Lib.nDigits_pos n, key 5 n (by simpa using h)⟩
theorem num_no {c : UInt8} (hc : c.toNat < 48 ∨ 57 < c.toNat) (n : Nat) : c ∉ num n := fun h => by
 have := num_dig n c h
 omega
theorem dd_big {u : Nat} (h : ¬ u < 10) : Lib.decDigits u = Lib.decDigits (u / 10) ++ [UInt8.ofNat (48 + u % 10)] := by
 rw [Lib.decDigits, dif_neg h]
theorem num_inj : ∀ {a b : Nat}, num a = num b → a = b := by
 intro a
 induction a using Nat.strongRecOn with
 | _ a ih =>
  intro b h
  unfold num at h ih
  have hl := congrArg List.length h
  rw [Lib.decDigits_length, Lib.decDigits_length] at hl
  by_cases ha : a < 10
  ·by_cases hb : b < 10
   ·rw [Lib.decDigits_one ha, Lib.decDigits_one hb] at h
    simp only [List.cons.injEq, and_true] at h
    have := congrArg UInt8.toNat h
    rw [UInt8.toNat_ofNat', UInt8.toNat_ofNat'] at this; omega
   ·rw [Lib.nDigits_small ha, Lib.nDigits_big hb] at hl
    have := Lib.nDigits_pos (b / 10); omega
  ·by_cases hb : b < 10
   ·rw [Lib.nDigits_small hb, Lib.nDigits_big ha] at hl
    have := Lib.nDigits_pos (a / 10); omega
   ·rw [dd_big ha, dd_big hb] at h
    rw [Lib.nDigits_big ha, Lib.nDigits_big hb] at hl
    obtain ⟨h1, h2⟩ := List.append_inj h (by rw [Lib.decDigits_length, Lib.decDigits_length]; omega)
    have h3 := ih (a / 10) (by omega) h1
    simp only [List.cons.injEq, and_true] at h2
    have := congrArg UInt8.toNat h2
    rw [UInt8.toNat_ofNat', UInt8.toNat_ofNat'] at this; omega
theorem dig_ext {n : Int} (h0 : 0 ≤ n) (h1 : n < 10) : (str [48, 49, 50, 51, 52, 53, 54, 55, 56, 57]).extract n.toNat (w64 (n + 1)).toNat = str [UInt8.ofNat (48 + n.toNat)] := by
 rw [w64_id (by omega)]
 have : n = 0 ∨ n = 1 ∨ n = 2 ∨ n = 3 ∨ n = 4 ∨ n = 5 ∨ n = 6 ∨ n = 7 ∨ n = 8 ∨ n = 9 := by omega
 rcases this with rfl | rfl | rfl | rfl | rfl | rfl | rfl | rfl | rfl | rfl <;> rw [str_ext] <;> rfl
theorem lnum_k : ∀ (d : Nat) (k : Nat) (n : Int), 0 ≤ n → n < 10 ^ (d + 1) → d ≤ 8 → d < k → zq53_k k n = some (str (num n.toNat))
 | d, k, n, h0, h1, hd, hk => by
  obtain ⟨k, rfl⟩ : ∃ j, k = j + 1 := ⟨k - 1, by omega⟩
  have hb : n < 1000000000 := by
   have h9 : (10 : Nat) ^ (d + 1) ≤ 10 ^ 9 := Nat.pow_le_pow_right (by decide) (by omega)
   have h10 : ((10 ^ (d + 1) : Nat) : Int) = (10 : Int) ^ (d + 1) := by simp
   omega
  show zq53_F (zq53_k k) n = _
  unfold zq53_F
  by_cases hn : n < 10
  ·have e2 : decide (n < 0) = false := decide_eq_false (by omega)
   simp only [e2, hn, decide_true, Bool.false_eq_true, if_false, if_true]
   rw [chk_of (by rw [w64_id (by omega)]; exact ⟨h0, by omega, by show n + 1 ≤ 10; omega⟩), Option.bind_some, dig_ext h0 hn]
   unfold num
   rw [Lib.decDigits_one (by omega)]
  ·match d, h1, hd, hk with
   | 0, h1, _, _ => simp at h1; omega
   | d + 1, h1, hd, hk =>
    have e2 : decide (n < 0) = false := decide_eq_false (by omega)
    have e3 : decide (n < 10) = false := decide_eq_false hn
    have et : n.tdiv 10 = n / 10 := Int.tdiv_eq_ediv_of_nonneg h0
    have em : n.tmod 10 = n % 10 := Int.tmod_eq_emod_of_nonneg h0
    have ew : w64 (n.tdiv 10) = n / 10 := by rw [et, w64_id (by omega)]
    have hr := lnum_k d k (n / 10) (by omega) (by rw [Int.pow_succ] at h1; omega) (by omega) (by omega)
    have hm0 : 0 ≤ n % 10 := by omega
    have hm1 : n % 10 < 10 := by omega
    simp only [e2, e3, Bool.false_eq_true, if_false, ew, hr, em]
    have c10 : chk ((10 : Int) ≠ 0) = some () := chk_of (by decide)
    simp only [c10, Option.bind_some]
    rw [chk_of (by rw [w64_id (by omega)]; exact ⟨hm0, by omega, by show n % 10 + 1 ≤ 10; omega⟩), Option.bind_some, dig_ext hm0 hm1]
    have hlen : (num (n / 10).toNat).length ≤ 100 := by
     unfold num
     rw [Lib.decDigits_length]
     have key : ∀ (k n : Nat), n < 10 ^ (k + 1) → Lib.nDigits n ≤ k + 1 := by
      intro k
      induction k with
      | zero => intro n h; rw [Lib.nDigits_small (by simpa using h)]; omega
      | succ k ih =>
       intro n h
       by_cases h0 : n < 10
       ·rw [Lib.nDigits_small h0]; omega
       ·rw [Lib.nDigits_big h0]
        have := ih (n / 10) (by rw [Nat.pow_succ] at h; omega)
        omega
     have := key 9 (n / 10).toNat (by omega)
     omega
    rw [chk_of (by rw [str_s, str_s]; simp; omega), Option.bind_some, str_app]
    unfold num
    rw [dd_big (u := n.toNat) (by omega)]
    have e5 : (n / 10).toNat = n.toNat / 10 := by omega
    have e6 : (n % 10).toNat = n.toNat % 10 := by omega
    rw [e5, e6]
theorem lnum_ok {n : Int} (h0 : 0 ≤ n) (h1 : n < 1000000) : zq53 n = some (str (num n.toNat)) := by
 unfold zq53
 exact lnum_k 5 4294967296 n h0 (by simpa using h1) (by omega) (by omega)
def sumF (i : Int) (b : UInt8) : Int := (41 * i + b.toNat + 1).tmod 999979
def sumL (l : List UInt8) : Int := l.foldl sumF 7
def tail (l : List UInt8) : List UInt8 := l ++ 35 :: num (sumL l).toNat
theorem itoa_n {n : Int} (h : 0 ≤ n) : Lib.itoa n = num n.toNat := by
 unfold Lib.itoa; rw [if_neg (by omega)]; rfl
theorem itoa_nat (n : Nat) : Lib.itoa (n : Int) = num n := by rw [itoa_n (by omega)]; rfl
theorem iItoa {n : Int} (h0 : -1000000 < n) (h1 : n < 1000000) : zq79 n = some (str (Lib.itoa n)) := by
 unfold zq79 itoaM
 rw [if_pos (by omega)]
 rfl
def valD (l : List UInt8) : Nat := l.foldl (fun a b => 10 * a + (b.toNat - 48)) 0
def Dig (b : UInt8) : Prop := 48 ≤ b.toNat ∧ b.toNat ≤ 57
def CanD (d : List UInt8) : Prop := d ≠ [] ∧ (∀ b ∈ d, Dig b) ∧ (2 ≤ d.length → d.head? ≠ some 48)
def NoDig (l : List UInt8) : Prop := ∀ b, l.head? = some b → ¬ Dig b
theorem valD_snoc (l : List UInt8) (b : UInt8) : valD (l ++ [b]) = 10 * valD l + (b.toNat - 48) := by unfold valD; simp
theorem valD_lt : ∀ (k : Nat) (l : List UInt8), l.length = k → (∀ b ∈ l, Dig b) → valD l < 10 ^ k := by
 intro k
 induction k with
 | zero => intro l hl _; have : l = [] := List.length_eq_zero_iff.1 hl; subst this; simp [valD]
 | succ k ih =>
  intro l hl hd
  obtain ⟨a, b, rfl⟩ : ∃ a b, l = a ++ [b] := ⟨l.dropLast, l.getLast (by intro e; simp [e] at hl), (List.dropLast_concat_getLast _).symm⟩
  have h1 := ih a (by simpa using hl) (fun x hx => hd x (List.mem_append_left _ hx))
  have h2 := hd b (by simp)
  rw [valD_snoc, Nat.pow_succ]
  have := h2.2
  omega
theorem num_val : ∀ (k : Nat) (d : List UInt8), d.length = k + 1 → (∀ b ∈ d, Dig b) → (2 ≤ d.length → d.head? ≠ some 48) → num (valD d) = d := by
 intro k
 induction k with
 | zero =>
  intro d hl hd _
  match d, hl with
  | [b], _ =>
   have h := hd b (by simp)
   have hv : valD [b] = b.toNat - 48 := by simp [valD]
   rw [hv]
   unfold num
   rw [Lib.decDigits_one (by have := h.2; omega)]
   congr 1
   rw [show 48 + (b.toNat - 48) = b.toNat by have := h.1; omega]
   exact UInt8.ofNat_toNat
 | succ k ih =>
  intro d hl hd hh
  obtain ⟨a, b, rfl⟩ : ∃ a b, d = a ++ [b] := ⟨d.dropLast, d.getLast (by intro e; simp [e] at hl), (List.dropLast_concat_getLast _).symm⟩
  have hal : a.length = k + 1 := by simpa using hl
  have hha : a.head? = (a ++ [b]).head? := by
   cases a with
   | nil => simp at hal
   | cons x a => rfl
  have hne : a.head? ≠ some 48 := by rw [hha]; exact hh (by simp; omega)
  have h1 := ih a hal (fun x hx => hd x (List.mem_append_left _ hx)) (fun _ => hne)
  have hb := hd b (by simp)
  have hpos : 1 ≤ valD a := by
   apply Classical.byContradiction
   intro hn
   have h0 : valD a = 0 := by omega
   rw [h0] at h1
   unfold num at h1
   rw [Lib.decDigits_one (by omega)] at h1
   rw [← h1] at hne
   exact hne rfl
  rw [valD_snoc]
  unfold num at h1 ⊢
  have h2 := hb.1; have h3 := hb.2
  rw [dd_big (by omega), show (10 * valD a + (b.toNat - 48)) / 10 = valD a by omega, show (10 * valD a + (b.toNat - 48)) % 10 = b.toNat - 48 by omega, h1]
  congr 2
  rw [show 48 + (b.toNat - 48) = b.toNat by omega]
  exact UInt8.ofNat_toNat
theorem num_head : ∀ (n : Nat), 10 ≤ n → (num n).head? ≠ some 48 := by
 intro n
 induction n using Nat.strongRecOn with
 | _ n ih =>
  intro hn
  unfold num at ih ⊢
  rw [dd_big (by omega)]
  by_cases h : n / 10 < 10
  ·rw [Lib.decDigits_one h]
   simp only [List.cons_append, List.head?_cons, ne_eq, Option.some.injEq]
   intro e
   have := congrArg UInt8.toNat e
   rw [UInt8.toNat_ofNat'] at this
   simp at this; omega
  ·have := ih (n / 10) (by omega) (by omega)
   have hp := Lib.nDigits_pos (n / 10)
   rw [← Lib.decDigits_length] at hp
   cases hd : Lib.decDigits (n / 10) with
   | nil => rw [hd] at hp; simp at hp
   | cons x r => rw [hd] at this; simpa using this
theorem num_can (n : Nat) : CanD (num n) := by
 refine ⟨?_, fun b hb => num_dig n b hb, fun h2 => ?_⟩
 ·intro e
  have hp := Lib.nDigits_pos n
  rw [← Lib.decDigits_length] at hp
  unfold num at e
  rw [e] at hp; simp at hp
 ·by_cases h : n < 10
  ·unfold num at h2
   rw [Lib.decDigits_one h] at h2; simp at h2
  ·exact num_head n (by omega)
theorem can_num {d : List UInt8} (h : CanD d) : num (valD d) = d := by
 have hp := List.length_pos_iff.2 h.1
 exact num_val (d.length - 1) d (by omega) h.2.1 h.2.2
theorem val_num (n : Nat) : valD (num n) = n := num_inj (can_num (num_can n))
theorem dig_inj : ∀ {a b x y : List UInt8}, (∀ c ∈ a, Dig c) → (∀ c ∈ b, Dig c) → NoDig x → NoDig y → a ++ x = b ++ y → a = b ∧ x = y
 | [], [], _, _, _, _, _, _, h => ⟨rfl, by simpa using h⟩
 | [], z :: b, x, y, _, hb, hx, _, h => by
  simp only [List.nil_append, List.cons_append] at h
  exact absurd (hb z (by simp)) (hx z (by rw [h]; rfl))
 | z :: a, [], x, y, ha, _, _, hy, h => by
  simp only [List.nil_append, List.cons_append] at h
  exact absurd (ha z (by simp)) (hy z (by rw [← h]; rfl))
 | z :: a, w :: b, x, y, ha, hb, hx, hy, h => by
  simp only [List.cons_append, List.cons.injEq] at h
  obtain ⟨h1, h2⟩ := dig_inj (fun c hc => ha c (List.mem_cons_of_mem _ hc)) (fun c hc => hb c (List.mem_cons_of_mem _ hc)) hx hy h.2
  exact ⟨by rw [h.1, h1], h2⟩
theorem natural_ok (s : List UInt8) (hs : s.length ≤ 2000000) :
  Tot (zq23 (str s)) fun r => (r.2.2 = true → ∃ (n : Nat) (rest : List UInt8), n < 1000000 ∧ s = num n ++ rest ∧ NoDig rest ∧ r.1 = (n : Int) ∧ r.2.1 = str rest) ∧ (∀ (n : Nat) rest, n < 1000000 → s = num n ++ rest → NoDig rest → r = ((n : Int), str rest, true)) := by
 have hl : Tot (iter (zq23_L1 (str s)) ((0 : Int), (0 : Int))) fun r =>
   (∃ n : Nat, n ≤ 6 ∧ n ≤ s.length ∧ r = .go ((valD (s.take n) : Int), (n : Int)) ∧ (∀ b ∈ s.take n, Dig b) ∧ NoDig (s.drop n) ∧ (2 ≤ n → s.head? ≠ some 48)) ∨
   (r = .ret (0, str [], false) ∧ ∃ n : Nat, (∀ b ∈ s.take (n + 1), Dig b) ∧ n + 1 ≤ s.length ∧ (n = 6 ∨ n = 1 ∧ s.head? = some 48)) := by
  refine Tot.iter (fun k a => ∃ n : Nat, k + n = s.length ∧ n ≤ 6 ∧ a = ((valD (s.take n) : Int), (n : Int)) ∧ (∀ b ∈ s.take n, Dig b) ∧ (2 ≤ n → s.head? ≠ some 48)) (n := s.length) ⟨0, rfl, by omega, rfl, by simp, by omega⟩ ?_
  rintro k _ ⟨n, hk, hn6, rfl, hd, hh⟩
  have hvl : valD (s.take n) < 10 ^ n := valD_lt n _ (by simp; omega) hd
  have hv6 : valD (s.take n) < 1000000 := Nat.lt_of_lt_of_le hvl (Nat.pow_le_pow_right (by omega) hn6)
  unfold zq23_L1
  dsimp only
  rw [str_s, str_l, show (n : Int).toNat = n by omega]
  refine .call (P := fun b => b = true ↔ ∃ x, s[n]? = some x ∧ Dig x) (.iteP (fun hlt => ?_) (fun hge => .ok ?_)) fun b hb => .ite (fun h => ?_) (fun h => .dn (.inl ⟨n, hn6, by omega, rfl, hd, fun b' hb' => ?_, hh⟩))
  ·obtain ⟨x, hx⟩ := get_ex (l := s) (i := n) (by omega)
   rw [getD_some hx]
   refine .chk ⟨by omega, by omega⟩ (.iteP (fun h1 => .chk ⟨by omega, by omega⟩ (.ok ?_)) (fun h1 => .ok ?_))
   ·rw [decide_eq_true_eq]
    constructor
    ·intro h2; exact ⟨x, hx, by omega, by omega⟩
    ·rintro ⟨y, hy, h2⟩; rw [hx] at hy; cases hy; have := h2.2; omega
   ·constructor
    ·intro h2; cases h2
    ·rintro ⟨y, hy, h2⟩; rw [hx] at hy; cases hy; have := h2.1; omega
  ·constructor
   ·intro h2; cases h2
   ·rintro ⟨y, hy, h2⟩; have := get_lt hy; omega
  ·obtain ⟨x, hx, hdx⟩ := hb.1 h
   have hlt := get_lt hx
   have hd1 : ∀ b ∈ s.take (n + 1), Dig b := fun b hb' => by
    rw [take_succ hx] at hb'
    rcases List.mem_append.1 hb' with hb' | hb'
    ·exact hd b hb'
    ·simp at hb'; subst hb'; exact hdx
   refine .call (P := fun v => v = true ↔ (n = 6 ∨ n = 1 ∧ valD (s.take n) = 0)) (.ite (fun h1 => .ok ?_) (fun h1 => .ite (fun h2 => .ok ?_) (fun h2 => .ok ?_))) fun v hv => .ite (fun h3 => .dn (.inr ⟨rfl, n, hd1, by omega, ?_⟩)) (fun h3 => ?_)
   ·have := eq_of_beq h1; simp only [true_iff]; omega
   ·have e1 : n = 1 := by have := eq_of_beq h2; omega
    simp only [beq_iff_eq, e1, true_and]
    constructor
    ·intro h; right; omega
    ·intro h; omega
   ·have e1 : ¬ n = 6 := fun e => by rw [e] at h1; simp at h1
    have e2 : ¬ n = 1 := fun e => by rw [e] at h2; simp at h2
    simp [e1, e2]
   ·rcases hv.1 h3 with h4 | ⟨h4, h5⟩
    ·exact .inl h4
    ·right
     refine ⟨h4, ?_⟩
     subst h4
     match s, hlt with
     | z :: r, _ =>
      have hz := hd z (by simp)
      have : valD [z] = z.toNat - 48 := by simp [valD]
      simp only [List.take_succ_cons, List.take_zero] at h5
      rw [this] at h5
      have h6 := hz.1
      have : z = 48 := UInt8.toNat_inj.1 (by show z.toNat = 48; omega)
      rw [this]; rfl
   ·have hnv : ¬ (n = 6 ∨ n = 1 ∧ valD (s.take n) = 0) := fun hh => by have := hv.2 hh; rw [h3] at this; cases this
    rw [getD_some hx]
    have h6 := hdx.1; have h7 := hdx.2
    refine .chk ⟨by omega, by omega⟩ (.nx ⟨k - 1, by omega, n + 1, by omega, by omega, ?_, hd1, fun h2 => ?_⟩)
    ·rw [IntKind.wrap_u8, w64_id (x := (valD (s.take n) : Int) * 10) (by omega), w64_id (x := ((x.toNat : Int) - 48) % 256) (by omega), w64_id (by omega), w64_succ (by omega), take_succ hx, valD_snoc]
     refine Prod.ext ?_ rfl
     show (_ : Int) = _
     omega
    ·by_cases h8 : 2 ≤ n
     ·exact hh h8
     ·have e1 : n = 1 := by omega
      subst e1
      intro he
      apply hnv
      right
      refine ⟨rfl, ?_⟩
      match s, hlt, he with
      | z :: r, _, he =>
       simp only [List.head?_cons, Option.some.injEq] at he
       subst he
       rfl
  ·intro hdb
   have : s[n]? = some b' := by rw [← List.head?_drop]; exact hb'
   have := hb.2 ⟨b', this, hdb⟩
   rw [h] at this; cases this
 unfold zq23
 obtain ⟨r, hr, ⟨n, hn6, hnl, rfl, hd, hnd, hh⟩ | ⟨rfl, n, hd, hnl, hcase⟩⟩ := hl
 ·rw [hr]
  have hvl : valD (s.take n) < 10 ^ n := valD_lt n _ (by simp; omega) hd
  have hv6 : valD (s.take n) < 1000000 := Nat.lt_of_lt_of_le hvl (Nat.pow_le_pow_right (by omega) hn6)
  have hst : s = s.take n ++ s.drop n := (List.take_append_drop n s).symm
  have ee : (str s).extract (n : Int).toNat (str s).size = str (s.drop n) := by rw [str_ext, str_s, List.take_length]; rfl
  refine ⟨((valD (s.take n) : Int), str (s.drop n), decide (0 < n)), ?_, fun h => ?_, fun m rest hm he hn => ?_⟩
  ·show ((chk ((0 : Int) ≤ (n : Int) ∧ (n : Int) ≤ ((str s).size : Int))).bind _) = _
   rw [chk_of (by rw [str_s]; omega), Option.bind_some, ee]
   congr 3
   exact decide_eq_decide.2 (by omega)
  ·have h0 : 0 < n := of_decide_eq_true h
   have hc : CanD (s.take n) := ⟨by intro e; have := congrArg List.length e; rw [List.length_take, List.length_nil] at this; omega, hd, fun h2 => by
    have e1 : (s.take n).head? = s.head? := by
     cases s with
     | nil => simp at hnl; omega
     | cons z r => obtain ⟨m, rfl⟩ : ∃ m, n = m + 1 := ⟨n - 1, by omega⟩; rfl
    rw [e1]; exact hh (by simp at h2; omega)⟩
   exact ⟨_, s.drop n, hv6, by rw [can_num hc]; exact hst, hnd, rfl, rfl⟩
  ·rw [he] at hst
   obtain ⟨h1, h2⟩ := dig_inj (num_can m).2.1 (by rw [he] at hd; exact hd) hn (by rw [he] at hnd; exact hnd) hst
   rw [he, ← h1, ← h2, val_num]
   have h3 := congrArg List.length h1
   have h4 := (num_len hm).1
   simp at h3
   rw [decide_eq_true (by omega)]
 ·rw [hr]
  refine ⟨(0, str [], false), rfl, fun h => (by cases h), fun m rest hm he hn => ?_⟩
  exfalso
  have hml := num_len hm
  have hle : n + 1 ≤ (num m).length := by
   apply Classical.byContradiction
   intro hlt
   have e1 : s.take (n + 1) = num m ++ rest.take (n + 1 - (num m).length) := by rw [he, List.take_append, List.take_of_length_le (by omega)]
   have hln := congrArg List.length e1
   simp at hln
   cases rest with
   | nil => rw [he] at hnl; simp at hnl; omega
   | cons z r =>
    refine hn z rfl (hd z ?_)
    rw [e1]
    obtain ⟨j, hj⟩ : ∃ j, n + 1 - (num m).length = j + 1 := ⟨n - (num m).length, by omega⟩
    rw [hj]
    simp
  rcases hcase with h6 | ⟨h6, h7⟩
  ·omega
  ·have hc := (num_can m).2.2 (by omega)
   apply hc
   rw [← h7, he]
   cases hx : num m with
   | nil => rw [hx] at hle; simp at hle
   | cons z r => rfl
def InI (n : Int) : Prop := -1000000 < n ∧ n < 1000000
def PI (s : List UInt8) (r : Int × Bool) : Prop := (∃ n, InI n ∧ s = Lib.itoa n ∧ r = (n, true)) ∨ (r = (0, false) ∧ ¬ ∃ n, InI n ∧ s = Lib.itoa n)
theorem itoa_neg {n : Int} (h : n < 0) : Lib.itoa n = 45 :: num (-n).toNat := by
 unfold Lib.itoa
 rw [if_pos h, show n.natAbs = (-n).toNat by omega]; rfl
theorem num_first (n : Nat) : ∃ b r, num n = b :: r ∧ Dig b := by
 have hc := num_can n
 cases hx : num n with
 | nil => exact absurd hx hc.1
 | cons b r => exact ⟨b, r, rfl, hc.2.1 b (by rw [hx]; simp)⟩
theorem itoa_inj {a b : Int} (h : Lib.itoa a = Lib.itoa b) : a = b := by
 by_cases ha : a < 0
 ·rw [itoa_neg ha] at h
  by_cases hb : b < 0
  ·rw [itoa_neg hb] at h
   simp only [List.cons.injEq, true_and] at h
   have := num_inj h; omega
  ·rw [itoa_n (by omega)] at h
   obtain ⟨c, r, hc, hd⟩ := num_first b.toNat
   rw [hc] at h
   simp only [List.cons.injEq] at h
   have := hd.1; rw [← h.1] at this; simp at this
 ·rw [itoa_n (by omega)] at h
  by_cases hb : b < 0
  ·rw [itoa_neg hb] at h
   obtain ⟨c, r, hc, hd⟩ := num_first a.toNat
   rw [hc] at h
   simp only [List.cons.injEq] at h
   have := hd.1; rw [h.1] at this; simp at this
  ·rw [itoa_n (by omega)] at h
   have := num_inj h; omega
theorem cutp_ok (s : List UInt8) : zq83 (str s) (str [45]) = some (if s.head? = some 45 then (str (s.drop 1), true) else (str s, false)) := by
 unfold zq83 cutPrefixM Lib.trimPrefix Lib.hasPrefix
 rw [str_l, str_l]
 cases s with
 | nil => simp [List.isPrefixOf, str]
 | cons b r =>
  by_cases h : b = 45
  ·subst h; simp [List.isPrefixOf, str]
  ·simp [List.isPrefixOf, h, Ne.symm h, str]
theorem nodig_nil : NoDig [] := fun b hb => by cases hb
theorem ipi_ok (s : List UInt8) (hs : s.length ≤ 1500000) : Tot (zq5 (str s)) (PI s) := by
 unfold zq5
 rw [cutp_ok, Option.bind_some]
 have key : ∀ (t : List UInt8) (neg : Bool), t.length ≤ 1500000 → (∀ n, InI n → s = Lib.itoa n → (if neg = true then n < 0 else 0 ≤ n) ∧ t = num n.natAbs) → (∀ m : Nat, m < 1000000 → t = num m → (neg = true → m ≠ 0) → s = Lib.itoa (if neg = true then -(m : Int) else m)) →
   Tot ((zq23 (str t)).bind fun r1 => (if (!r1.2.2) = true then some true else if (!(r1.2.1.toList == (str []).toList)) = true then some true else if neg = true then some (r1.1 == 0) else some false).bind fun (v : Bool) =>
    if v = true then some ((0 : Int), false) else (if neg = true then some (w64 (0 - r1.1)) else some r1.1).bind fun (rest : Int) => some (rest, true)) (PI s) := by
  intro t neg ht h1 h2
  refine .call (natural_ok t (by omega)) fun ⟨v, rs, ok⟩ ⟨a1, a2⟩ => ?_
  dsimp only at a1 a2 ⊢
  have hno : ∀ n, InI n → s = Lib.itoa n → (v, rs, ok) = (((n.natAbs : Nat) : Int), str [], true) := by
   intro n hn he
   have h3 := h1 n hn he
   unfold InI at hn
   exact a2 n.natAbs [] (by omega) (by rw [h3.2, List.append_nil]) nodig_nil
  refine .call (P := fun b => b = true ↔ ¬ (ok = true ∧ rs = str [] ∧ (neg = true → v ≠ 0))) (.ite (fun h => .ok ?_) (fun h => ?_)) fun b hb => .ite (fun h => .ok (.inr ⟨rfl, fun ⟨n, hn, he⟩ => hb.1 h ?_⟩)) (fun h => ?_)
  ·simp only [true_iff]; intro hh; rw [hh.1] at h; simp at h
  ·have hok : ok = true := by cases ok <;> simp_all
   obtain ⟨l, hl⟩ : ∃ l, rs = str l := ⟨rs.data.toList, rfl⟩
   rw [hl, beq_str]
   refine .iteN (fun hne => .ok ?_) (fun he => ?_)
   ·simp only [true_iff]
    intro hh; exact hne (str_inj.1 hh.2.1)
   ·subst he
    cases neg
    ·simp only [Bool.false_eq_true, if_false]
     exact .ok (by simp [hok])
    ·simp only [if_true]
     refine .ok ?_
     by_cases h0 : v = 0
     ·simp [h0]
     ·simp [h0, hok]
  ·have h3 := hno n hn he
   simp only [Prod.mk.injEq] at h3
   refine ⟨h3.2.2, h3.2.1, fun hneg hv => ?_⟩
   have h4 := (h1 n hn he).1
   rw [if_pos hneg] at h4
   omega
  ·obtain ⟨b1, b2, b3⟩ : ok = true ∧ rs = str [] ∧ (neg = true → v ≠ 0) := Classical.byContradiction fun hn => by have := hb.2 hn; rw [h] at this; cases this
   obtain ⟨m, rest, m1, m2, m3, m4, m5⟩ := a1 b1
   rw [b2] at m5
   have := str_inj.1 m5
   subst this
   rw [List.append_nil] at m2
   subst m4
   have hsm := h2 m m1 m2 (fun hn h0 => b3 hn (by omega))
   cases neg
   ·simp only [Bool.false_eq_true, if_false, Option.bind_some]
    exact .ok (.inl ⟨m, by unfold InI; omega, by simpa using hsm, rfl⟩)
   ·simp only [if_true, Option.bind_some]
    refine .ok (.inl ⟨-(m : Int), by unfold InI; omega, by simpa using hsm, ?_⟩)
    rw [w64_id (by omega)]; simp
 by_cases hh : s.head? = some 45
 ·rw [if_pos hh]
  obtain ⟨r, rfl⟩ : ∃ r, s = 45 :: r := by
   cases s with
   | nil => cases hh
   | cons b r => simp only [List.head?_cons, Option.some.injEq] at hh; exact ⟨r, by rw [hh]⟩
  refine key r true (by simp at hs; omega) (fun n hn he => ?_) (fun m hm ht h0 => ?_)
  ·by_cases h0 : n < 0
   ·rw [itoa_neg h0] at he
    simp only [List.cons.injEq, true_and] at he
    exact ⟨by rw [if_pos rfl]; exact h0, by rw [he, show n.natAbs = (-n).toNat by omega]⟩
   ·exfalso
    rw [itoa_n (by omega)] at he
    obtain ⟨c, q, hc, hd⟩ := num_first n.toNat
    rw [hc] at he
    simp only [List.cons.injEq] at he
    have := hd.1; rw [← he.1] at this; simp at this
  ·have := h0 rfl
   rw [if_pos rfl, itoa_neg (by omega), ht]; simp
 ·rw [if_neg hh]
  refine key s false hs (fun n hn he => ?_) (fun m hm ht _ => ?_)
  ·by_cases h0 : n < 0
   ·rw [itoa_neg h0] at he; rw [he] at hh; exact absurd rfl hh
   ·rw [itoa_n (by omega)] at he
    exact ⟨by simp; omega, by rw [he, show n.natAbs = n.toNat by omega]⟩
  ·simp [ht, itoa_nat]
theorem within_eq (n lo hi : Int) : zq29 n lo hi = some (decide (lo ≤ n ∧ n ≤ hi)) := by
 unfold zq29
 by_cases h : lo ≤ n <;> simp [h]
theorem l1In_eq (n lo hi : Int) : zq52 n lo hi = some (decide (lo ≤ n ∧ n ≤ hi)) := by
 unfold zq52
 by_cases h : lo ≤ n <;> simp [h]
def ChOK (i : Nat) (c : UInt8) : Prop := (97 ≤ (c.toNat : Int) ∧ (c.toNat : Int) ≤ 122) ∨ (i ≠ 0 ∧ 48 ≤ (c.toNat : Int) ∧ (c.toNat : Int) ≤ 57)
def NameOK (s : ByteArray) : Prop := (1 ≤ s.size ∧ s.size ≤ 8) ∧ ∀ (i : Nat) c, s.data.toList[i]? = some c → ChOK i c
open Classical in
noncomputable instance (s : ByteArray) : Decidable (NameOK s) := Classical.propDecidable _
theorem size_list (s : ByteArray) : s.data.toList.length = s.size := by simp
theorem getD_of {α : Type} {l : List α} {i : Nat} {x d : α} (h : l[i]? = some x) : l.getD i d = x := by rw [List.getD_eq_getElem?_getD, h]; rfl
theorem isName_eq (s : ByteArray) : zq18 s = some (decide (NameOK s)) := by
 unfold zq18
 by_cases h1 : 1 ≤ s.size ∧ s.size ≤ 8
 ·have e1 : decide ((s.size : Int) < 1) = false := by simp; omega
  have e2 : decide (8 < (s.size : Int)) = false := by simp; omega
  simp only [e1, e2, Bool.false_eq_true, if_false, Option.bind_some]
  have hsz := size_list s
  have key := Go.Ab.all_loop s.data.toList ChOK (step := zq18_L1 s) ?_ ?_ 0 0 rfl (by omega)
  ·rcases key with ⟨g1, g2⟩ | ⟨g1, g2⟩
   ·rw [g1, flb_go]
    have : NameOK s := ⟨h1, fun i c hc => g2 i c (by omega) hc⟩
    simp [this]
   ·rw [g1, flb_ret]
    have : ¬ NameOK s := fun hn => g2 fun i c _ hc => hn.2 i c hc
    simp [this]
  ·intro i x hx
   have hi := (List.getElem?_eq_some_iff.1 hx).1
   have hg : s.data.toList.getD (i : Int).toNat 0 = x := by rw [Int.toNat_natCast]; exact getD_of hx
   have hc : chk ((0 : Int) ≤ (i : Int) ∧ (i : Int) < (s.size : Int)) = some () := chk_of (by omega)
   have hlt : decide ((i : Int) < (s.size : Int)) = true := by simp; omega
   unfold zq18_L1
   simp only [hlt, if_true, hc, hg, Option.bind_some, w64_succ (n := i) (by omega)]
   unfold ChOK
   by_cases a1 : (97 : Int) ≤ (x.toNat : Int)
   ·by_cases a2 : (x.toNat : Int) ≤ 122
    ·left; refine ⟨by simp [a1, a2], .inl ⟨a1, a2⟩⟩
    ·right
     refine ⟨?_, by omega⟩
     have b1 : decide ((x.toNat : Int) < 48) = false := by simp; omega
     have b2 : decide ((57 : Int) < (x.toNat : Int)) = true := by simp; omega
     have c1 : ¬ (x.toNat : Int) < 48 := by omega
     have c2 : (57 : Int) < (x.toNat : Int) := by omega
     by_cases hi0 : i = 0
     ·simp [a1, a2, hi0]
     ·have hi0' : ((i : Int) == 0) = false := by simp; omega
      simp [a1, a2, hi0', c1, c2]
   ·by_cases hi0 : i = 0
    ·right
     refine ⟨by simp [a1, hi0], by omega⟩
    ·have hi0' : ((i : Int) == 0) = false := by simp; omega
     by_cases b1 : (x.toNat : Int) < 48
     ·right
      refine ⟨by simp [a1, hi0', b1], by omega⟩
     ·by_cases b2 : (57 : Int) < (x.toNat : Int)
      ·right
       refine ⟨by simp [a1, hi0', b1, b2], by omega⟩
      ·left
       refine ⟨by simp [a1, hi0', b1, b2], .inr ⟨hi0, by omega, by omega⟩⟩
  ·unfold zq18_L1
   rw [hsz]
   simp
 ·have : ¬ NameOK s := fun h => h1 h.1
  have e : (if (decide ((s.size : Int) < 1)) = true then some true else some (decide (8 < (s.size : Int)))) = some true := by
   by_cases h2 : s.size < 1
   ·have : decide ((s.size : Int) < 1) = true := by simp; omega
    simp [this]
   ·have e1 : decide ((s.size : Int) < 1) = false := by simp; omega
    have e2 : decide (8 < (s.size : Int)) = true := by simp; omega
    simp [e1, e2]
  rw [e]
  simp [this]
theorem l2Name_eq (s : ByteArray) : zq62 s = some (decide (NameOK s)) := by
 unfold zq62
 rw [l1In_eq]
 simp only [Option.bind_some]
 by_cases h1 : 1 ≤ s.size ∧ s.size ≤ 8
 ·have e1 : decide ((1 : Int) ≤ (s.size : Int) ∧ (s.size : Int) ≤ 8) = true := by simp; omega
  have hsz := size_list s
  obtain ⟨x0, hx0⟩ := get_ex (l := s.data.toList) (i := 0) (by omega)
  have hg0 : s.data.toList.getD (0 : Int).toNat 0 = x0 := getD_of hx0
  have hc0 : chk ((0 : Int) ≤ 0 ∧ 0 < (s.size : Int)) = some () := chk_of (by omega)
  simp only [e1, Bool.not_true, Bool.false_eq_true, if_false, hc0, hg0, Option.bind_some]
  by_cases a0 : 97 ≤ (x0.toNat : Int) ∧ (x0.toNat : Int) ≤ 122
  ·have b1 : decide ((x0.toNat : Int) < 97) = false := by simp; omega
   have b2 : decide ((122 : Int) < (x0.toNat : Int)) = false := by simp; omega
   simp only [b1, b2, Bool.false_eq_true, if_false, Option.bind_some]
   have key := Go.Ab.all_loop s.data.toList ChOK (step := zq62_L1 s) ?_ ?_ 0 0 rfl (by omega)
   ·rcases key with ⟨g1, g2⟩ | ⟨g1, g2⟩
    ·rw [g1, flb_go]
     have : NameOK s := ⟨h1, fun i c hc => g2 i c (by omega) hc⟩
     simp [this]
    ·rw [g1, flb_ret]
     have : ¬ NameOK s := fun hn => g2 fun i c _ hc => hn.2 i c hc
     simp [this]
   ·intro i x hx
    have hi := (List.getElem?_eq_some_iff.1 hx).1
    have hg : s.data.toList.getD (i : Int).toNat 0 = x := by rw [Int.toNat_natCast]; exact getD_of hx
    have hc : chk ((0 : Int) ≤ (i : Int) ∧ (i : Int) < (s.size : Int)) = some () := chk_of (by omega)
    have hlt : decide ((i : Int) < (s.size : Int)) = true := by simp; omega
    have h0 : i = 0 → x = x0 := fun h => by subst h; rw [hx0] at hx; cases hx; rfl
    unfold zq62_L1
    simp only [hlt, if_true, hc, hg, Option.bind_some, w64_succ (n := i) (by omega)]
    unfold ChOK
    by_cases a1 : (x.toNat : Int) < 97
    ·have hi0 : i ≠ 0 := fun h => by have := h0 h; subst this; omega
     by_cases c1 : (x.toNat : Int) < 48
     ·right; refine ⟨by simp [a1, c1], by omega⟩
     ·by_cases c2 : (57 : Int) < (x.toNat : Int)
      ·right; refine ⟨by simp [a1, c1, c2], by omega⟩
      ·left; refine ⟨by simp [a1, c1, c2], .inr ⟨hi0, by omega, by omega⟩⟩
    ·by_cases a2 : (122 : Int) < (x.toNat : Int)
     ·right
      have c1 : ¬ (x.toNat : Int) < 48 := by omega
      have c2 : (57 : Int) < (x.toNat : Int) := by omega
      refine ⟨by simp [a1, a2, c1, c2], by omega⟩
     ·left; refine ⟨by simp [a1, a2], .inl ⟨by omega, by omega⟩⟩
   ·unfold zq62_L1
    rw [hsz]
    simp
  ·have : ¬ NameOK s := fun hn => by
    have := hn.2 0 x0 hx0
    unfold ChOK at this
    omega
   have e : (if (decide ((x0.toNat : Int) < 97)) = true then some true else some (decide ((122 : Int) < (x0.toNat : Int)))) = some true := by
    by_cases h2 : (x0.toNat : Int) < 97
    ·simp [h2]
    ·have : (122 : Int) < (x0.toNat : Int) := by omega
     simp [h2, this]
   rw [e]
   simp [this]
 ·have e1 : decide ((1 : Int) ≤ (s.size : Int) ∧ (s.size : Int) ≤ 8) = false := by simp; omega
  have : ¬ NameOK s := fun h => h1 h.1
  simp [e1, this]
theorem index_str_eq (l : List ByteArray) (hl : l.length ≤ 4000000000) (v : ByteArray) : zq78 l v = some (fixI (fun e => v.toList == e.toList) l) := by
 unfold zq78
 refine find_val l (fun e => v.toList == e.toList) (fun i x hx => ?_) (by unfold zq78_L1; simp)
 have hi := (List.getElem?_eq_some_iff.1 hx).1
 unfold zq78_L1
 have hlt : decide ((i : Int) < (l.length : Int)) = true := by simp; omega
 simp only [hlt, if_true, idx_nat, hx, Option.bind_some, w64_succ (n := i) (by omega)]
 split <;> rfl
theorem index_int_eq (l : List Int) (hl : l.length ≤ 4000000000) (v : Int) : zq77 l v = some (fixI (fun e => v == e) l) := by
 unfold zq77
 refine find_val l (fun e => v == e) (fun i x hx => ?_) (by unfold zq77_L1; simp)
 have hi := (List.getElem?_eq_some_iff.1 hx).1
 unfold zq77_L1
 have hlt : decide ((i : Int) < (l.length : Int)) = true := by simp; omega
 simp only [hlt, if_true, idx_nat, hx, Option.bind_some, w64_succ (n := i) (by omega)]
 split <;> rfl
theorem l2Place_eq (x : Line) (hl : x.Stops.length ≤ 4000000000) (v : Int) : zq65 x v = some (fixI (fun e => v == e) x.Stops) := by
 have hc : fixI (fun e => v == e) x.Stops = fixI (fun e => e == v) x.Stops := fixI_congr _ fun e => BEq.comm
 rw [hc]
 unfold zq65
 refine find_val x.Stops (fun e => e == v) (fun i y hx => ?_) (by unfold zq65_L1; simp)
 have hi := (List.getElem?_eq_some_iff.1 hx).1
 unfold zq65_L1
 have hlt : decide ((i : Int) < (x.Stops.length : Int)) = true := by simp; omega
 simp only [hlt, if_true, idx_nat, hx, Option.bind_some, w64_succ (n := i) (by omega)]
 split <;> rfl
theorem bl_comm (a b : List UInt8) : (a == b) = (b == a) := BEq.comm
theorem l2Find_eq (l : List ByteArray) (hl : l.length ≤ 4000000000) (v : ByteArray) : zq58 l v = some (fixI (fun e => v.toList == e.toList) l) := by
 rw [fixI_congr l (q := fun e => e.toList == v.toList) fun e => bl_comm _ _]
 unfold zq58
 refine find_val l (fun e => e.toList == v.toList) (fun i x hx => ?_) (by unfold zq58_L1; simp)
 have hi := (List.getElem?_eq_some_iff.1 hx).1
 unfold zq58_L1
 have hlt : decide ((i : Int) < (l.length : Int)) = true := by simp; omega
 simp only [hlt, if_true, idx_nat, hx, Option.bind_some, w64_succ (n := i) (by omega)]
 split <;> rfl
theorem l2LineNamed_eq (n : Network) (hl : n.Lines.length ≤ 4000000000) (v : ByteArray) : zq61 n v = some (fixI (fun e => v.toList == e.toList) (n.Lines.map (·.Name))) := by
 rw [fixI_map, fixI_congr n.Lines (q := fun e => e.Name.toList == v.toList) fun e => bl_comm _ _]
 unfold zq61
 refine find_val n.Lines (fun e => e.Name.toList == v.toList) (fun i x hx => ?_) (by unfold zq61_L1; simp)
 have hi := (List.getElem?_eq_some_iff.1 hx).1
 unfold zq61_L1
 have hlt : decide ((i : Int) < (n.Lines.length : Int)) = true := by simp; omega
 simp only [hlt, if_true, idx_nat, hx, Option.bind_some, w64_succ (n := i) (by omega)]
 split <;> rfl
def NamesP (l : List ByteArray) : Prop := ∀ (i : Nat) x, l[i]? = some x → NameOK x ∧ fixI (fun e => x.toList == e.toList) l = (i : Int)
def LineP (st : Nat) (x : Line) : Prop := (2 ≤ x.Stops.length ∧ x.Stops.length ≤ 6) ∧ (x.Runs.length : Int) = (x.Stops.length : Int) - 1 ∧
 (∀ (i : Nat) e, x.Stops[i]? = some e → (0 ≤ e ∧ e < (st : Int)) ∧ fixI (fun y => e == y) x.Stops = (i : Int)) ∧ ∀ (i : Nat) r, x.Runs[i]? = some r → 1 ≤ r ∧ r ≤ 60
def Good (n : Network) : Prop := (2 ≤ n.Stops.length ∧ n.Stops.length ≤ 8) ∧ (1 ≤ n.Lines.length ∧ n.Lines.length ≤ 5) ∧ NamesP n.Stops ∧ NamesP (n.Lines.map (·.Name)) ∧ ∀ (i : Nat) x, n.Lines[i]? = some x → LineP n.Stops.length x
noncomputable instance (l : List ByteArray) : Decidable (NamesP l) := Classical.propDecidable _
noncomputable instance (st : Nat) (x : Line) : Decidable (LineP st x) := Classical.propDecidable _
noncomputable instance (n : Network) : Decidable (Good n) := Classical.propDecidable _
def Bd (n : Network) : Prop := n.Stops.length ≤ 5000 ∧ n.Lines.length ≤ 5000 ∧ ∀ x ∈ n.Lines, x.Stops.length ≤ 5000 ∧ x.Runs.length ≤ 5000
theorem areNames_eq (l : List ByteArray) (hl : l.length ≤ 5000) : zq9 l = some (decide (NamesP l)) := by
 unfold zq9
 rw [all_val (hd := Classical.propDecidable _) l (fun i x => NameOK x ∧ fixI (fun e => x.toList == e.toList) l = (i : Int)) (fun i x hx => ?_) (by unfold zq9_L1; simp)]
 ·by_cases h : NamesP l
  ·rw [if_pos (show ∀ (i : Nat) x, l[i]? = some x → NameOK x ∧ fixI (fun e => x.toList == e.toList) l = (i : Int) from h)]; simp [h]
  ·rw [if_neg (show ¬ ∀ (i : Nat) x, l[i]? = some x → NameOK x ∧ fixI (fun e => x.toList == e.toList) l = (i : Int) from h)]; simp [h]
 ·have hi := (List.getElem?_eq_some_iff.1 hx).1
  unfold zq9_L1
  have hlt : decide ((i : Int) < (l.length : Int)) = true := by simp; omega
  simp only [hlt, if_true, idx_nat, hx, Option.bind_some, isName_eq, index_str_eq l (by omega), w64_succ (n := i) (by omega)]
  by_cases h1 : NameOK x
  ·by_cases h2 : fixI (fun e => x.toList == e.toList) l = (i : Int)
   ·left; simp [h1, h2]
   ·right; simp [h1, h2]
  ·right; simp [h1]
theorem lineNames_eq (n : Network) (hl : n.Lines.length ≤ 5000) : zq21 n = some (n.Lines.map (·.Name)) := by
 unfold zq21
 rw [chk_of (by omega)]
 simp only [Option.bind_some]
 rw [fill_loop (fun x : Line => x.Name) n.Lines _ (by simp) (fun i a x y ha hy hx => ?_) (fun a ha => ?_)]
 ·rfl
 ·have hi := (List.getElem?_eq_some_iff.1 hx).1
  unfold zq21_L1
  have hlt : decide ((i : Int) < (n.Lines.length : Int)) = true := by simp; omega
  simp only [hlt, if_true, idx_nat, hx, hy, Option.bind_some, w64_succ (n := i) (by omega), Int.toNat_natCast]
 ·unfold zq21_L1; simp
theorem isStop_eq (n : Network) (e : Int) : zq19 n e = some (decide (0 ≤ e ∧ e < (n.Stops.length : Int))) := by
 unfold zq19
 by_cases h : 0 ≤ e <;> simp [h]
theorem isLine_eq (n : Network) (e : Int) : zq17 n e = some (decide (0 ≤ e ∧ e < (n.Lines.length : Int))) := by
 unfold zq17
 by_cases h : 0 ≤ e <;> simp [h]
theorem isValidLine_eq (n : Network) (l : Line) (h1 : l.Stops.length ≤ 5000) (h2 : l.Runs.length ≤ 5000) : zq20 n l = some (decide (LineP n.Stops.length l)) := by
 unfold zq20
 rw [within_eq]
 have e0 : w64 ((l.Stops.length : Int) - 1) = (l.Stops.length : Int) - 1 := w64_id (by omega)
 simp only [Option.bind_some, e0]
 by_cases a1 : 2 ≤ l.Stops.length ∧ l.Stops.length ≤ 6
 ·have d1 : decide ((2 : Int) ≤ (l.Stops.length : Int) ∧ (l.Stops.length : Int) ≤ 6) = true := by simp; omega
  simp only [d1, Bool.not_true, Bool.false_eq_true, if_false]
  by_cases a2 : (l.Runs.length : Int) = (l.Stops.length : Int) - 1
  ·have d2 : ((l.Runs.length : Int) != (l.Stops.length : Int) - 1) = false := by simp [a2]
   simp only [d2, Option.bind_some, Bool.false_eq_true, if_false]
   rw [all_val (hd := Classical.propDecidable _) l.Stops (fun i e => (0 ≤ e ∧ e < (n.Stops.length : Int)) ∧ fixI (fun y => e == y) l.Stops = (i : Int)) (fun i x hx => ?_) (by unfold zq20_L1; simp)]
   ·rw [all_val (hd := Classical.propDecidable _) l.Runs (fun i r => 1 ≤ r ∧ r ≤ 60) (fun i x hx => ?_) (by unfold zq20_L2; simp)]
    ·by_cases b1 : ∀ (i : Nat) e, l.Stops[i]? = some e → (0 ≤ e ∧ e < (n.Stops.length : Int)) ∧ fixI (fun y => e == y) l.Stops = (i : Int)
     ·rw [if_pos b1]
      by_cases b2 : ∀ (i : Nat) r, l.Runs[i]? = some r → 1 ≤ r ∧ r ≤ 60
      ·rw [if_pos b2]
       have : LineP n.Stops.length l := ⟨a1, a2, b1, b2⟩
       simp [this]
      ·rw [if_neg b2]
       have : ¬ LineP n.Stops.length l := fun h => b2 h.2.2.2
       simp [this]
     ·rw [if_neg b1]
      have : ¬ LineP n.Stops.length l := fun h => b1 h.2.2.1
      simp [this]
    ·have hi := (List.getElem?_eq_some_iff.1 hx).1
     unfold zq20_L2
     have hlt : decide ((i : Int) < (l.Runs.length : Int)) = true := by simp; omega
     simp only [hlt, if_true, idx_nat, hx, Option.bind_some, within_eq, w64_succ (n := i) (by omega)]
     by_cases b : 1 ≤ x ∧ x ≤ 60
     ·left; simp [b]
     ·right; simp [b]
   ·have hi := (List.getElem?_eq_some_iff.1 hx).1
    unfold zq20_L1
    have hlt : decide ((i : Int) < (l.Stops.length : Int)) = true := by simp; omega
    simp only [hlt, if_true, idx_nat, hx, Option.bind_some, isStop_eq, index_int_eq l.Stops (by omega), w64_succ (n := i) (by omega)]
    by_cases b1 : 0 ≤ x ∧ x < (n.Stops.length : Int)
    ·by_cases b2 : fixI (fun y => x == y) l.Stops = (i : Int)
     ·left; simp [b1, b2]
     ·right; simp [b1, b2]
    ·right; simp [b1]
  ·have d2 : ((l.Runs.length : Int) != (l.Stops.length : Int) - 1) = true := by simp [a2]
   have : ¬ LineP n.Stops.length l := fun h => a2 h.2.1
   simp [d2, this]
 ·have d1 : decide ((2 : Int) ≤ (l.Stops.length : Int) ∧ (l.Stops.length : Int) ≤ 6) = false := by simp; omega
  have : ¬ LineP n.Stops.length l := fun h => a1 h.1
  simp [d1, this]
theorem l2Line_eq (l : Line) (st : Nat) (hst : st ≤ 5000) (h1 : l.Stops.length ≤ 5000) (h2 : l.Runs.length ≤ 5000) : zq60 l (st : Int) = some (decide (NameOK l.Name ∧ LineP st l)) := by
 unfold zq60
 rw [l2Name_eq]
 have e0 : w64 ((l.Stops.length : Int) - 1) = (l.Stops.length : Int) - 1 := w64_id (by omega)
 have e1 : w64 ((st : Int) - 1) = (st : Int) - 1 := w64_id (by omega)
 simp only [Option.bind_some, e0, l1In_eq]
 by_cases a0 : NameOK l.Name
 ·simp only [a0, decide_true, Bool.not_true, Bool.false_eq_true, if_false, true_and]
  by_cases a1 : 2 ≤ l.Stops.length ∧ l.Stops.length ≤ 6
  ·have d1 : decide ((2 : Int) ≤ (l.Stops.length : Int) ∧ (l.Stops.length : Int) ≤ 6) = true := by simp; omega
   simp only [d1, Bool.not_true, Bool.false_eq_true, if_false]
   by_cases a2 : (l.Runs.length : Int) = (l.Stops.length : Int) - 1
   ·have d2 : ((l.Runs.length : Int) != (l.Stops.length : Int) - 1) = false := by simp [a2]
    simp only [d2, Option.bind_some, Bool.false_eq_true, if_false]
    rw [all_val (hd := Classical.propDecidable _) l.Stops (fun i e => (0 ≤ e ∧ e < (st : Int)) ∧ fixI (fun y => e == y) l.Stops = (i : Int)) (fun i x hx => ?_) (by unfold zq60_L1; simp)]
    ·rw [all_val (hd := Classical.propDecidable _) l.Runs (fun i r => 1 ≤ r ∧ r ≤ 60) (fun i x hx => ?_) (by unfold zq60_L2; simp)]
     ·by_cases b1 : ∀ (i : Nat) e, l.Stops[i]? = some e → (0 ≤ e ∧ e < (st : Int)) ∧ fixI (fun y => e == y) l.Stops = (i : Int)
      ·rw [if_pos b1]
       by_cases b2 : ∀ (i : Nat) r, l.Runs[i]? = some r → 1 ≤ r ∧ r ≤ 60
       ·rw [if_pos b2]
        have : LineP st l := ⟨a1, a2, b1, b2⟩
        simp [this]
       ·rw [if_neg b2]
        have : ¬ LineP st l := fun h => b2 h.2.2.2
        simp [this]
      ·rw [if_neg b1]
       have : ¬ LineP st l := fun h => b1 h.2.2.1
       simp [this]
     ·have hi := (List.getElem?_eq_some_iff.1 hx).1
      unfold zq60_L2
      have hlt : decide ((i : Int) < (l.Runs.length : Int)) = true := by simp; omega
      simp only [hlt, if_true, idx_nat, hx, Option.bind_some, l1In_eq, w64_succ (n := i) (by omega)]
      by_cases b : 1 ≤ x ∧ x ≤ 60
      ·left; simp [b]
      ·right; simp [b]
    ·have hi := (List.getElem?_eq_some_iff.1 hx).1
     unfold zq60_L1
     have hlt : decide ((i : Int) < (l.Stops.length : Int)) = true := by simp; omega
     simp only [hlt, if_true, idx_nat, hx, Option.bind_some, l1In_eq, e1, l2Place_eq l (by omega), w64_succ (n := i) (by omega)]
     by_cases b1 : 0 ≤ x ∧ x < (st : Int)
     ·have d3 : decide (0 ≤ x ∧ x ≤ (st : Int) - 1) = true := by simp; omega
      by_cases b2 : fixI (fun y => x == y) l.Stops = (i : Int)
      ·left; simp only [d3]; simp [b1, b2]
      ·right; simp only [d3]; simp [b1, b2]
     ·have d3 : decide (0 ≤ x ∧ x ≤ (st : Int) - 1) = false := by simp; omega
      right; simp only [d3]; simp [b1]
   ·have d2 : ((l.Runs.length : Int) != (l.Stops.length : Int) - 1) = true := by simp [a2]
    have : ¬ LineP st l := fun h => a2 h.2.1
    simp [d2, this]
  ·have d1 : decide ((2 : Int) ≤ (l.Stops.length : Int) ∧ (l.Stops.length : Int) ≤ 6) = false := by simp; omega
   have : ¬ LineP st l := fun h => a1 h.1
   simp [d1, this]
 ·simp [a0]
theorem valid_eq (n : Network) (h : Bd n) : zq2 n = some (decide (Good n)) := by
 obtain ⟨h1, h2, h3⟩ := h
 unfold zq2
 simp only [within_eq, Option.bind_some, areNames_eq n.Stops h1, lineNames_eq n h2, areNames_eq (n.Lines.map (·.Name)) (by simpa using h2)]
 by_cases a1 : 2 ≤ n.Stops.length ∧ n.Stops.length ≤ 8
 ·have d1 : decide ((2 : Int) ≤ (n.Stops.length : Int) ∧ (n.Stops.length : Int) ≤ 8) = true := by simp; omega
  simp only [d1, Bool.not_true, Bool.false_eq_true, if_false]
  by_cases a2 : 1 ≤ n.Lines.length ∧ n.Lines.length ≤ 5
  ·have d2 : decide ((1 : Int) ≤ (n.Lines.length : Int) ∧ (n.Lines.length : Int) ≤ 5) = true := by simp; omega
   simp only [d2, Bool.not_true, Bool.false_eq_true, if_false]
   by_cases a3 : NamesP n.Stops
   ·simp only [a3, decide_true, Bool.not_true, Bool.false_eq_true, if_false]
    by_cases a4 : NamesP (n.Lines.map (·.Name))
    ·simp only [a4, decide_true, Bool.not_true, Option.bind_some, Bool.false_eq_true, if_false]
     rw [all_val (hd := Classical.propDecidable _) n.Lines (fun i x => LineP n.Stops.length x) (fun i x hx => ?_) (by unfold zq2_L1; simp)]
     ·by_cases b1 : ∀ (i : Nat) x, n.Lines[i]? = some x → LineP n.Stops.length x
      ·rw [if_pos b1]
       have : Good n := ⟨a1, a2, a3, a4, b1⟩
       simp [this]
      ·rw [if_neg b1]
       have : ¬ Good n := fun h => b1 h.2.2.2.2
       simp [this]
     ·have hi := (List.getElem?_eq_some_iff.1 hx).1
      obtain ⟨g1, g2⟩ := h3 x (List.mem_of_getElem? hx)
      unfold zq2_L1
      have hlt : decide ((i : Int) < (n.Lines.length : Int)) = true := by simp; omega
      simp only [hlt, if_true, idx_nat, hx, Option.bind_some, isValidLine_eq n x g1 g2, w64_succ (n := i) (by omega)]
      by_cases b : LineP n.Stops.length x
      ·left; simp [b]
      ·right; simp [b]
    ·have : ¬ Good n := fun h => a4 h.2.2.2.1
     simp [a4, this]
   ·have : ¬ Good n := fun h => a3 h.2.2.1
    simp [a3, this]
  ·have d2 : decide ((1 : Int) ≤ (n.Lines.length : Int) ∧ (n.Lines.length : Int) ≤ 5) = false := by simp; omega
   have : ¬ Good n := fun h => a2 h.2.1
   simp [d2, this]
 ·have d1 : decide ((2 : Int) ≤ (n.Stops.length : Int) ∧ (n.Stops.length : Int) ≤ 8) = false := by simp; omega
  have : ¬ Good n := fun h => a1 h.1
  simp [d1, this]
theorem good_eq (n : Network) (h : Bd n) : zq59 n = some (decide (Good n)) := by
 obtain ⟨h1, h2, h3⟩ := h
 unfold zq59
 simp only [l1In_eq, Option.bind_some]
 by_cases a1 : 2 ≤ n.Stops.length ∧ n.Stops.length ≤ 8
 ·have d1 : decide ((2 : Int) ≤ (n.Stops.length : Int) ∧ (n.Stops.length : Int) ≤ 8) = true := by simp; omega
  simp only [d1, Bool.not_true, Bool.false_eq_true, if_false]
  by_cases a2 : 1 ≤ n.Lines.length ∧ n.Lines.length ≤ 5
  ·have d2 : decide ((1 : Int) ≤ (n.Lines.length : Int) ∧ (n.Lines.length : Int) ≤ 5) = true := by simp; omega
   simp only [d2, Bool.not_true, Option.bind_some, Bool.false_eq_true, if_false]
   rw [all_val (hd := Classical.propDecidable _) n.Stops (fun i x => NameOK x ∧ fixI (fun e => x.toList == e.toList) n.Stops = (i : Int)) (fun i x hx => ?_) (by unfold zq59_L1; simp)]
   ·rw [all_val (hd := Classical.propDecidable _) n.Lines (fun i x => (NameOK x.Name ∧ LineP n.Stops.length x) ∧ fixI (fun e => x.Name.toList == e.toList) (n.Lines.map (·.Name)) = (i : Int)) (fun i x hx => ?_) (by unfold zq59_L2; simp)]
    ·by_cases b1 : NamesP n.Stops
     ·rw [if_pos (show ∀ (i : Nat) x, n.Stops[i]? = some x → NameOK x ∧ fixI (fun e => x.toList == e.toList) n.Stops = (i : Int) from b1)]
      by_cases b2 : ∀ (i : Nat) x, n.Lines[i]? = some x → (NameOK x.Name ∧ LineP n.Stops.length x) ∧ fixI (fun e => x.Name.toList == e.toList) (n.Lines.map (·.Name)) = (i : Int)
      ·rw [if_pos b2]
       have : Good n := ⟨a1, a2, b1, fun i y hy => by
        rw [List.getElem?_map] at hy
        obtain ⟨x, hx, rfl⟩ := Option.map_eq_some_iff.1 hy
        exact ⟨(b2 i x hx).1.1, (b2 i x hx).2⟩, fun i x hx => (b2 i x hx).1.2⟩
       simp [this]
      ·rw [if_neg b2]
       have : ¬ Good n := fun h => b2 fun i x hx => by
        have h4 := h.2.2.2.1 i x.Name (by rw [List.getElem?_map, hx]; rfl)
        exact ⟨⟨h4.1, h.2.2.2.2 i x hx⟩, h4.2⟩
       simp [this]
     ·rw [if_neg (show ¬ ∀ (i : Nat) x, n.Stops[i]? = some x → NameOK x ∧ fixI (fun e => x.toList == e.toList) n.Stops = (i : Int) from b1)]
      have : ¬ Good n := fun h => b1 h.2.2.1
      simp [this]
    ·have hi := (List.getElem?_eq_some_iff.1 hx).1
     obtain ⟨g1, g2⟩ := h3 x (List.mem_of_getElem? hx)
     unfold zq59_L2
     have hlt : decide ((i : Int) < (n.Lines.length : Int)) = true := by simp; omega
     simp only [hlt, if_true, idx_nat, hx, Option.bind_some, l2Line_eq x n.Stops.length h1 g1 g2, l2LineNamed_eq n (by omega), w64_succ (n := i) (by omega)]
     by_cases b1 : NameOK x.Name ∧ LineP n.Stops.length x
     ·by_cases b2 : fixI (fun e => x.Name.toList == e.toList) (n.Lines.map (·.Name)) = (i : Int)
      ·left; simp [b1, b2]
      ·right; simp [b1, b2]
     ·right; simp [b1]
   ·have hi := (List.getElem?_eq_some_iff.1 hx).1
    unfold zq59_L1
    have hlt : decide ((i : Int) < (n.Stops.length : Int)) = true := by simp; omega
    simp only [hlt, if_true, idx_nat, hx, Option.bind_some, l2Name_eq, l2Find_eq n.Stops (by omega), w64_succ (n := i) (by omega)]
    by_cases b1 : NameOK x
    ·by_cases b2 : fixI (fun e => x.toList == e.toList) n.Stops = (i : Int)
     ·left; simp [b1, b2]
     ·right; simp [b1, b2]
    ·right; simp [b1]
  ·have d2 : decide ((1 : Int) ≤ (n.Lines.length : Int) ∧ (n.Lines.length : Int) ≤ 5) = false := by simp; omega
   have : ¬ Good n := fun h => a2 h.2.1
   simp [d2, this]
 ·have d1 : decide ((2 : Int) ≤ (n.Stops.length : Int) ∧ (n.Stops.length : Int) ≤ 8) = false := by simp; omega
  have : ¬ Good n := fun h => a1 h.1
  simp [d1, this]
theorem l1Own_eq (l : List Int) (h : l.length ≤ 5000) : zq55 l = some l := by
 unfold zq55
 rw [chk_of (by simp; omega)]; rfl
theorem l2Own_eq (n : Network) (h : Bd n) : zq63 n = some n := by
 obtain ⟨h1, h2, h3⟩ := h
 unfold zq63
 rw [chk_of (by simp; omega)]
 simp only [Option.bind_some]
 rw [app_loop (fun x : Line => x) n.Lines (fun i a x ha hx => ?_) (fun a ha => ?_)]
 ·simp only [Option.bind_some, List.map_id', List.nil_append]
 ·have hi := (List.getElem?_eq_some_iff.1 hx).1
  obtain ⟨g1, g2⟩ := h3 x (List.mem_of_getElem? hx)
  unfold zq63_L1
  have hlt : decide ((i : Int) < (n.Lines.length : Int)) = true := by simp; omega
  have hch : ∀ y : Line, chk (a.length + ([y] : List Line).length ≤ 4294967296) = some () := fun y => chk_of (by simp; omega)
  simp only [hlt, if_true, idx_nat, hx, Option.bind_some, l1Own_eq _ g1, l1Own_eq _ g2, hch, w64_succ (n := i) (by omega)]
 ·unfold zq63_L1; simp
theorem l2Own_t_eq (n : Network) (h : Bd n) : zq64 n = some n := by
 have : zq64 n = zq63 n := rfl
 rw [this]; exact l2Own_eq n h
theorem l2Back_eq (s : List Int) (hs : s.length ≤ 5000) : zq56 s = some s.reverse := by
 unfold zq56
 have e0 : w64 ((s.length : Int) - 1) = (s.length : Int) - 1 := w64_id (by omega)
 rw [e0]
 have h := iter_rule (step := zq56_L1 s) (fun m a => ∃ j : Nat, a.1 = (s.length : Int) - 1 - j ∧ m + j = s.length ∧ a.2 = s.reverse.take j) (fun b => b = s.reverse) ?_ (k := s.length) (a := ((s.length : Int) - 1, [])) ⟨0, by simp, by omega, by simp⟩
 ·obtain ⟨b, hb, rfl⟩ := h
  rw [hb]; rfl
 rintro m ⟨v, i⟩ ⟨j, hv, hm, hi⟩
 simp only at hv hi
 subst hv
 by_cases hlt : j < s.length
 ·left
  have ev : (s.length : Int) - 1 - j = ((s.length - 1 - j : Nat) : Int) := by omega
  rw [ev]
  obtain ⟨e, he⟩ := get_ex (l := s) (i := s.length - 1 - j) (by omega)
  have hd : decide ((0 : Int) ≤ ((s.length - 1 - j : Nat) : Int)) = true := by simp
  have hlen : i.length = j := by rw [hi]; simp; omega
  have hch : chk (i.length + ([e] : List Int).length ≤ 4294967296) = some () := chk_of (by simp; omega)
  have ev2 : w64 (((s.length - 1 - j : Nat) : Int) - 1) = (s.length : Int) - 1 - ((j + 1 : Nat) : Int) := by rw [w64_id (by omega)]; omega
  refine ⟨((s.length : Int) - 1 - ((j + 1 : Nat) : Int), i ++ [e]), m - 1, ?_, by omega, j + 1, rfl, by omega, ?_⟩
  ·unfold zq56_L1
   simp only [hd, if_true, idx_nat, he, hch, Option.bind_some, ev2]
  ·show i ++ [e] = _
   rw [take_succ (x := e) (by rw [List.getElem?_reverse hlt]; exact he), hi]
 ·right
  have ej : j = s.length := by omega
  subst ej
  have hd : decide ((0 : Int) ≤ (s.length : Int) - 1 - (s.length : Int)) = false := by simp; omega
  refine ⟨i, by unfold zq56_L1; simp only [hd, Bool.false_eq_true, if_false], ?_⟩
  rw [hi, List.take_of_length_le (by simp)]
theorem l2BackF_eq (s : List Int) (hs : s.length ≤ 5000) : zq57 s = some s.reverse := l2Back_eq s hs
def LB (x : Line) : Prop := (2 ≤ x.Stops.length ∧ x.Stops.length ≤ 10) ∧ 1 ≤ x.Runs.length ∧ x.Runs.length ≤ 10
def NB (n : Network) : Prop := (2 ≤ n.Stops.length ∧ n.Stops.length ≤ 6) ∧ (1 ≤ n.Lines.length ∧ n.Lines.length ≤ 8) ∧ ∀ x ∈ n.Lines, LB x
theorem NB.bd {n : Network} (h : NB n) : Bd n := ⟨by have := h.1; omega, by have := h.2.1; omega, fun x hx => by have := h.2.2 x hx; unfold LB at this; omega⟩
theorem l1Num_ok (n : Int) (h0 : 0 ≤ n) (h1 : n < 10) : ∃ r, zq53 n = some r ∧ r.size ≤ 10 := by
 have e : zq53 n = zq53_F (zq53_k 4294967295) n := rfl
 rw [e]
 unfold zq53_F
 have d1 : decide (n < 0) = false := by simp; omega
 have d2 : decide (n < 10) = true := by simp; omega
 have e1 : w64 (n + 1) = n + 1 := w64_id (by omega)
 have hs : (str [48, 49, 50, 51, 52, 53, 54, 55, 56, 57]).size = 10 := rfl
 simp only [d1, d2, Bool.false_eq_true, if_false, if_true, e1, hs]
 rw [chk_of (by omega)]
 refine ⟨_, rfl, ?_⟩
 rw [ByteArray.size_extract, hs]
 omega
theorem line_ok {k : Nat} {c : l1Cur} (name : ByteArray) (stops : Int) (hs : 2 ≤ stops ∧ stops ≤ 5000) (h : Cur k c) (hk : k ≤ 1000000000) : ∃ r, zq41 c name stops = some r ∧ Cur (k + 40) r.2 ∧ LB r.1 := by
 unfold zq41
 obtain ⟨r, hr, hc, h0, h1⟩ := pick_ok stops h (by omega)
 obtain ⟨r1, hr1, hc1, h10, h11⟩ := pick_ok 3 hc (by omega)
 simp only [hr, hr1, Option.bind_some]
 have e1 : w64 (2 + r1.1) = ((2 + r1.1.toNat : Nat) : Int) := by rw [w64_id (by omega)]; omega
 rw [e1]
 have loop : ∃ b, iter (zq41_L1 name stops) (r.1, ((2 + r1.1.toNat : Nat) : Int), r1.2.code_, r1.2.at_, r1.2.seed_.v, []) = some b ∧ (Cur (k + 4 + 2 * 4) ⟨b.1, b.2.1, ⟨b.2.2.1⟩⟩ ∧ 1 ≤ b.2.2.2.length ∧ b.2.2.2.length ≤ 4) := by
  refine iter_rule (fun m a => (0 ≤ a.1 ∧ a.1 < stops) ∧ a.2.1 = (m : Int) ∧ m + a.2.2.2.2.2.length ≤ 4 ∧ (1 ≤ m ∨ 1 ≤ a.2.2.2.2.2.length) ∧ Cur (k + 4 + 2 * (4 - m)) ⟨a.2.2.1, a.2.2.2.1, ⟨a.2.2.2.2.1⟩⟩) _ ?_ (k := 2 + r1.1.toNat) ⟨⟨h0, by show r.1 < stops; omega⟩, rfl, by simp; omega, .inl (by omega), hc1.mono (by omega)⟩
  rintro m ⟨v, v1, v2, v3, v4, v5⟩ ⟨hv, hv1, hl, hne, hcur⟩
  simp only at hv hv1 hl hne hcur
  subst hv1
  unfold zq41_L1
  cases m with
  | zero => right; exact ⟨_, by simp; rfl, hcur, by show 1 ≤ v5.length; omega, by show v5.length ≤ 4; omega⟩
  | succ m =>
   left
   have hpos : decide ((0 : Int) < ((m + 1 : Nat) : Int)) = true := by simp
   obtain ⟨r3, hr3, hc3, h30, h31⟩ := pick_ok 2 hcur (by omega)
   have hpl := l2Place_eq (⟨name, v5, []⟩ : Line) (by show v5.length ≤ _; omega) v
   have hch : chk (v5.length + ([v] : List Int).length ≤ 4294967296) = some () := chk_of (by simp; omega)
   have hne0 : chk (stops ≠ 0) = some () := chk_of (by omega)
   have w1 : w64 (v + 1) = v + 1 := w64_id (by omega)
   have w2 : w64 (v + 1 + r3.1) = v + 1 + r3.1 := w64_id (by omega)
   have ht := tmod_rng (a := v + 1 + r3.1) (b := stops) (by omega) (by omega)
   simp only [hpos, if_true, hpl, hch, hr3, hne0, w1, w2, Option.bind_some]
   have w3 : w64 (((m + 1 : Nat) : Int) - 1) = (m : Int) := w64_pred (by omega)
   split
   ·refine ⟨_, m, by simp only [Option.bind_some]; rfl, by omega, ht, w3, ?_, .inr ?_, ?_⟩
    ·simp; omega
    ·simp
    ·exact hc3.mono (by omega)
   ·rename_i hn
    refine ⟨_, m, by simp only [Option.bind_some]; rfl, by omega, ht, w3, ?_, .inr ?_, ?_⟩
    ·show m + v5.length ≤ 4; omega
    ·show 1 ≤ v5.length
     cases v5 with
     | nil => simp [fixI] at hn
     | cons a l => simp
    ·exact hc3.mono (by omega)
 obtain ⟨⟨v7, v8, v9, v10⟩, hb, hcb, hlb⟩ := loop
 simp only at hcb hlb
 rw [hb]
 simp only [Option.bind_some]
 -- at least two stops
 have two : ∃ v11 : List Int, (if decide ((v10.length : Int) < 2) = true then (idx v10 0).bind fun e1 => (chk ((stops : Int) ≠ 0)).bind fun u4 => (chk (v10.length + ([((w64 (e1 + 1)).tmod stops)] : List Int).length ≤ 4294967296)).bind fun u5 => some (v10 ++ ([((w64 (e1 + 1)).tmod stops)] : List Int)) else some v10) = some v11 ∧ 2 ≤ v11.length ∧ v11.length ≤ 5 := by
  by_cases h2 : (v10.length : Int) < 2
  ·obtain ⟨e, he, _⟩ := idx_lt (l := v10) (i := 0) (by omega) (by omega)
   have hch : ∀ y : Int, chk (v10.length + ([y] : List Int).length ≤ 4294967296) = some () := fun y => chk_of (by simp; omega)
   have hne0 : chk (stops ≠ 0) = some () := chk_of (by omega)
   refine ⟨v10 ++ [(w64 (e + 1)).tmod stops], by simp only [h2, decide_true, if_true, he, hne0, hch, Option.bind_some], ?_, ?_⟩
   ·simp; omega
   ·simp; omega
  ·exact ⟨v10, by simp [h2], by omega, by omega⟩
 obtain ⟨v11, hv11, l1, l2⟩ := two
 rw [hv11]
 simp only [Option.bind_some]
 have loop2 : ∃ b, iter (zq41_L2 v11) (1, v7, v8, v9, []) = some b ∧ (Cur (k + 40) ⟨b.1, b.2.1, ⟨b.2.2.1⟩⟩ ∧ b.2.2.2.length + 1 = v11.length) := by
  refine iter_rule (fun m a => ∃ i : Nat, a.1 = (i : Int) ∧ m + i = v11.length ∧ a.2.2.2.2.length + 1 = i ∧ Cur (k + 12 + 2 * i) ⟨a.2.1, a.2.2.1, ⟨a.2.2.2.1⟩⟩) _ ?_ (k := v11.length - 1) ⟨1, rfl, by omega, rfl, hcb.mono (by omega)⟩
  rintro m ⟨v12, v13, v14, v15, v16⟩ ⟨i, hi, hm, hl, hcur⟩
  simp only at hi hl hcur
  subst hi
  unfold zq41_L2
  by_cases hlt : i < v11.length
  ·left
   have hd : decide ((i : Int) < (v11.length : Int)) = true := by simp; omega
   obtain ⟨r5, hr5, hc5, _⟩ := pick_ok 12 hcur (by omega)
   have hch : ∀ y : Int, chk (v16.length + ([y] : List Int).length ≤ 4294967296) = some () := fun y => chk_of (by simp; omega)
   refine ⟨_, m - 1, by simp only [hd, if_true, hr5, hch, Option.bind_some, w64_succ (n := i) (by omega)]; rfl, by omega, i + 1, rfl, by omega, ?_, ?_⟩
   ·simp; omega
   ·exact hc5.mono (by omega)
  ·right
   have hd : decide ((i : Int) < (v11.length : Int)) = false := by simp; omega
   refine ⟨_, by simp only [hd, Bool.false_eq_true, if_false]; rfl, ?_, ?_⟩
   ·exact hcur.mono (by omega)
   ·show v16.length + 1 = _; omega
 obtain ⟨⟨v17, v18, v19, v20⟩, hb2, hcb2, hl2⟩ := loop2
 simp only at hcb2 hl2
 rw [hb2]
 simp only [Option.bind_some]
 exact ⟨_, rfl, hcb2, ⟨l1, by show v11.length ≤ 10; omega⟩, by show 1 ≤ v20.length; omega, by show v20.length ≤ 10; omega⟩
theorem lineF_ok {k : Nat} {c : l1Cur} (name : ByteArray) (stops : Int) (hs : 2 ≤ stops ∧ stops ≤ 5000) (h : Cur k c) (hk : k ≤ 1000000000) : ∃ r, zq42 c name stops = some r ∧ Cur (k + 40) r.2 ∧ LB r.1 := line_ok name stops hs h hk
theorem six_len (i : Nat) (h2 : 2 ≤ i) (h6 : i ≤ 6) (l : List ByteArray) (hl : l.length = 6) : 2 ≤ ((l.take i).drop (0 : Int).toNat).length ∧ ((l.take i).drop (0 : Int).toNat).length ≤ 6 := by
 simp; omega
theorem networkT_ok {k : Nat} {c : l1Cur} (h : Cur k c) (hk : k ≤ 500000000) : ∃ r, zq44 c = some r ∧ Cur (k + 300) r.2 ∧ NB r.1 := by
 unfold zq44
 obtain ⟨r, hr, hc, h0, h1⟩ := pick_ok 5 h (by omega)
 have e1 : w64 (2 + r.1) = 2 + r.1 := w64_id (by omega)
 have hsix : ([(str [112, 111, 114, 116]), (str [109, 105, 108, 108]), (str [112, 97, 114, 107]), (str [104, 97, 108, 108]), (str [100, 111, 99, 107]), (str [102, 97, 105, 114])] : List ByteArray).length = 6 := rfl
 simp only [hr, Option.bind_some, e1, hsix]
 rw [chk_of (by omega)]
 obtain ⟨r1, hr1, hc1, h10, h11⟩ := pick_ok 3 hc (by omega)
 have e2 : w64 (1 + r1.1) = ((1 + r1.1.toNat : Nat) : Int) := by rw [w64_id (by omega)]; omega
 simp only [hr1, Option.bind_some, e2]
 have loop : ∃ b, iter (zq44_L1 r) (((1 + r1.1.toNat : Nat) : Int), r1.2.code_, r1.2.at_, r1.2.seed_.v, []) = some b ∧ (Cur (k + 4 + 40 * 3) ⟨b.1, b.2.1, ⟨b.2.2.1⟩⟩ ∧ (1 ≤ b.2.2.2.length ∧ b.2.2.2.length ≤ 3) ∧ ∀ x ∈ b.2.2.2, LB x) := by
  refine iter_rule (fun m a => a.1 = (m : Int) ∧ m + a.2.2.2.2.length ≤ 3 ∧ 1 ≤ m + a.2.2.2.2.length ∧ (∀ x ∈ a.2.2.2.2, LB x) ∧ Cur (k + 4 + 40 * (3 - m)) ⟨a.2.1, a.2.2.1, ⟨a.2.2.2.1⟩⟩) _ ?_ (k := 1 + r1.1.toNat) ⟨rfl, by simp; omega, by simp, by simp, hc1.mono (by omega)⟩
  rintro m ⟨x, v, v1, v2, v3⟩ ⟨hx, hl, hl1, hlb, hcur⟩
  simp only at hx hl hl1 hlb hcur
  subst hx
  unfold zq44_L1
  cases m with
  | zero => right; exact ⟨_, by simp; rfl, hcur, ⟨by show 1 ≤ v3.length; omega, by show v3.length ≤ 3; omega⟩, hlb⟩
  | succ m =>
   left
   have hpos : decide ((0 : Int) < ((m + 1 : Nat) : Int)) = true := by simp
   obtain ⟨r4, hr4, hs4⟩ := l1Num_ok ((m + 1 : Nat) : Int) (by omega) (by omega)
   have hs : (str [108]).size = 1 := rfl
   have hch : chk ((str [108]).size + r4.size ≤ 4294967296) = some () := chk_of (by omega)
   obtain ⟨r5, hr5, hc5, hb5⟩ := lineF_ok (str [108] ++ r4) (2 + r.1) (by omega) hcur (by omega)
   have hch2 : ∀ y : Line, chk (v3.length + ([y] : List Line).length ≤ 4294967296) = some () := fun y => chk_of (by simp; omega)
   refine ⟨_, m, by simp only [hpos, if_true, hr4, hch, e1, hr5, hch2, Option.bind_some]; rfl, by omega, ?_, ?_, ?_, ?_, ?_⟩
   ·exact w64_pred (by omega)
   ·simp; omega
   ·simp; omega
   ·intro y hy
    rcases List.mem_append.1 hy with hy | hy
    ·exact hlb y hy
    ·simp at hy; subst hy; exact hb5
   ·exact hc5.mono (by omega)
 obtain ⟨⟨v4, v5, v6, v7⟩, hb, hcb, hlb, hall⟩ := loop
 simp only at hcb hlb hall
 rw [hb]
 simp only [Option.bind_some]
 obtain ⟨r6, hr6, hc6⟩ := one_ok 2 hcb (by omega)
 simp only [hr6, Option.bind_some]
 have fin : ∀ (v8 : List UInt8) (v9 v10 : Int) (v11 : List Line), Cur (k + 200) ⟨v8, v9, ⟨v10⟩⟩ → (1 ≤ v11.length ∧ v11.length ≤ 8) → (∀ x ∈ v11, LB x) →
   ∃ r', ((zq64 (⟨((([(str [112, 111, 114, 116]), (str [109, 105, 108, 108]), (str [112, 97, 114, 107]), (str [104, 97, 108, 108]), (str [100, 111, 99, 107]), (str [102, 97, 105, 114])] : List ByteArray).take (2 + r.1).toNat).drop (0 : Int).toNat), v11⟩ : Network)).bind fun r11 => some ((⟨r11.Stops, r11.Lines⟩ : Network), (⟨v8, v9, (⟨v10⟩ : IK .u64)⟩ : l1Cur))) = some r' ∧ Cur (k + 300) r'.2 ∧ NB r'.1 := by
  intro v8 v9 v10 v11 g1 g2 g3
  have hst := six_len (2 + r.1).toNat (by omega) (by omega) _ hsix
  have hnb : NB (⟨((([(str [112, 111, 114, 116]), (str [109, 105, 108, 108]), (str [112, 97, 114, 107]), (str [104, 97, 108, 108]), (str [100, 111, 99, 107]), (str [102, 97, 105, 114])] : List ByteArray).take (2 + r.1).toNat).drop (0 : Int).toNat), v11⟩ : Network) := ⟨hst, g2, g3⟩
  rw [l2Own_t_eq _ hnb.bd]
  exact ⟨_, rfl, g1.mono (by omega), hnb⟩
 split
 ·obtain ⟨e, he, _, hem⟩ := idx_lt (l := v7) (i := 0) (by omega) (by omega)
  obtain ⟨g1, g2⟩ := hall e hem
  have hch2 : ∀ y : Line, chk (v7.length + ([y] : List Line).length ≤ 4294967296) = some () := fun y => chk_of (by simp; omega)
  simp only [he, l2BackF_eq e.Stops (by omega), l2BackF_eq e.Runs (by omega), hch2, Option.bind_some]
  refine fin _ _ _ _ (hc6.mono (by omega)) (by simp; omega) fun y hy => ?_
  rcases List.mem_append.1 hy with hy | hy
  ·exact hall y hy
  ·simp at hy; subst hy
   exact ⟨by simpa using g1, by simpa using g2⟩
 ·simp only [Option.bind_some]
  exact fin _ _ _ _ (hc6.mono (by omega)) (by omega) hall
theorem anyNetwork_ok {k : Nat} {c : l1Cur} (h : Cur k c) (hk : k ≤ 200000000) : ∃ r, zq39 c = some r ∧ Cur (k + 1000) r.2 ∧ Bd r.1 := by
 unfold zq39
 obtain ⟨r, hr, hc, hnb⟩ := networkT_ok h (by omega)
 obtain ⟨n1, n2, n3⟩ := hnb
 obtain ⟨r1, hr1, hc1, h10, h11⟩ := pick_ok (r.1.Lines.length : Int) hc (by omega)
 obtain ⟨e, he, he2, hem⟩ := idx_lt (l := r.1.Lines) (i := r1.1) h10 (by omega)
 obtain ⟨g1, g2⟩ := n3 e hem
 obtain ⟨r2, hr2, hc2, _⟩ := pick_ok 24 hc1 (by omega)
 simp only [hr, hr1, he, hr2, Option.bind_some]
 have fin : ∀ (v : List UInt8) (v1 v2 : Int) (v3 : ByteArray) (v4 : List ByteArray) (v5 : List Line) (v6 : List Int), Cur (k + 900) ⟨v, v1, ⟨v2⟩⟩ → v4.length ≤ 6 → v5.length = r.1.Lines.length → (∀ x ∈ v5, LB x) → v6.length ≤ 11 →
   ∃ r', ((idx v5 r1.1).bind fun e9 => some ((⟨v4, (v5.set r1.1.toNat (⟨v3, e9.Stops, v6⟩ : Line))⟩ : Network), (⟨v, v1, (⟨v2⟩ : IK .u64)⟩ : l1Cur))) = some r' ∧ Cur (k + 1000) r'.2 ∧ Bd r'.1 := by
  intro v v1 v2 v3 v4 v5 v6 q1 q2 q3 q4 q5
  obtain ⟨e9, he9, _, hm9⟩ := idx_lt (l := v5) (i := r1.1) h10 (by omega)
  rw [he9]
  refine ⟨_, rfl, q1.mono (by omega), by show v4.length ≤ _; omega, by simp; omega, fun x hx => ?_⟩
  rcases List.mem_or_eq_of_mem_set hx with hx | hx
  ·have := q4 x hx
   unfold LB at this; omega
  ·subst hx
   have := q4 e9 hm9
   unfold LB at this
   exact ⟨by show e9.Stops.length ≤ _; omega, by show v6.length ≤ _; omega⟩
 split
 ·obtain ⟨r4, hr4, hc4, _⟩ := ofw_ok ([(str [109, 105, 108, 108]), (str []), (str [65]), (str [97, 98, 99, 100, 101, 102, 103, 104]), (str [97, 98, 99, 100, 101, 102, 103, 104, 105])] : List ByteArray) (by simp) hc2 (by omega)
  obtain ⟨e2, he2', _⟩ := idx_lt (l := r.1.Stops) (i := 0) (by omega) (by omega)
  simp only [hr4, he2', Option.bind_some, flb_go]
  exact fin _ _ _ _ _ _ _ (hc4.mono (by omega)) (by simp; omega) rfl n3 (by omega)
 split
 ·obtain ⟨r5, hr5, hc5, _⟩ := ofw_ok ([(str [114, 49]), (str [108, 49]), (str []), (str [88])] : List ByteArray) (by simp) hc2 (by omega)
  simp only [hr5, Option.bind_some, flb_go]
  exact fin _ _ _ _ _ _ _ (hc5.mono (by omega)) (by omega) rfl n3 (by omega)
 split
 ·obtain ⟨r8, hr8, hc8, h80, h81⟩ := pick_ok (e.Stops.length : Int) hc2 (by omega)
  obtain ⟨r9, hr9, hc9, _⟩ := pick_ok 10 hc8 (by omega)
  obtain ⟨e4, he4, _⟩ := idx_lt (l := e.Stops) (i := r8.1) h80 (by omega)
  simp only [hr8, hr9, he4, Option.bind_some, flb_go]
  refine fin _ _ _ _ _ _ _ (hc9.mono (by omega)) (by omega) (by simp) (fun x hx => ?_) (by show e.Runs.length ≤ 11; omega)
  rcases List.mem_or_eq_of_mem_set hx with hx | hx
  ·exact n3 x hx
  ·subst hx; exact ⟨by simpa using g1, g2⟩
 split
 ·obtain ⟨r12, hr12, hc12, h120, h121⟩ := pick_ok (e.Runs.length : Int) hc2 (by omega)
  obtain ⟨r13, hr13, hc13, _⟩ := amongw_ok ([0, 60, 61, (-1)] : List Int) (by simp) hc12 (by omega)
  obtain ⟨e6, he6, _⟩ := idx_lt (l := e.Runs) (i := r12.1) h120 (by omega)
  simp only [hr12, hr13, he6, Option.bind_some, flb_go]
  refine fin _ _ _ _ _ _ _ (hc13.mono (by omega)) (by omega) (by simp) (fun x hx => ?_) (by simp; omega)
  rcases List.mem_or_eq_of_mem_set hx with hx | hx
  ·exact n3 x hx
  ·subst hx; exact ⟨g1, by simpa using g2⟩
 split
 ·have hch : chk (e.Runs.length + ([3] : List Int).length ≤ 4294967296) = some () := chk_of (by simp; omega)
  simp only [hch, Option.bind_some, flb_go]
  exact fin _ _ _ _ _ _ _ (hc2.mono (by omega)) (by omega) rfl n3 (by simp; omega)
 split
 ·simp only [flb_ret]
  exact ⟨_, rfl, hc2.mono (by omega), by show r.1.Stops.length ≤ _; omega, by simp, by simp⟩
 split
 ·have loop : ∃ b, iter (zq39_L1 r) (0, r2.2.code_, r2.2.at_, r2.2.seed_.v, r.1.Lines) = some b ∧ (Cur (k + 900) ⟨b.1, b.2.1, ⟨b.2.2.1⟩⟩ ∧ b.2.2.2.length ≤ 20 ∧ ∀ x ∈ b.2.2.2, LB x) := by
   refine iter_rule (fun m a => ∃ i : Nat, a.1 = (i : Int) ∧ m + i = 8 ∧ i ≤ 7 ∧ a.2.2.2.2.length ≤ 8 + i ∧ (∀ x ∈ a.2.2.2.2, LB x) ∧ Cur (k + 310 + 50 * i) ⟨a.2.1, a.2.2.1, ⟨a.2.2.2.1⟩⟩) _ ?_ (k := 8) ⟨0, rfl, rfl, by omega, by simpa using n2.2, n3, hc2.mono (by omega)⟩
   rintro m ⟨v7, v8, v9, v10, v11⟩ ⟨i, hi, hm, hi7, hl, hlb, hcur⟩
   simp only at hi hl hlb hcur
   subst hi
   unfold zq39_L1
   obtain ⟨r16, hr16, hc16, h160, h161⟩ := pick_ok 2 hcur (by omega)
   have w1 : w64 (5 + r16.1) = 5 + r16.1 := w64_id (by omega)
   simp only [hr16, w1, Option.bind_some]
   by_cases a1 : (v11.length : Int) < 5 + r16.1 ∧ (i : Int) < 7
   ·left
    have d1 : decide ((v11.length : Int) < 5 + r16.1) = true := by simp; omega
    have d2 : decide ((i : Int) < 7) = true := by simp; omega
    obtain ⟨r19, hr19, hs19⟩ := l1Num_ok (i : Int) (by omega) (by omega)
    have hs : (str [120]).size = 1 := rfl
    have hch : chk ((str [120]).size + r19.size ≤ 4294967296) = some () := chk_of (by omega)
    obtain ⟨r20, hr20, hc20, hb20⟩ := line_ok (str [120] ++ r19) (r.1.Stops.length : Int) (by omega) hc16 (by omega)
    have hch2 : ∀ y : Line, chk (v11.length + ([y] : List Line).length ≤ 4294967296) = some () := fun y => chk_of (by simp; omega)
    refine ⟨_, m - 1, by simp only [d1, d2, if_true, hr19, hch, hr20, hch2, Option.bind_some, w64_succ (n := i) (by omega)]; rfl, by omega, i + 1, rfl, by omega, by omega, ?_, fun x hx => ?_, ?_⟩
    ·simp; omega
    ·rcases List.mem_append.1 hx with hx | hx
     ·exact hlb x hx
     ·simp at hx; subst hx; exact hb20
    ·exact hc20.mono (by omega)
   ·right
    have hcond : (if decide ((v11.length : Int) < 5 + r16.1) = true then some (decide ((i : Int) < 7)) else some false) = some false := by
     by_cases b1 : (v11.length : Int) < 5 + r16.1
     ·have : decide ((i : Int) < 7) = false := by simp; omega
      simp [b1, this]
     ·simp [b1]
    refine ⟨_, by simp only [hcond, Option.bind_some, Bool.false_eq_true, if_false]; rfl, ?_, ?_, hlb⟩
    ·exact hc16.mono (by omega)
    ·show v11.length ≤ 20; omega
  obtain ⟨⟨v13, v14, v15, v16⟩, hb, hcb, hlb, hall⟩ := loop
  simp only at hcb hlb hall
  rw [hb]
  simp only [Option.bind_some, flb_ret]
  refine ⟨_, rfl, hcb.mono (by omega), by show r.1.Stops.length ≤ _; omega, by show v16.length ≤ _; omega, fun x hx => ?_⟩
  have := hall x hx
  unfold LB at this; omega
 ·simp only [flb_go]
  exact fin _ _ _ _ _ _ _ (hc2.mono (by omega)) (by omega) rfl n3 (by omega)
def TB (t : Timetable) : Prop := Bd t.Network ∧ t.Trips.length ≤ 5000
def TripP (n : Network) (x : Trip) : Prop := (1 ≤ x.Id ∧ x.Id ≤ 999) ∧ ∃ l, idx n.Lines x.Line = some l ∧ (0 ≤ x.Start ∧ x.Start ≤ 1799) ∧ 0 ≤ x.Start + l.Runs.sum ∧ x.Start + l.Runs.sum ≤ 1799
def GoodT (t : Timetable) : Prop := Good t.Network ∧ t.Trips.length ≤ 12 ∧ (∀ (i : Nat) x, t.Trips[i]? = some x → TripP t.Network x) ∧ ∀ (i : Nat) a b, t.Trips[i]? = some a → t.Trips[i + 1]? = some b → a.Id < b.Id
noncomputable instance (t : Timetable) : Decidable (GoodT t) := Classical.propDecidable _
noncomputable instance (n : Network) (x : Trip) : Decidable (TripP n x) := Classical.propDecidable _
theorem time_eq (t : Int) : zq3 t = some (decide (0 ≤ t ∧ t ≤ 1799)) := by
 unfold zq3; rw [within_eq]; rfl
theorem l4Time_eq (t : Int) : zq68 t = some (decide (0 ≤ t ∧ t ≤ 1799)) := by
 unfold zq68; rw [l1In_eq]; rfl
theorem total_eq (l : List Int) (h1 : l.length ≤ 1000000) (h2 : ∀ x ∈ l, 0 ≤ x ∧ x ≤ 1000000) : zq28 l = some l.sum := by
 unfold zq28
 rw [sum_loop (fun x : Int => x) l h1 h2 (fun i s x hx => ?_) (fun s => ?_)]
 ·simp
 ·have := get_lt hx
  unfold zq28_L1
  simp (disch := omega) only [if_pos, if_neg, decide_eq_true_eq, decide_true, decide_false, Bool.not_true, Bool.not_false, Bool.false_eq_true, Bool.not_eq_true', decide_eq_false_iff_not, if_true, if_false, w64_id, chk_of, idx_nat, Option.bind_some, Option.map_some, Int.toNat_natCast, not_true_eq_false, not_false_eq_true, true_and, and_true, and_self, false_and, and_false, reduceIte, flb_go, flb_ret, beq_self_eq_true, ne_eq, bne_self_eq_false, Int.ofNat_lt.2 this, hx]
 ·unfold zq28_L1; simp
theorem l2Run_eq (x : Line) (a b : Nat) (hab : a ≤ b) (hb : b ≤ x.Runs.length) (hl : x.Runs.length ≤ 5000) (h2 : ∀ r ∈ x.Runs, 0 ≤ r ∧ r ≤ 1000000) : zq66 x (a : Int) (b : Int) = some (((x.Runs.take b).drop a).sum) := by
 unfold zq66
 refine Tot.val (.call (P := fun v => v = ((x.Runs.take b).drop a).sum) ?_ fun v h => .ok h)
 refine .iter (fun m s => ∃ k : Nat, s.2 = ((a + k : Nat) : Int) ∧ m + k = b - a ∧ s.1 = (((x.Runs.take b).drop a).take k).sum) (n := b - a) ⟨0, by simp, by omega, by simp⟩ ?_
 rintro m ⟨s, v⟩ ⟨k, hk, hm, hs⟩
 simp only at hk hs
 subst hk
 unfold zq66_L1
 refine .iteP (fun hc => ?_) (fun hc => .dn ?_)
 ·obtain ⟨r, hr⟩ := get_ex (l := x.Runs) (i := a + k) (by omega)
  have hr2 : ((x.Runs.take b).drop a)[k]? = some r := by
   rw [List.getElem?_drop, List.getElem?_take_of_lt (by omega)]; exact hr
  have hb1 := h2 r (List.mem_of_getElem? hr)
  have hb2 := sum_bd (l := ((x.Runs.take b).drop a).take k) (M := 1000000) fun y hy => h2 y (List.mem_of_mem_take (List.mem_of_mem_drop (List.mem_of_mem_take hy)))
  have hlen : ((((x.Runs.take b).drop a).take k).length : Int) ≤ 5000 := by simp; omega
  rw [← hs] at hb2
  refine .eq (by rw [idx_nat]; exact hr) (.nx ⟨m - 1, by omega, k + 1, ?_, by omega, ?_⟩)
  ·show w64 (((a + k : Nat) : Int) + 1) = _
   rw [w64_id (by omega)]; omega
  ·show w64 (s + r) = _
   rw [w64_id (by omega), sum_take_succ hr2, hs]
 ·rw [hs, List.take_of_length_le (by rw [List.length_drop, List.length_take]; omega)]
theorem good_line {n : Network} (h : Good n) {k : Int} {l : Line} (hl : idx n.Lines k = some l) : LineP n.Stops.length l := h.2.2.2.2 _ l (idx_some hl).2.2
theorem line_runs {st : Nat} {l : Line} (h : LineP st l) : (l.Runs.length + 1 = l.Stops.length ∧ 1 ≤ l.Runs.length ∧ l.Runs.length ≤ 5) ∧ ∀ r ∈ l.Runs, 1 ≤ r ∧ r ≤ 60 := by
 obtain ⟨h1, h2, h3, h4⟩ := h
 refine ⟨by omega, fun r hr => ?_⟩
 obtain ⟨i, hi⟩ := List.getElem?_of_mem hr
 exact h4 i r hi
theorem runs_sum {st : Nat} {l : Line} (h : LineP st l) (k : Nat) : 0 ≤ (l.Runs.take k).sum ∧ (l.Runs.take k).sum ≤ 300 := by
 obtain ⟨⟨h1, h2, h3⟩, h4⟩ := line_runs h
 have := sum_bd (l := l.Runs.take k) (M := 60) fun x hx => by have := h4 x (List.mem_of_mem_take hx); omega
 have hl : ((l.Runs.take k).length : Int) ≤ 5 := by simp; omega
 omega
theorem runs_sum' {st : Nat} {l : Line} (h : LineP st l) : 0 ≤ l.Runs.sum ∧ l.Runs.sum ≤ 300 := by
 have := runs_sum h l.Runs.length
 rwa [List.take_length] at this
theorem endOf_eq {t : Timetable} (hg : Good t.Network) {x : Trip} {l : Line} (hl : idx t.Network.Lines x.Line = some l) (hs : 0 ≤ x.Start ∧ x.Start ≤ 1799) : zq14 t x = some (x.Start + l.Runs.sum) := by
 have h := good_line hg hl
 obtain ⟨⟨h1, h2, h3⟩, h4⟩ := line_runs h
 have h5 := runs_sum' h
 unfold zq14
 rw [hl]
 simp only [Option.bind_some]
 rw [total_eq l.Runs (by omega) (fun x hx => by have := h4 x hx; omega)]
 simp (disch := omega) only [if_pos, if_neg, decide_eq_true_eq, decide_true, decide_false, Bool.not_true, Bool.not_false, Bool.false_eq_true, Bool.not_eq_true', decide_eq_false_iff_not, if_true, if_false, w64_id, chk_of, idx_nat, Option.bind_some, Option.map_some, Int.toNat_natCast, not_true_eq_false, not_false_eq_true, true_and, and_true, and_self, false_and, and_false, reduceIte, flb_go, flb_ret, beq_self_eq_true, ne_eq, bne_self_eq_false]
theorem l5Line_eq {t : Timetable} {i : Nat} {x : Trip} {l : Line} (hx : t.Trips[i]? = some x) (hl : idx t.Network.Lines x.Line = some l) : zq73 t (i : Int) = some l := by
 unfold zq73
 simp (disch := omega) only [if_pos, if_neg, decide_eq_true_eq, decide_true, decide_false, Bool.not_true, Bool.not_false, Bool.false_eq_true, Bool.not_eq_true', decide_eq_false_iff_not, if_true, if_false, w64_id, chk_of, idx_nat, Option.bind_some, Option.map_some, Int.toNat_natCast, not_true_eq_false, not_false_eq_true, true_and, and_true, and_self, false_and, and_false, reduceIte, flb_go, flb_ret, beq_self_eq_true, ne_eq, bne_self_eq_false, hx, hl]
theorem l5Stops_eq {t : Timetable} {i : Nat} {x : Trip} {l : Line} (hx : t.Trips[i]? = some x) (hl : idx t.Network.Lines x.Line = some l) : zq74 t (i : Int) = some l.Stops := by
 unfold zq74
 rw [l5Line_eq hx hl]; rfl
theorem l5At_eq {t : Timetable} (hg : Good t.Network) {i : Nat} {x : Trip} {l : Line} (hx : t.Trips[i]? = some x) (hl : idx t.Network.Lines x.Line = some l) (hs : 0 ≤ x.Start ∧ x.Start ≤ 1799) {k : Nat} (hk : k ≤ l.Runs.length) : zq70 t (i : Int) (k : Int) = some (x.Start + (l.Runs.take k).sum) := by
 have h := good_line hg hl
 obtain ⟨⟨h1, h2, h3⟩, h4⟩ := line_runs h
 have h5 := runs_sum h k
 have e := l2Run_eq l 0 k (by omega) hk (by omega) (fun x hx => by have := h4 x hx; omega)
 rw [List.drop_zero] at e
 have e' : zq66 l 0 (k : Int) = some (l.Runs.take k).sum := e
 unfold zq70
 simp (disch := omega) only [if_pos, if_neg, decide_eq_true_eq, decide_true, decide_false, Bool.not_true, Bool.not_false, Bool.false_eq_true, Bool.not_eq_true', decide_eq_false_iff_not, if_true, if_false, w64_id, chk_of, idx_nat, Option.bind_some, Option.map_some, Int.toNat_natCast, not_true_eq_false, not_false_eq_true, true_and, and_true, and_self, false_and, and_false, reduceIte, flb_go, flb_ret, beq_self_eq_true, ne_eq, bne_self_eq_false, hx, l5Line_eq hx hl, e']
theorem l5End_eq {t : Timetable} (hg : Good t.Network) {i : Nat} {x : Trip} {l : Line} (hx : t.Trips[i]? = some x) (hl : idx t.Network.Lines x.Line = some l) (hs : 0 ≤ x.Start ∧ x.Start ≤ 1799) : zq71 t (i : Int) = some (x.Start + l.Runs.sum) := by
 have h := good_line hg hl
 obtain ⟨⟨h1, h2, h3⟩, h4⟩ := line_runs h
 have e : w64 ((l.Stops.length : Int) - 1) = (l.Runs.length : Int) := by rw [w64_id (by omega)]; omega
 unfold zq71
 rw [l5Stops_eq hx hl]
 simp only [Option.bind_some, e, l5At_eq hg hx hl hs (Nat.le_refl _), List.take_length]
def TripsP (t : Timetable) : Prop := (∀ (i : Nat) x, t.Trips[i]? = some x → TripP t.Network x) ∧ ∀ (i : Nat) a b, t.Trips[i]? = some a → t.Trips[i + 1]? = some b → a.Id < b.Id
noncomputable instance (t : Timetable) : Decidable (TripsP t) := Classical.propDecidable _
theorem trip_i {t : Timetable} (hb : TB t) (hg : Good t.Network) (x : Trip) (last : Int) (hlast : 0 ≤ last) : ((if (decide (x.Id ≤ last)) = true then some true else if (decide (999 < x.Id)) = true then some true else (zq17 t.Network x.Line).bind fun r =>
   if (!r) = true then some true else (zq3 x.Start).bind fun r1 =>
   if (!r1) = true then some true else (zq14 t x).bind fun r2 =>
   (zq3 r2).bind fun r3 =>
   some (!r3))) = some (!decide (last < x.Id ∧ TripP t.Network x)) := by
 by_cases c1 : x.Id ≤ last
 ·have : ¬ (last < x.Id ∧ TripP t.Network x) := fun h => by omega
  simp [c1, this]
 ·by_cases c2 : 999 < x.Id
  ·have : ¬ (last < x.Id ∧ TripP t.Network x) := fun h => by have := h.2.1; omega
   simp [c1, c2, this]
  ·simp only [isLine_eq, time_eq, Option.bind_some, c1, c2, decide_false, Bool.false_eq_true, if_false]
   by_cases c3 : 0 ≤ x.Line ∧ x.Line < (t.Network.Lines.length : Int)
   ·obtain ⟨l, hl, _⟩ := idx_lt (l := t.Network.Lines) c3.1 c3.2
    by_cases c4 : 0 ≤ x.Start ∧ x.Start ≤ 1799
    ·have hT : (last < x.Id ∧ TripP t.Network x) ↔ (0 ≤ x.Start + l.Runs.sum ∧ x.Start + l.Runs.sum ≤ 1799) := by
      constructor
      ·rintro ⟨_, _, l', hl', _, h⟩
       rw [hl] at hl'; cases hl'; exact h
      ·intro h; exact ⟨by omega, ⟨by omega, by omega⟩, l, hl, c4, h⟩
     simp only [c3, c4, and_self, decide_true, Bool.not_true, Bool.false_eq_true, if_false, endOf_eq hg hl c4, time_eq, Option.bind_some, hT]
    ·have : ¬ (last < x.Id ∧ TripP t.Network x) := fun h => by
      obtain ⟨_, _, l', _, h4, _⟩ := h
      exact c4 h4
     simp only [c3, c4, this, and_self, decide_true, decide_false, Bool.not_true, Bool.not_false, Bool.false_eq_true, if_false, if_true]
   ·have : ¬ (last < x.Id ∧ TripP t.Network x) := fun h => by
     obtain ⟨_, _, l', hl', _⟩ := h
     have := idx_some hl'
     exact c3 ⟨this.1, this.2.1⟩
    simp only [c3, this, decide_false, Bool.not_false, if_true]
theorem areTrips_eq {t : Timetable} (hb : TB t) (hg : Good t.Network) : zq10 t = some (decide (t.Trips.length ≤ 12 ∧ TripsP t)) := by
 unfold zq10
 by_cases h12 : t.Trips.length ≤ 12
 ·have d : decide ((12 : Int) < (t.Trips.length : Int)) = false := by simp; omega
  have e : decide (t.Trips.length ≤ 12 ∧ TripsP t) = decide (TripsP t) := by simp [h12]
  rw [d, e]
  simp only [Bool.false_eq_true, if_false]
  refine flb_dec (.iter (fun m a => ∃ i : Nat, a.2 = (i : Int) ∧ m + i = t.Trips.length ∧ 0 ≤ a.1 ∧ (∀ y, 0 < i → t.Trips[i - 1]? = some y → a.1 = y.Id) ∧ (i = 0 → a.1 = 0) ∧ (∀ (j : Nat) x, j < i → t.Trips[j]? = some x → TripP t.Network x) ∧ ∀ (j : Nat) a b, j + 1 < i → t.Trips[j]? = some a → t.Trips[j + 1]? = some b → a.Id < b.Id)
   (n := t.Trips.length) ⟨0, rfl, rfl, by simp, by simp, by simp, fun j x h => by omega, fun j a b h => by omega⟩ ?_)
  rintro m ⟨last, v⟩ ⟨i, hv, hm, h0, h1, h2, h3, h4⟩
  simp only at hv h0 h1 h2
  subst hv
  unfold zq10_L1
  refine .iteP (fun hc => ?_) (fun hc => .dn (.inl ⟨rfl, fun j x hx => h3 j x (by have := get_lt hx; omega) hx, fun j a b ha hb' => h4 j a b (by have := get_lt hb'; omega) ha hb'⟩))
  obtain ⟨x, hx⟩ := get_ex (l := t.Trips) (i := i) (by omega)
  refine .eq (by rw [idx_nat]; exact hx) (.eq (trip_i hb hg x last h0) (.iteN (fun hn => .dn (.inr ⟨rfl, fun hp => hn ⟨?_, hp.1 i x hx⟩⟩)) (fun hp => .nx ⟨m - 1, by omega, i + 1, w64_succ (by omega), by omega, ?_, ?_, by simp, ?_, ?_⟩)))
  ·by_cases hi : i = 0
   ·rw [h2 hi]; have := (hp.1 i x hx).1; omega
   ·obtain ⟨y, hy⟩ := get_ex (l := t.Trips) (i := i - 1) (by omega)
    rw [h1 y (by omega) hy]
    exact hp.2 (i - 1) y x hy (by rw [show i - 1 + 1 = i by omega]; exact hx)
  ·show 0 ≤ x.Id
   have := hp.2.1; omega
  ·intro y _ hy
   rw [show i + 1 - 1 = i by omega, hx] at hy; cases hy; rfl
  ·intro j y hj hy
   by_cases hji : j = i
   ·subst hji; rw [hx] at hy; cases hy; exact hp.2
   ·exact h3 j y (by omega) hy
  ·intro j a b hj ha hb'
   by_cases hji : j + 1 = i
   ·subst hji; rw [hx] at hb'; cases hb'
    have := h1 a (by omega) (by simpa using ha)
    omega
   ·exact h4 j a b (by omega) ha hb'
 ·have d : decide ((12 : Int) < (t.Trips.length : Int)) = true := by simp; omega
  simp [d, h12]
def TripQ (t : Timetable) (i : Nat) (x : Trip) : Prop := TripP t.Network x ∧ ∀ y, 0 < i → t.Trips[i - 1]? = some y → y.Id < x.Id
noncomputable instance (t : Timetable) (i : Nat) (x : Trip) : Decidable (TripQ t i x) := Classical.propDecidable _
theorem goodT_iff (t : Timetable) : GoodT t ↔ Good t.Network ∧ t.Trips.length ≤ 12 ∧ TripsP t := Iff.rfl
theorem validT_eq {t : Timetable} (hb : TB t) : zq4 t = some (decide (GoodT t)) := by
 unfold zq4
 rw [valid_eq _ hb.1]
 by_cases hg : Good t.Network
 ·simp only [hg, decide_true, if_true, Option.bind_some, areTrips_eq hb hg, goodT_iff, true_and]
 ·have : ¬ GoodT t := fun h => hg h.1
  simp [hg, this]
theorem goodT_eq {t : Timetable} (hb : TB t) : zq72 t = some (decide (GoodT t)) := by
 unfold zq72
 rw [good_eq _ hb.1]
 by_cases hg : Good t.Network
 ·by_cases h12 : t.Trips.length ≤ 12
  ·have d : decide ((12 : Int) < (t.Trips.length : Int)) = false := by simp; omega
   have e : decide (GoodT t) = decide (TripsP t) := by rw [decide_eq_decide, goodT_iff]; simp [hg, h12]
   simp only [hg, decide_true, Bool.not_true, Bool.false_eq_true, if_false, Option.bind_some, d, e]
   refine flb_dec (.iter (fun m a => ∃ i : Nat, a = (i : Int) ∧ m + i = t.Trips.length ∧ (∀ (j : Nat) x, j < i → t.Trips[j]? = some x → TripP t.Network x) ∧ ∀ (j : Nat) a b, j + 1 < i → t.Trips[j]? = some a → t.Trips[j + 1]? = some b → a.Id < b.Id)
    (n := t.Trips.length) ⟨0, rfl, rfl, fun j x h => by omega, fun j a b h => by omega⟩ ?_)
   rintro m v ⟨i, hv, hm, h3, h4⟩
   subst hv
   unfold zq72_L1
   refine .iteP (fun hc => ?_) (fun hc => .dn (.inl ⟨rfl, fun j x hx => h3 j x (by have := get_lt hx; omega) hx, fun j a b ha hb' => h4 j a b (by have := get_lt hb'; omega) ha hb'⟩))
   obtain ⟨x, hx⟩ := get_ex (l := t.Trips) (i := i) (by omega)
   refine .eq (by rw [idx_nat]; exact hx) ?_
   have hll := hg.2.1
   have ew : w64 ((t.Network.Lines.length : Int) - 1) = (t.Network.Lines.length : Int) - 1 := w64_id (by omega)
   have key : ((zq52 x.Id 1 999).bind fun r6 =>
   (if (!r6) = true then some true else (zq52 x.Line 0 (w64 ((t.Network.Lines.length : Int) - 1))).bind fun r7 =>
   if (!r7) = true then some true else (zq68 x.Start).bind fun r8 =>
   if (!r8) = true then some true else (zq71 t (i : Int)).bind fun r9 =>
   (zq68 r9).bind fun r10 =>
   if (!r10) = true then some true else if (decide (0 < (i : Int))) = true then (idx t.Trips (w64 ((i : Int) - 1))).bind fun e2 =>
   some (decide (x.Id ≤ e2.Id)) else some false)) = some (!decide (TripQ t i x)) := by
    have no : ¬ TripP t.Network x → (!decide (TripQ t i x)) = true := fun h => (by simp [show ¬ TripQ t i x from fun q => h q.1])
    simp only [l1In_eq, l4Time_eq, ew, Option.bind_some]
    by_cases c1 : 1 ≤ x.Id ∧ x.Id ≤ 999
    ·by_cases c3 : 0 ≤ x.Line ∧ x.Line ≤ (t.Network.Lines.length : Int) - 1
     ·obtain ⟨l, hl, _⟩ := idx_lt (l := t.Network.Lines) c3.1 (by omega)
      by_cases c4 : 0 ≤ x.Start ∧ x.Start ≤ 1799
      ·simp only [c1, c3, c4, and_self, decide_true, Bool.not_true, Bool.false_eq_true, if_false, l5End_eq hg hx hl c4, l4Time_eq, Option.bind_some]
       by_cases c5 : 0 ≤ x.Start + l.Runs.sum ∧ x.Start + l.Runs.sum ≤ 1799
       ·have hT : TripP t.Network x := ⟨c1, l, hl, c4, c5⟩
        simp only [c5, and_self, decide_true, Bool.not_true, Bool.false_eq_true, if_false, ]
        by_cases c6 : 0 < i
        ·obtain ⟨y, hy⟩ := get_ex (l := t.Trips) (i := i - 1) (by omega)
         have e1 : w64 ((i : Int) - 1) = ((i - 1 : Nat) : Int) := by rw [w64_id (by omega)]; omega
         have c6' : (0 : Int) < (i : Int) := by omega
         simp only [c6', decide_true, if_true, e1, idx_nat, hy, Option.bind_some, Option.some.injEq]
         by_cases c7 : x.Id ≤ y.Id
         ·have : ¬ TripQ t i x := fun h => by have := h.2 y c6 hy; omega
          simp only [c7, decide_true, this, decide_false, Bool.not_false]
         ·have : TripQ t i x := ⟨hT, fun z _ hz => by rw [hy] at hz; cases hz; omega⟩
          simp only [c7, decide_false, this, decide_true, Bool.not_true]
        ·have c6' : ¬ (0 : Int) < (i : Int) := by omega
         have : TripQ t i x := ⟨hT, fun z h0 _ => absurd h0 c6⟩
         simp only [c6', decide_false, Bool.false_eq_true, if_false, this, decide_true, Bool.not_true]
       ·rw [no (fun hT => by
         obtain ⟨_, l', hl', _, h⟩ := hT
         rw [hl] at hl'; cases hl'; exact c5 h)]
        simp only [c5, decide_false, Bool.not_false, if_true]
      ·rw [no (fun hT => by obtain ⟨_, l', _, h, _⟩ := hT; exact c4 h)]
       simp only [c1, c3, c4, and_self, decide_true, decide_false, Bool.not_true, Bool.not_false, Bool.false_eq_true, if_false, if_true]
     ·rw [no (fun hT => by
       obtain ⟨_, l', hl', _⟩ := hT
       have := idx_some hl'
       exact c3 ⟨this.1, by omega⟩)]
      simp only [c1, c3, and_self, decide_true, decide_false, Bool.not_true, Bool.not_false, Bool.false_eq_true, if_false, if_true]
    ·rw [no (fun hT => c1 hT.1)]
     simp only [c1, decide_false, Bool.not_false, if_true]
   rw [bind_assoc', key]
   refine .iteN (fun hn => .dn (.inr ⟨rfl, fun hp => hn ⟨hp.1 i x hx, fun y hi hy => hp.2 (i - 1) y x hy (by rw [show i - 1 + 1 = i by omega]; exact hx)⟩⟩)) (fun hp => .nx ⟨m - 1, by omega, i + 1, w64_succ (by omega), by omega, ?_, ?_⟩)
   ·intro j y hj hy
    by_cases hji : j = i
    ·subst hji; rw [hx] at hy; cases hy; exact hp.1
    ·exact h3 j y (by omega) hy
   ·intro j a b hj ha hb'
    by_cases hji : j + 1 = i
    ·subst hji; rw [hx] at hb'; cases hb'
     exact hp.2 a (by omega) (by simpa using ha)
    ·exact h4 j a b (by omega) ha hb'
  ·have d : decide ((12 : Int) < (t.Trips.length : Int)) = true := by simp; omega
   have : ¬ GoodT t := fun h => h12 h.2.1
   simp [hg, d, this]
 ·have : ¬ GoodT t := fun h => hg h.1
  simp [hg, this]
theorem anyNet_ok {k : Nat} {c : l1Cur} (h : Cur k c) (hk : k ≤ 200000000) : Tot (zq39 c) fun r => Cur (k + 1000) r.2 ∧ Bd r.1 := anyNetwork_ok h hk
def DT (t : Timetable) : Prop := Bd t.Network ∧ t.Trips.length ≤ 30
theorem timetable_ok {k : Nat} {c : l1Cur} (h : Cur k c) (hk : k ≤ 100000000) : Tot (zq51 c) fun r => Cur (k + 400) r.2 ∧ DT r.1 ∧ NB r.1.Network ∧ r.1.Trips.length ≤ 8 := by
 unfold zq51
 refine .call (networkT_ok h (by omega)) fun r ⟨hc, hn⟩ => .call (pick_ok 8 hc (by omega)) fun r1 ⟨hc1, h0, h1⟩ => ?_
 refine .call (P := fun o => Cur (k + 400) ⟨o.1, o.2.1, ⟨o.2.2.1⟩⟩ ∧ o.2.2.2.length ≤ 8) ?_ fun o ⟨ho1, ho2⟩ => .ok ⟨ho1, ⟨hn.bd, by show o.2.2.2.length ≤ 30; omega⟩, hn, ho2⟩
 refine .iter (fun m s => s.2.1 = (m : Int) ∧ m + s.2.2.2.2.2.length ≤ 8 ∧ Cur (k + 302 + 6 * (8 - m)) ⟨s.2.2.1, s.2.2.2.1, ⟨s.2.2.2.2.1⟩⟩) (n := r1.1.toNat) ⟨by show r1.1 = _; omega, by show r1.1.toNat + 0 ≤ 8; omega, hc1.mono (by omega)⟩ ?_
 rintro m ⟨n, v, v1, v2, v3, v4⟩ ⟨hv, hl, hcur⟩
 simp only at hv hl hcur
 subst hv
 unfold zq51_L1
 refine .iteP (fun hc => ?_) (fun hc => .dn ⟨hcur.mono (by omega), by show v4.length ≤ 8; omega⟩)
 refine .call (pick_ok 3 hcur (by omega)) fun r2 ⟨hc2, _⟩ => .call (pick_ok _ hc2 (by omega)) fun r5 ⟨hc5, _⟩ => .call (pick_ok 24 hc5 (by omega)) fun r6 ⟨hc6, _⟩ => .chk (by simp; omega) (.nx ⟨m - 1, by omega, ?_, ?_, ?_⟩)
 ·show w64 ((m : Int) - 1) = _; rw [w64_id (by omega)]; omega
 ·show m - 1 + (v4 ++ [_]).length ≤ 8; simp; omega
 ·exact hc6.mono (by omega)
theorem anyTimetable_ok {k : Nat} {c : l1Cur} (h : Cur k c) (hk : k ≤ 50000000) : Tot (zq40 c) fun r => Cur (k + 2000) r.2 ∧ DT r.1 := by
 unfold zq40
 refine .call (timetable_ok h (by omega)) fun r ⟨hc, hd, hn, hl⟩ => ?_
 refine .ite (fun _ => .ok ⟨hc.mono (by omega), hd⟩) fun he => ?_
 have hpos : 0 < r.1.Trips.length := by
  have : (r.1.Trips.length : Int) ≠ 0 := by simpa using he
  omega
 refine .call (pick_ok _ hc (by omega)) fun r1 ⟨hc1, h10, h11⟩ => ?_
 have h12 : r1.1 < (r.1.Trips.length : Int) := by omega
 refine .idx h10 h12 fun e _ => ?_
 have fin : ∀ (v : List UInt8) (v1 v2 : Int) (v3 : List Line) (v4 v5 v6 : Int) (v7 : List ByteArray), Cur (k + 2000) ⟨v, v1, ⟨v2⟩⟩ → Bd ⟨v7, v3⟩ → Tot ((idx r.1.Trips r1.1).bind fun e2 => some ((⟨(⟨v7, v3⟩ : Network), (r.1.Trips.set r1.1.toNat (⟨v4, v5, v6⟩ : Trip))⟩ : Timetable), (⟨v, v1, (⟨v2⟩ : IK .u64)⟩ : l1Cur))) fun r => Cur (k + 2000) r.2 ∧ DT r.1 := fun v v1 v2 v3 v4 v5 v6 v7 q1 q2 =>
  .idx h10 h12 fun e2 _ => .ok ⟨q1, q2, by show (r.1.Trips.set _ _).length ≤ 30; rw [List.length_set]; omega⟩
 refine .flb (.call (pick_ok 24 hc1 (by omega)) fun r2 ⟨hc2, _⟩ => ?_)
 refine .ite (fun _ => .call (among_ok _ (by simp) hc2 (by omega)) fun r3 ⟨hc3, _⟩ => .go (fin _ _ _ _ _ _ _ _ (hc3.mono (by omega)) hd.1)) fun _ => ?_
 refine .ite (fun _ => .call (pick_ok 7 hc2 (by omega)) fun r3 ⟨hc3, _⟩ => .go (fin _ _ _ _ _ _ _ _ (hc3.mono (by omega)) hd.1)) fun _ => ?_
 refine .ite (fun _ => .call (among_ok _ (by simp) hc2 (by omega)) fun r3 ⟨hc3, _⟩ => .go (fin _ _ _ _ _ _ _ _ (hc3.mono (by omega)) hd.1)) fun _ => ?_
 refine .ite (fun _ => .call (anyNet_ok hc2 (by omega)) fun r3 ⟨hc3, hb⟩ => .go (fin _ _ _ _ _ _ _ _ (hc3.mono (by omega)) hb)) fun _ => ?_
 refine .ite (fun _ => ?_) fun _ => .go (fin _ _ _ _ _ _ _ _ (hc2.mono (by omega)) hd.1)
 refine .call (P := fun o => Cur (k + 2000) ⟨o.1, o.2.1, ⟨o.2.2.1⟩⟩ ∧ o.2.2.2.length ≤ 30) ?_ fun o ⟨ho1, ho2⟩ => .ret ⟨ho1, hd.1, ho2⟩
 refine .iter (fun m s => ∃ i : Nat, s.1 = (i : Int) ∧ m + i = 14 ∧ s.2.2.2.2.length ≤ 8 + i ∧ Cur (k + 500 + 2 * i) ⟨s.2.1, s.2.2.1, ⟨s.2.2.2.1⟩⟩) (n := 14) ⟨0, rfl, rfl, by simpa using hl, hc2.mono (by omega)⟩ ?_
 rintro m ⟨v8, v9, v10, v11, v12⟩ ⟨i, hv, hm, hl12, hcur⟩
 simp only at hv hl12 hcur
 subst hv
 unfold zq40_L1
 refine .call (pick_ok 2 hcur (by omega)) fun r8 ⟨hc8, _⟩ => ?_
 refine .call (P := fun b => b = true → i < 14) (.ite (fun _ => .ok fun hb => by simp at hb; omega) fun _ => .ok fun hb => by cases hb) fun b hb => ?_
 refine .ite (fun ht => .chk (by simp; omega) (.nx ⟨m - 1, by have := hb ht; omega, i + 1, w64_succ (by omega), by have := hb ht; omega, ?_, hc8.mono (by omega)⟩)) (fun _ => .dn ⟨hc8.mono (by omega), by show v12.length ≤ 30; omega⟩)
 show (v12 ++ [_]).length ≤ 8 + (i + 1); simp; omega
def wch (x : UInt8) : Prop := (97 ≤ x.toNat ∧ x.toNat ≤ 122) ∨ (48 ≤ x.toNat ∧ x.toNat ≤ 57)
instance (x : UInt8) : Decidable (wch x) := by unfold wch; infer_instance
def clk (n : Nat) : List UInt8 := [UInt8.ofNat (48 + n / 60 / 10), UInt8.ofNat (48 + n / 60 % 10), 58, UInt8.ofNat (48 + n % 60 / 10), UInt8.ofNat (48 + n % 60 % 10)]
theorem lTwo_ok {n : Int} (h0 : 0 ≤ n) (h1 : n < 100) : zq69 n = some (str [UInt8.ofNat (48 + (n / 10).toNat), UInt8.ofNat (48 + (n % 10).toNat)]) := by
 have em : n.tmod 10 = n % 10 := Int.tmod_eq_emod_of_nonneg h0
 have ew : w64 (n.tdiv 10) = n / 10 := by rw [Int.tdiv_eq_ediv_of_nonneg h0, w64_id (by omega)]
 have c10 : chk ((10 : Int) ≠ 0) = some () := chk_of (by decide)
 have ca : ∀ x : Int, 0 ≤ x → x < 10 → chk ((0 : Int) ≤ x ∧ (x : Int) ≤ w64 (x + 1) ∧ w64 (x + 1) ≤ ((str [48, 49, 50, 51, 52, 53, 54, 55, 56, 57]).size : Int)) = some () := fun x hx hy => chk_of (by rw [w64_id (by omega)]; exact ⟨hx, by omega, by show x + 1 ≤ 10; omega⟩)
 unfold zq69
 simp only [c10, Option.bind_some, ew, em]
 rw [ca _ (by omega) (by omega), Option.bind_some, ca _ (by omega) (by omega), Option.bind_some, dig_ext (by omega) (by omega), dig_ext (by omega) (by omega), str_app]
 rfl
theorem clk_parts {n : Int} (h0 : 0 ≤ n) (h1 : n < 3600) : str [UInt8.ofNat (48 + (n / 60 / 10).toNat), UInt8.ofNat (48 + (n / 60 % 10).toNat)] ++ str [58] ++ str [UInt8.ofNat (48 + (n % 60 / 10).toNat), UInt8.ofNat (48 + (n % 60 % 10).toNat)] = str (clk n.toNat) := by
 rw [str_app, str_app]
 unfold clk
 have e1 : (n / 60 / 10).toNat = n.toNat / 60 / 10 := by omega
 have e2 : (n / 60 % 10).toNat = n.toNat / 60 % 10 := by omega
 have e3 : (n % 60 / 10).toNat = n.toNat % 60 / 10 := by omega
 have e4 : (n % 60 % 10).toNat = n.toNat % 60 % 10 := by omega
 rw [e1, e2, e3, e4]
 rfl
theorem lText_ok {n : Int} (h0 : 0 ≤ n) (h1 : n < 3600) : zq67 n = some (str (clk n.toNat)) := by
 have em : n.tmod 60 = n % 60 := Int.tmod_eq_emod_of_nonneg h0
 have ew : w64 (n.tdiv 60) = n / 60 := by rw [Int.tdiv_eq_ediv_of_nonneg h0, w64_id (by omega)]
 have c60 : chk ((60 : Int) ≠ 0) = some () := chk_of (by decide)
 unfold zq67
 simp only [c60, Option.bind_some, ew, em]
 rw [lTwo_ok (by omega) (by omega), Option.bind_some, chk_of (by rw [str_s, str_s]; simp), Option.bind_some, lTwo_ok (by omega) (by omega), Option.bind_some, chk_of (by rw [str_app, str_s, str_s]; simp), Option.bind_some, clk_parts h0 h1]
theorem mk8 {n : Nat} (h : n < 256) : mkU8 (IntKind.u8.wrap (n : Int)) = UInt8.ofNat n := by
 unfold mkU8
 rw [IntKind.wrap_u8]
 congr 1; omega
theorem iTwo_ok {n : Int} (h0 : 0 ≤ n) (h1 : n < 100) : zq13 n = some (str [UInt8.ofNat (48 + (n / 10).toNat), UInt8.ofNat (48 + (n % 10).toNat)]) := by
 have em : w64 (48 + n.tmod 10) = ((48 + (n % 10).toNat : Nat) : Int) := by rw [Int.tmod_eq_emod_of_nonneg h0, w64_id (by omega)]; omega
 have ew : w64 (48 + w64 (n.tdiv 10)) = ((48 + (n / 10).toNat : Nat) : Int) := by rw [Int.tdiv_eq_ediv_of_nonneg h0, w64_id (x := n / 10) (by omega), w64_id (by omega)]; omega
 have c10 : chk ((10 : Int) ≠ 0) = some () := chk_of (by decide)
 unfold zq13
 simp only [c10, Option.bind_some]
 rw [ew, em, mk8 (by omega), mk8 (by omega)]
 rfl
theorem iText_ok {n : Int} (h0 : 0 ≤ n) (h1 : n < 3600) : zq12 n = some (str (clk n.toNat)) := by
 have em : n.tmod 60 = n % 60 := Int.tmod_eq_emod_of_nonneg h0
 have ew : w64 (n.tdiv 60) = n / 60 := by rw [Int.tdiv_eq_ediv_of_nonneg h0, w64_id (by omega)]
 have c60 : chk ((60 : Int) ≠ 0) = some () := chk_of (by decide)
 unfold zq12
 simp only [c60, Option.bind_some, ew, em]
 rw [iTwo_ok (by omega) (by omega), Option.bind_some, chk_of (by rw [str_s, str_s]; simp), Option.bind_some, iTwo_ok (by omega) (by omega), Option.bind_some, chk_of (by rw [str_app, str_s, str_s]; simp), Option.bind_some, clk_parts h0 h1]
theorem five {w : List UInt8} (h : w.length = 5) : ∃ a b c d e, w = [a, b, c, d, e] := by
 match w, h with
 | [a, b, c, d, e], _ => exact ⟨a, b, c, d, e, rfl⟩
theorem itime24_eq (t : Int) : zq3 t = some (decide (0 ≤ t ∧ t ≤ 1799)) := by
 unfold zq3
 rw [within_eq]; rfl
theorem clk_len (n : Nat) : (clk n).length = 5 := rfl
def TmOK (t : Int) : Prop := 0 ≤ t ∧ t ≤ 1799
instance (t : Int) : Decidable (TmOK t) := by unfold TmOK; infer_instance
def NmL (l : List UInt8) : Prop := (∀ x ∈ l, wch x) ∧ l.length ≤ 8
theorem nm_of {s : ByteArray} (h : NameOK s) : NmL s.data.toList := by
 refine ⟨fun x hx => ?_, ?_⟩
 ·obtain ⟨i, hi⟩ := List.mem_iff_getElem?.1 hx
  have := h.2 i x hi
  unfold ChOK at this
  unfold wch
  omega
 ·have h2 := h.1.2
  rw [← bsize] at h2
  exact h2
theorem nm_no {l : List UInt8} (h : NmL l) {c : UInt8} (hc : ¬ wch c) : c ∉ l := fun hm => hc (h.1 c hm)
theorem clk_no {c : UInt8} (n : Nat) (hn : n ≤ 1799) (hc : c.toNat < 48) : c ∉ clk n := by
 intro h
 unfold clk at h
 simp only [List.mem_cons, List.not_mem_nil, or_false] at h
 rcases h with h | h | h | h | h
 ·have h2 := congrArg UInt8.toNat h; rw [UInt8.toNat_ofNat'] at h2; omega
 ·have h2 := congrArg UInt8.toNat h; rw [UInt8.toNat_ofNat'] at h2; omega
 ·subst h; exact absurd hc (by decide)
 ·have h2 := congrArg UInt8.toNat h; rw [UInt8.toNat_ofNat'] at h2; omega
 ·have h2 := congrArg UInt8.toNat h; rw [UInt8.toNat_ofNat'] at h2; omega
theorem split_ok (l : List UInt8) (c : UInt8) (hl : l.length ≤ 2000000) : zq85 (str l) (str [c]) = some ((spl1 c l).map str) := by
 unfold zq85 splitM
 rw [if_pos ⟨by rw [str_s]; omega, by rw [str_s]; simp⟩]
 have h := splitB_one (s := str l) (t := str [c]) (c := c) rfl
 rw [str_l] at h
 rw [← h, List.map_map]
 congr 1
 have : (str ∘ fun x : ByteArray => x.data.toList) = id := by funext x; exact (str_of x).symm
 rw [this, List.map_id]
theorem spl1_len (c : UInt8) : ∀ (l : List UInt8) (w : List UInt8), w ∈ spl1 c l → w.length ≤ l.length
 | [], w, h => by simp [spl1] at h; subst h; simp
 | x :: r, w, h => by
  by_cases hx : x = c
  ·rw [spl1, if_pos hx] at h
   rcases List.mem_cons.1 h with rfl | h
   ·simp
   ·have := spl1_len c r w h; simp; omega
  ·obtain ⟨a, t, h1, h2⟩ := spl1_cons (r := r) hx
   rw [h2] at h
   rcases List.mem_cons.1 h with rfl | h
   ·have := spl1_len c r a (by rw [h1]; simp); simp; omega
   ·have := spl1_len c r w (by rw [h1]; simp [h]); simp; omega
theorem suf_one (w : List UInt8) (c : UInt8) : [c].isSuffixOf (w ++ [c]) = true := List.isSuffixOf_iff_suffix.2 (List.suffix_append w [c])
theorem take_one (w : List UInt8) (c : UInt8) : (w ++ [c]).take ((w ++ [c]).length - [c].length) = w := by simp
instance (x : UInt8) : Decidable (Dig x) := by unfold Dig; infer_instance
def pv (a b d e : UInt8) : Int := (((a.toNat : Int) - 48) * 10 + ((b.toNat : Int) - 48)) * 60 + ((d.toNat : Int) - 48) * 10 + ((e.toNat : Int) - 48)
theorem ptime_loop (a b c d e : UInt8) : iter (zq7_L1 (str [a, b, c, d, e])) (0 : Int) = some (if Dig a ∧ Dig b ∧ Dig d ∧ Dig e then .go () else .ret (0, false)) := by
 have st : ∀ (i j : Int) (x : UInt8), idx ([0, 1, 3, 4] : List Int) i = some j → 0 ≤ i ∧ i < 4 → 0 ≤ j ∧ j < 5 → [a, b, c, d, e].getD j.toNat 0 = x → zq7_L1 (str [a, b, c, d, e]) i = some (if Dig x then .nx (w64 (i + 1)) else .dn (.ret (0, false))) := by
  intro i j x h1 h2 h3 h4
  unfold zq7_L1
  dsimp only
  rw [if_pos (by simp only [decide_eq_true_eq]; omega), chk_of h2, Option.bind_some, h1, Option.bind_some, chk_of ⟨h3.1, by rw [str_s]; exact h3.2⟩, Option.bind_some, Option.bind_some, str_l, h4]
  have hD : Dig x ↔ 48 ≤ x.toNat ∧ x.toNat ≤ 57 := Iff.rfl
  by_cases k1 : (x.toNat : Int) < 48
  ·rw [decide_eq_true k1, if_pos rfl, Option.bind_some, if_pos rfl, if_neg (by rw [hD]; omega)]
  ·rw [decide_eq_false k1, if_neg (by simp), Option.bind_some]
   by_cases k2 : (57 : Int) < x.toNat
   ·rw [decide_eq_true k2, if_pos rfl, if_neg (by rw [hD]; omega)]
   ·rw [decide_eq_false k2, if_neg (by simp), if_pos (by rw [hD]; omega)]
 have e4 : zq7_L1 (str [a, b, c, d, e]) (4 : Int) = some (.dn (.go ())) := rfl
 have s0 := st 0 0 a rfl (by omega) (by omega) rfl
 have s1 := st 1 1 b rfl (by omega) (by omega) rfl
 have s2 := st 2 3 d rfl (by omega) (by omega) rfl
 have s3 := st 3 4 e rfl (by omega) (by omega) rfl
 by_cases ha : Dig a
 ·rw [if_pos ha] at s0
  rw [iter_nx s0, show w64 (0 + 1) = 1 from rfl]
  by_cases hb : Dig b
  ·rw [if_pos hb] at s1
   rw [iter_nx s1, show w64 (1 + 1) = 2 from rfl]
   by_cases hd : Dig d
   ·rw [if_pos hd] at s2
    rw [iter_nx s2, show w64 (2 + 1) = 3 from rfl]
    by_cases he : Dig e
    ·rw [if_pos he] at s3
     rw [iter_nx s3, show w64 (3 + 1) = 4 from rfl, iter_dn e4, if_pos ⟨ha, hb, hd, he⟩]
    ·rw [if_neg he] at s3
     rw [iter_dn s3, if_neg (fun h => he h.2.2.2)]
   ·rw [if_neg hd] at s2
    rw [iter_dn s2, if_neg (fun h => hd h.2.2.1)]
  ·rw [if_neg hb] at s1
   rw [iter_dn s1, if_neg (fun h => hb h.2.1)]
 ·rw [if_neg ha] at s0
  rw [iter_dn s0, if_neg (fun h => ha h.1)]
theorem ptime_five (a b c d e : UInt8) : Tot (zq7 (str [a, b, c, d, e])) fun r => Dig a → Dig b → c = 58 → Dig d → Dig e → d.toNat ≤ 53 → 0 ≤ pv a b d e ∧ pv a b d e ≤ 1799 → r = (pv a b d e, true) := by
 have ck : ∀ i : Int, 0 ≤ i → i < 5 → chk ((0 : Int) ≤ i ∧ i < ((str [a, b, c, d, e]).size : Int)) = some () := fun i h0 h1 => chk_of ⟨h0, by rw [str_s]; simpa using h1⟩
 unfold zq7
 rw [if_neg (by rw [str_s]; simp), ck 2 (by omega) (by omega), Option.bind_some, Option.bind_some]
 have g0 : (str [a, b, c, d, e]).data.toList.getD (0 : Int).toNat 0 = a := rfl
 have g1 : (str [a, b, c, d, e]).data.toList.getD (1 : Int).toNat 0 = b := rfl
 have g2 : (str [a, b, c, d, e]).data.toList.getD (2 : Int).toNat 0 = c := rfl
 have g3 : (str [a, b, c, d, e]).data.toList.getD (3 : Int).toNat 0 = d := rfl
 have g4 : (str [a, b, c, d, e]).data.toList.getD (4 : Int).toNat 0 = e := rfl
 rw [g0, g1, g2, g3, g4, ck 0 (by omega) (by omega), ck 1 (by omega) (by omega), ck 3 (by omega) (by omega), ck 4 (by omega) (by omega), ptime_loop]
 by_cases hc : c = 58
 ·rw [if_neg (by simp [hc])]
  by_cases hd : Dig a ∧ Dig b ∧ Dig d ∧ Dig e
  ·rw [if_pos hd]
   simp only [flb, Option.bind_some]
   have ha := hd.1; have hb := hd.2.1; have h3 := hd.2.2.1; have h4 := hd.2.2.2
   unfold Dig at ha hb h3 h4
   have ev : (w64 ((w64 ((w64 ((w64 ((w64 ((w64 ((IntKind.u8.wrap ((a.toNat : Int) - 48)))) * 10)) + (w64 ((IntKind.u8.wrap ((b.toNat : Int) - 48)))))) * 60)) + (w64 ((w64 ((IntKind.u8.wrap ((d.toNat : Int) - 48)))) * 10)))) + (w64 ((IntKind.u8.wrap ((e.toNat : Int) - 48)))))) = pv a b d e := by
    rw [IntKind.wrap_u8, IntKind.wrap_u8, IntKind.wrap_u8, IntKind.wrap_u8]
    have q1 : ((a.toNat : Int) - 48) % 256 = (a.toNat : Int) - 48 := by omega
    have q2 : ((b.toNat : Int) - 48) % 256 = (b.toNat : Int) - 48 := by omega
    have q3 : ((d.toNat : Int) - 48) % 256 = (d.toNat : Int) - 48 := by omega
    have q4 : ((e.toNat : Int) - 48) % 256 = (e.toNat : Int) - 48 := by omega
    rw [q1, q2, q3, q4]
    unfold pv
    simp (disch := omega) only [w64_id]
   rw [ev, itime24_eq]
   by_cases h5 : (53 : Int) < d.toNat
   ·rw [decide_eq_true h5]
    exact .ok fun _ _ _ _ _ h6 => absurd h6 (by omega)
   ·rw [decide_eq_false h5]
    by_cases h7 : 0 ≤ pv a b d e ∧ pv a b d e ≤ 1799
    ·rw [decide_eq_true h7]
     exact .ok fun _ _ _ _ _ _ _ => rfl
    ·rw [decide_eq_false h7]
     exact .ok fun _ _ _ _ _ _ h8 => absurd h8 h7
  ·rw [if_neg hd]
   exact .ok fun h1 h2 _ h3 h4 => absurd ⟨h1, h2, h3, h4⟩ hd
 ·have : (((c.toNat : Int)) != 58) = true := by
   simp only [bne_iff_ne, ne_eq]
   intro h
   exact hc (UInt8.toNat_inj.1 (by show c.toNat = 58; omega))
  rw [if_pos this]
  exact .ok fun _ _ h => absurd h hc
theorem ptime_tot (w : List UInt8) : ∃ r, zq7 (str w) = some r := by
 by_cases h : w.length = 5
 ·obtain ⟨a, b, c, d, e, rfl⟩ := five h
  obtain ⟨r, hr, _⟩ := ptime_five a b c d e
  exact ⟨r, hr⟩
 ·refine ⟨(0, false), ?_⟩
  unfold zq7
  rw [if_pos (by rw [str_s]; simp; omega)]
  rfl
theorem ptime_hit {a : Int} (ha : TmOK a) : zq7 (str (clk a.toNat)) = some (a, true) := by
 obtain ⟨h0, h1⟩ := ha
 obtain ⟨n, rfl⟩ : ∃ n : Nat, a = n := ⟨a.toNat, by omega⟩
 have hn : n ≤ 1799 := by omega
 rw [Int.toNat_natCast]
 obtain ⟨r, hr, hq⟩ := ptime_five (UInt8.ofNat (48 + n / 60 / 10)) (UInt8.ofNat (48 + n / 60 % 10)) 58 (UInt8.ofNat (48 + n % 60 / 10)) (UInt8.ofNat (48 + n % 60 % 10))
 have e : pv (UInt8.ofNat (48 + n / 60 / 10)) (UInt8.ofNat (48 + n / 60 % 10)) (UInt8.ofNat (48 + n % 60 / 10)) (UInt8.ofNat (48 + n % 60 % 10)) = n := by
  unfold pv
  rw [UInt8.toNat_ofNat', UInt8.toNat_ofNat', UInt8.toNat_ofNat', UInt8.toNat_ofNat']
  omega
 have hr2 := hq (by unfold Dig; rw [UInt8.toNat_ofNat']; omega) (by unfold Dig; rw [UInt8.toNat_ofNat']; omega) rfl (by unfold Dig; rw [UInt8.toNat_ofNat']; omega) (by unfold Dig; rw [UInt8.toNat_ofNat']; omega) (by rw [UInt8.toNat_ofNat']; omega) (by rw [e]; omega)
 rw [e] at hr2
 rw [← hr2]
 exact hr
theorem cuts_ok (w s : List UInt8) (h : w.length ≤ 2000000) : zq84 (str w) (str s) = some (if s.isSuffixOf w = true then (str (w.take (w.length - s.length)), true) else (str w, false)) := by
 unfold zq84 cutSuffixM Lib.trimSuffix Lib.hasSuffix
 rw [if_pos (by rw [str_s]; omega), str_l, str_l]
 by_cases h1 : s.isSuffixOf w = true
 ·simp [h1, str]
 ·simp [h1, str]
theorem get_nat {α : Type} {l : List α} {i : Nat} {x : α} (h : l[(i : Int).toNat]? = some x) : l[i]? = some x := by rwa [Int.toNat_natCast] at h
theorem beq_ba (x y : ByteArray) : (x.toList == y.toList) = decide (x = y) := by
 have h := beq_str x.data.toList y.data.toList
 rw [← str_of x, ← str_of y] at h
 rw [h]
 congr 1
 apply propext
 constructor
 ·intro h2; rw [str_of x, h2, ← str_of y]
 ·intro h2; rw [h2]
def Pc {α : Type} (m : Option α) (Q : α → Prop) : Prop := ∀ r, m = some r → Q r
theorem Pc.call {α β : Type} {m : Option α} {P : α → Prop} {k : α → Option β} {Q : β → Prop} (h : Tot m P) (hk : ∀ x, P x → Pc (k x) Q) : Pc (m.bind k) Q := by
 obtain ⟨x, hx, hp⟩ := h
 subst hx
 exact hk x hp
theorem Pc.any {α β : Type} {m : Option α} {k : α → Option β} {Q : β → Prop} (hk : ∀ x, Pc (k x) Q) : Pc (m.bind k) Q := by
 intro r hr
 obtain ⟨x, _, hx⟩ := obind hr
 exact hk x r hx
theorem Pc.bind {α β : Type} {m : Option α} {k : α → Option β} {P : α → Prop} {Q : β → Prop} (h : Pc m P) (hk : ∀ x, P x → Pc (k x) Q) : Pc (m.bind k) Q := by
 intro r hr
 obtain ⟨x, hm, hx⟩ := obind hr
 exact hk x (h x hm) r hx
theorem Pc.ok {α : Type} {a : α} {Q : α → Prop} (h : Q a) : Pc (some a) Q := by intro r hr; cases hr; exact h
theorem Pc.ite {α : Type} {c : Bool} {a b : Option α} {Q : α → Prop} (h1 : Pc a Q) (h2 : Pc b Q) : Pc (if c = true then a else b) Q := by
 cases c
 ·exact h2
 ·exact h1
theorem Pc.flb {R V : Type} {m : Option (Fl R V)} {k : V → Option R} {Q : R → Prop} (h : Pc m fun v => (∀ r, v = .ret r → Q r) ∧ ∀ u, v = .go u → Pc (k u) Q) : Pc (Ab.flb m k) Q := by
 intro r hr
 obtain ⟨v, hv, h2⟩ := obind hr
 have := h v hv
 cases v with
 | ret r' => cases h2; exact this.1 _ rfl
 | go u => exact this.2 u rfl r h2
theorem Pc.go {R V : Type} {u : V} {Q : R → Prop} {P : V → Prop} (h : P u) : Pc (some (Fl.go u : Fl R V)) fun v => (∀ r, v = .ret r → Q r) ∧ ∀ u, v = .go u → P u := Pc.ok ⟨fun r h => (by cases h), fun u' h => by cases h; assumption⟩
theorem Pc.ret {R V : Type} {r : R} {Q : R → Prop} {P : V → Prop} (h : Q r) : Pc (some (Fl.ret r : Fl R V)) fun v => (∀ r, v = .ret r → Q r) ∧ ∀ u, v = .go u → P u := Pc.ok ⟨fun r' h => by cases h; assumption, fun u h => by cases h⟩
theorem Tot.pc {α : Type} {m : Option α} {P Q : α → Prop} (h : Tot m P) (hq : Pc m Q) : Tot m fun r => P r ∧ Q r := by
 obtain ⟨x, hx, hp⟩ := h
 exact ⟨x, hx, hp, hq x hx⟩
theorem Pc.of {α : Type} {m : Option α} {P : α → Prop} (h : Tot m P) : Pc m P := by
 obtain ⟨x, hx, hp⟩ := h
 intro r hr
 rw [hx] at hr; cases hr; exact hp
theorem Pc.mono {α : Type} {m : Option α} {P Q : α → Prop} (h : Pc m P) (hk : ∀ a, P a → Q a) : Pc m Q := fun r hr => hk r (h r hr)
theorem Pc.iteP {α : Type} {c : Prop} [Decidable c] {a b : Option α} {Q : α → Prop} (h1 : c → Pc a Q) (h2 : ¬ c → Pc b Q) : Pc (if decide c = true then a else b) Q := by
 by_cases h : c
 ·rw [decide_eq_true h, if_pos rfl]; exact h1 h
 ·rw [decide_eq_false h, if_neg (by simp)]; exact h2 h
theorem Pc.idx {α β : Type} {l : List α} {i : Int} {k : α → Option β} {Q : β → Prop} (hk : ∀ x, x ∈ l → Pc (k x) Q) : Pc ((Ab.idx l i).bind k) Q := by
 intro r hr
 obtain ⟨x, hx, h2⟩ := obind hr
 exact hk x (List.mem_of_getElem? (idx_some hx).2.2) r h2
theorem Pc.iter {A B : Type} {step : A → Option (Lp A B)} (I : A → Prop) {Q : B → Prop} {a : A} (h0 : I a)
  (h : ∀ a, I a → Pc (step a) fun r => (∀ a', r = .nx a' → I a') ∧ ∀ b, r = .dn b → Q b) : Pc (Ab.iter step a) Q := by
 intro r hr
 obtain ⟨n, hn⟩ := iter_some.1 hr
 clear hr
 induction n generalizing a with
 | zero => cases hn
 | succ n ih =>
  unfold iterN at hn
  cases hs : step a with
  | none => rw [hs] at hn; cases hn
  | some x =>
   rw [hs] at hn
   have h1 := h a h0 x hs
   cases x with
   | nx a' => exact ih (h1.1 a' rfl) hn
   | dn b => cases hn; exact h1.2 _ rfl
theorem Pc.nx {A B : Type} {a : A} {P : A → Prop} {Q : B → Prop} (h : P a) : Pc (some (Lp.nx a : Lp A B)) fun r => (∀ a', r = .nx a' → P a') ∧ ∀ b, r = .dn b → Q b :=
 .ok ⟨fun a' e => by cases e; exact h, fun b e => by cases e⟩
theorem Pc.dn {A B : Type} {b : B} {P : A → Prop} {Q : B → Prop} (h : Q b) : Pc (some (Lp.dn b : Lp A B)) fun r => (∀ a', r = .nx a' → P a') ∧ ∀ b, r = .dn b → Q b :=
 .ok ⟨fun a' e => (by cases e), fun b' e => (by cases e; exact h)⟩
theorem next_pc (c : l1Cur) : Pc (zq45 c) fun r => 0 ≤ r.1 ∧ r.1 ≤ 255 := by
 unfold zq45
 refine .bind (P := fun v => 0 ≤ v ∧ v ≤ 255) (.ite (.any fun e => .ok ?_) (.ok ⟨by omega, by omega⟩)) fun v hv => .ite (.ok hv) (.any fun u => .ok (and255 _))
 have := e.toNat_lt
 rw [w64_id (by omega)]
 omega
theorem pick_pc (c : l1Cur) (n : Int) : Pc (zq49 c n) fun r => 0 ≤ r.1 ∧ (r.1 < n ∨ r.1 = 0) := by
 unfold zq49
 refine .iteP (fun h => .ok ⟨by show (0 : Int) ≤ 0; omega, .inr rfl⟩) (fun h => .bind (next_pc c) fun r h1 => .bind (P := fun o => 0 ≤ o.1) (.ite (.bind (next_pc _) fun r1 h2 => .ok ?_) (.ok h1.1)) fun ⟨v, v1, v2, v3⟩ hv => .any fun u => .ok ?_)
 ·show 0 ≤ w64 (w64 (r.1 * 256) + r1.1)
  rw [w64_id (x := r.1 * 256) (by omega), w64_id (by omega)]; omega
 ·have hv : 0 ≤ v := hv
  show 0 ≤ v.tmod n ∧ (v.tmod n < n ∨ v.tmod n = 0)
  have h1 := Int.tmod_eq_emod_of_nonneg (b := n) hv
  have h2 := Int.emod_nonneg v (b := n) (by omega)
  have h3 := Int.emod_lt_of_pos v (b := n) (by omega)
  omega
theorem step_rng {v stops q : Int} (hs : 2 ≤ stops ∧ stops ≤ 1000) (hv : 0 ≤ v ∧ v < stops) (hq : 0 ≤ q ∧ q ≤ 10) : 0 ≤ (w64 (w64 (v + 1) + q)).tmod stops ∧ (w64 (w64 (v + 1) + q)).tmod stops < stops := by
 rw [w64_id (x := v + 1) (by omega), w64_id (by omega)]
 have h1 := Int.tmod_eq_emod_of_nonneg (a := v + 1 + q) (b := stops) (by omega)
 have h2 := Int.emod_nonneg (v + 1 + q) (b := stops) (by omega)
 have h3 := Int.emod_lt_of_pos (v + 1 + q) (b := stops) (by omega)
 omega
theorem mem_snoc {α : Type} {P : α → Prop} {l : List α} {x : α} (h : ∀ y ∈ l, P y) (hx : P x) : ∀ y ∈ l ++ [x], P y := by
 intro y hy
 rcases List.mem_append.1 hy with hy | hy
 ·exact h y hy
 ·simp at hy; subst hy; exact hx
theorem line_pc (c : l1Cur) (name : ByteArray) (stops : Int) (hs : 2 ≤ stops ∧ stops ≤ 1000) : Pc (zq41 c name stops) fun r => (∀ s ∈ r.1.Stops, 0 ≤ s ∧ s < stops) ∧ (∀ q ∈ r.1.Runs, 1 ≤ q ∧ q ≤ 60) ∧ r.1.Name = name := by
 unfold zq41
 refine .bind (pick_pc c stops) fun r h0 => .any fun r1 => .bind (P := fun o => ∀ s ∈ o.2.2.2, 0 ≤ s ∧ s < stops) (.iter (fun s => (0 ≤ s.1 ∧ s.1 < stops) ∧ ∀ x ∈ s.2.2.2.2.2, 0 ≤ x ∧ x < stops) ⟨by show 0 ≤ r.1 ∧ r.1 < stops; omega, by simp⟩ ?_) fun ⟨v7, v8, v9, v10⟩ h10 => ?_
 ·rintro ⟨v, v1, v2, v3, v4, v5⟩ ⟨hv, hl⟩
  dsimp only at hv hl
  unfold zq41_L1
  dsimp only
  refine .ite (.bind (P := fun o => ∀ x ∈ o, 0 ≤ x ∧ x < stops) (.any fun r2 => .ite (.any fun u => .ok (mem_snoc hl hv)) (.ok hl)) fun v6 h6 => .bind (pick_pc _ 2) fun r3 h3 => .any fun u1 => .nx ⟨step_rng hs hv (by omega), h6⟩) (.dn hl)
 ·dsimp only at h10 ⊢
  refine .bind (P := fun o => ∀ x ∈ o, 0 ≤ x ∧ x < stops) (.ite (.idx fun e1 he => .any fun u4 => .any fun u5 => .ok (mem_snoc h10 ?_)) (.ok h10)) fun v11 h11 => .bind (P := fun o => ∀ x ∈ o.2.2.2, 1 ≤ x ∧ x ≤ 60) (.iter (fun s => ∀ x ∈ s.2.2.2.2, 1 ≤ x ∧ x ≤ 60) (by simp) ?_) fun ⟨v17, v18, v19, v20⟩ h20 => .ok ⟨h11, h20, rfl⟩
  ·have := step_rng (q := 0) hs (h10 e1 he) (by omega)
   rw [w64_id (x := e1 + 1) (by have := h10 e1 he; omega), show e1 + 1 + 0 = e1 + 1 by omega] at this
   exact this
  ·rintro ⟨v12, v13, v14, v15, v16⟩ hl
   dsimp only at hl
   unfold zq41_L2
   dsimp only
   refine .ite (.bind (pick_pc _ 12) fun r5 h5 => .any fun u7 => .nx (mem_snoc hl ?_)) (.dn hl)
   rw [w64_id (by omega)]; omega
theorem lineF_pc (c : l1Cur) (name : ByteArray) (stops : Int) (hs : 2 ≤ stops ∧ stops ≤ 1000) : Pc (zq42 c name stops) fun r => (∀ s ∈ r.1.Stops, 0 ≤ s ∧ s < stops) ∧ (∀ q ∈ r.1.Runs, 1 ≤ q ∧ q ≤ 60) ∧ r.1.Name = name := line_pc c name stops hs
theorem backF_pc (l : List Int) : Pc (zq57 l) fun m => ∀ x ∈ m, x ∈ l := by
 unfold zq57
 refine .bind (.iter (fun s => ∀ x ∈ s.2, x ∈ l) (by simp) ?_) fun i1 h1 => .ok h1
 rintro ⟨v, i⟩ h
 unfold zq57_L1
 dsimp only
 exact .ite (.idx fun e he => .any fun u => .nx (mem_snoc h he)) (.dn h)
def LD (st : Int) (x : Line) : Prop := (∀ s ∈ x.Stops, 0 ≤ s ∧ s < st) ∧ (∀ q ∈ x.Runs, 1 ≤ q ∧ q ≤ 60) ∧ x.Name.size ≤ 20
theorem ownF_pc (l : List Int) : Pc (zq55 l) fun m => m = l := by
 unfold zq55
 exact .any fun u => .ok (by simp)
theorem ownT_pc (n : Network) : Pc (zq64 n) fun m => m.Stops = n.Stops ∧ ∀ x ∈ m.Lines, x ∈ n.Lines := by
 unfold zq64
 refine .any fun u => .bind (.iter (fun s => ∀ x ∈ s.2, x ∈ n.Lines) (by simp) ?_) fun v2 h2 => .ok ⟨by simp, h2⟩
 rintro ⟨v, v1⟩ h
 unfold zq64_L1
 dsimp only
 refine .ite ?_ (.dn h)
 cases hx : idx n.Lines v with
 | none => exact fun r hr => by cases hr
 | some e =>
  simp only [Option.bind_some]
  exact .bind (ownF_pc _) fun r2 h2 => .bind (ownF_pc _) fun r3 h3 => .any fun u2 => .nx (mem_snoc h (by rw [h2, h3]; exact List.mem_of_getElem? (idx_some hx).2.2))
def ND (n : Network) : Prop := (∀ x ∈ n.Lines, LD n.Stops.length x) ∧ ∀ s ∈ n.Stops, s.size ≤ 20
theorem networkT_pc (c : l1Cur) : Pc (zq44 c) fun r => ND r.1 := by
 unfold zq44
 refine .bind (pick_pc c 5) fun r h0 => ?_
 have e1 : w64 (2 + r.1) = 2 + r.1 := w64_id (by omega)
 rw [e1]
 refine .any fun u => .bind (pick_pc _ 3) fun r1 h1 => ?_
 have e2 : w64 (1 + r1.1) = 1 + r1.1 := w64_id (by omega)
 rw [e2]
 refine .bind (P := fun o => ∀ x ∈ o.2.2.2, LD (2 + r.1) x) (.iter (fun s => (s.1 ≤ 5) ∧ ∀ x ∈ s.2.2.2.2, LD (2 + r.1) x) ⟨by show 1 + r1.1 ≤ 5; omega, by simp⟩ ?_) fun ⟨v4, v5, v6, v7⟩ h7 => ?_
 ·rintro ⟨x, v, v1, v2, v3⟩ ⟨hx, hl⟩
  dsimp only at hx hl
  unfold zq44_L1
  dsimp only
  rw [e1]
  refine .iteP (fun hc => .call (l1Num_ok x (by omega) (by omega)) fun r4 h4 => .any fun u3 => .bind (lineF_pc _ _ _ (by omega)) fun r5 ⟨a, b, d⟩ => .any fun u4 => .nx ⟨?_, mem_snoc hl ⟨a, b, ?_⟩⟩) (fun _ => .dn hl)
  ·show w64 (x - 1) ≤ 5
   rw [w64_id (by omega)]; omega
  ·rw [d, ByteArray.size_append]
   have : (str [108]).size = 1 := rfl
   omega
 ·dsimp only at h7 ⊢
  refine .bind (P := fun o => ∀ x ∈ o.2.2.2, LD (2 + r.1) x) (.any fun r6 => .ite (.idx fun e he => .bind (backF_pc _) fun r9 h9 => .bind (backF_pc _) fun r10 h10 => .any fun u6 => .ok (mem_snoc h7 ?_)) (.ok h7)) fun ⟨v8, v9, v10, v11⟩ h11 => .bind (ownT_pc _) fun r11 ⟨h12, h13⟩ => .ok ?_
  ·have hd := h7 e he
   exact ⟨fun s hs => hd.1 s (h9 s hs), fun s hs => hd.2.1 s (h10 s hs), by show (str [114, 49]).size ≤ 20; decide⟩
  ·have hsix : ∀ s ∈ ([(str [112, 111, 114, 116]), (str [109, 105, 108, 108]), (str [112, 97, 114, 107]), (str [104, 97, 108, 108]), (str [100, 111, 99, 107]), (str [102, 97, 105, 114])] : List ByteArray), s.size ≤ 20 := by decide
   refine ⟨fun x hx => ?_, fun s hs => ?_⟩
   ·have := h11 x (h13 x hx)
    have hl : (r11.Stops.length : Int) = 2 + r.1 := by
     rw [h12]
     simp only [List.length_drop, List.length_take, List.length_cons, List.length_nil]
     omega
    show LD (r11.Stops.length : Int) x
    rw [hl]; exact this
   ·have hs : s ∈ r11.Stops := hs
    rw [h12] at hs
    exact hsix s (List.mem_of_mem_take (List.mem_of_mem_drop hs))
def TD (t : Timetable) : Prop := ND t.Network ∧ ∀ x ∈ t.Trips, (0 ≤ x.Line ∧ x.Line < t.Network.Lines.length) ∧ (0 ≤ x.Start ∧ x.Start ≤ 1799) ∧ 0 ≤ x.Id ∧ x.Id ≤ 1000
theorem timetable_pc {k : Nat} {c : l1Cur} (h : Cur k c) (hk : k ≤ 50000000) : Pc (zq51 c) fun r => TD r.1 := by
 unfold zq51
 refine .bind (P := fun r => ND r.1 ∧ 1 ≤ r.1.Lines.length) (fun r hr => ⟨networkT_pc c r hr, ?_⟩) fun r ⟨hn, hl⟩ => .bind (pick_pc _ 8) fun r1 h1 => .bind (P := fun o => ∀ x ∈ o.2.2.2, (0 ≤ x.Line ∧ x.Line < (r.1.Lines.length : Int)) ∧ (0 ≤ x.Start ∧ x.Start ≤ 1799) ∧ 0 ≤ x.Id ∧ x.Id ≤ 1000) (.iter (fun s => (0 ≤ s.2.1 ∧ s.2.1 ≤ 7) ∧ (0 ≤ s.1 ∧ s.1 ≤ 3 * (7 - s.2.1)) ∧ ∀ x ∈ s.2.2.2.2.2, (0 ≤ x.Line ∧ x.Line < (r.1.Lines.length : Int)) ∧ (0 ≤ x.Start ∧ x.Start ≤ 1799) ∧ 0 ≤ x.Id ∧ x.Id ≤ 1000) ⟨by show 0 ≤ r1.1 ∧ r1.1 ≤ 7; omega, by show (0 : Int) ≤ 0 ∧ (0 : Int) ≤ 3 * (7 - r1.1); omega, by simp⟩ ?_) fun ⟨v5, v6, v7, v8⟩ h8 => .ok ⟨hn, h8⟩
 ·obtain ⟨q, hq, _, hnb⟩ := networkT_ok h (by omega)
  have hr : zq44 c = some r := hr
  rw [hq] at hr; cases hr
  exact hnb.2.1.1
 ·rintro ⟨n, v, v1, v2, v3, v4⟩ ⟨hv, hn', hx⟩
  dsimp only at hv hn' hx
  unfold zq51_L1
  dsimp only
  refine .iteP (fun hc => .bind (pick_pc _ 3) fun r2 h2 => .bind (pick_pc _ _) fun r5 h5 => .bind (pick_pc _ 24) fun r6 h6 => .any fun u1 => .nx ?_) (fun _ => .dn hx)
  have w1 : w64 (w64 (n + 1) + r2.1) = n + 1 + r2.1 := by rw [w64_id (x := n + 1) (by omega), w64_id (by omega)]
  have w2 : w64 (v - 1) = v - 1 := w64_id (by omega)
  have w3 : w64 (360 + w64 (5 * r6.1)) = 360 + 5 * r6.1 := by rw [w64_id (x := 5 * r6.1) (by omega), w64_id (by omega)]
  rw [w1, w2, w3]
  refine ⟨by show 0 ≤ v - 1 ∧ v - 1 ≤ 7; omega, by show 0 ≤ n + 1 + r2.1 ∧ n + 1 + r2.1 ≤ 3 * (7 - (v - 1)); omega, mem_snoc hx ?_⟩
  dsimp only
  omega
def inter {α : Type} : List α → List α → List α
 | [], _ => []
 | a :: as', bs => a :: inter bs as'
 termination_by a b => a.length + b.length
theorem inter_nil {α : Type} (b : List α) : inter [] b = [] := by rw [inter]
theorem inter_cons {α : Type} (x : α) (a b : List α) : inter (x :: a) b = x :: inter b a := by rw [inter]
theorem inter_snoc1 {α : Type} (x : α) : ∀ (k : Nat) (a b : List α), a.length = k → b.length = k → inter (a ++ [x]) b = inter a b ++ [x]
 | 0, a, b, ha, hb => by
  have := List.eq_nil_of_length_eq_zero ha
  have := List.eq_nil_of_length_eq_zero hb
  subst a; subst b
  rw [List.nil_append, inter_cons, inter_nil]; rfl
 | k + 1, a :: a', b :: b', ha, hb => by
  have ih := inter_snoc1 x k a' b' (by simpa using ha) (by simpa using hb)
  rw [List.cons_append, inter_cons, inter_cons, ih, inter_cons, inter_cons]; rfl
theorem inter_snoc2 {α : Type} (x : α) (a b : List α) (h : a.length = b.length + 1) : inter a (b ++ [x]) = inter a b ++ [x] := by
 cases a with
 | nil => simp at h
 | cons y a =>
  rw [inter_cons, inter_cons, inter_snoc1 x b.length b a rfl (by simp at h; omega)]; rfl
theorem inter_len {α : Type} : ∀ (k : Nat) (a b : List α), a.length = b.length + 1 → b.length = k → (inter a b).length = a.length + b.length
 | 0, a, b, h, hk => by
  have := List.eq_nil_of_length_eq_zero hk
  subst b
  match a, h with
  | [x], _ => rw [inter_cons, inter_nil]; rfl
 | k + 1, x :: a, y :: b, h, hk => by
  have ih := inter_len k a b (by simpa using h) (by simpa using hk)
  rw [inter_cons, inter_cons]
  simp only [List.length_cons, ih]; omega
theorem inter_mem {α : Type} : ∀ (k : Nat) (a b : List α) (x : α), a.length + b.length = k → x ∈ inter a b → x ∈ a ∨ x ∈ b
 | k, [], b, x, _, h => by rw [inter_nil] at h; cases h
 | 0, y :: a, b, x, hk, h => by simp at hk
 | k + 1, y :: a, b, x, hk, h => by
  rw [inter_cons] at h
  rcases List.mem_cons.1 h with rfl | h
  ·exact .inl (by simp)
  ·rcases inter_mem k b a x (by simp at hk; omega) h with h | h
   ·exact .inr h
   ·exact .inl (by simp [h])
theorem inter_get {α : Type} : ∀ (k : Nat) (a b : List α) (j : Nat), a.length = b.length + 1 → b.length = k → (inter a b)[2 * j]? = a[j]? ∧ (inter a b)[2 * j + 1]? = b[j]?
 | 0, a, b, j, h, hk => by
  have := List.eq_nil_of_length_eq_zero hk
  subst b
  match a, h with
  | [x], _ =>
   rw [inter_cons, inter_nil]
   cases j with
   | zero => simp
   | succ j => simp
 | k + 1, x :: a, y :: b, j, h, hk => by
  rw [inter_cons, inter_cons]
  cases j with
  | zero => simp
  | succ j =>
   have ih := inter_get k a b j (by simpa using h) (by simpa using hk)
   rw [show 2 * (j + 1) = 2 * j + 1 + 1 by omega]
   simp only [List.getElem?_cons_succ]
   exact ih
theorem join_flat (c : UInt8) (a : List UInt8) : ∀ ws : List (List UInt8), Lib.join (a :: ws) [c] = a ++ ws.flatMap (c :: ·)
 | [] => by simp [Lib.join, List.intercalate]
 | w :: ws => by
  have ih := join_flat c w ws
  have e : Lib.join (a :: w :: ws) [c] = a ++ c :: Lib.join (w :: ws) [c] := by simp [Lib.join, List.intercalate]
  rw [e, ih]; simp
theorem join_end (c : UInt8) : ∀ ws : List (List UInt8), ws ≠ [] → ws.flatMap (· ++ [c]) = Lib.join ws [c] ++ [c]
 | [w], _ => by simp [Lib.join, List.intercalate]
 | w :: v :: ws, _ => by
  have ih := join_end c (v :: ws) (by simp)
  have e : Lib.join (w :: v :: ws) [c] = w ++ c :: Lib.join (v :: ws) [c] := by simp [Lib.join, List.intercalate]
  rw [List.flatMap_cons, ih, e]; simp
def wStop : List UInt8 := [115, 116, 111, 112]
def wLine : List UInt8 := [108, 105, 110, 101]
def wTrip : List UInt8 := [116, 114, 105, 112]
def nmS (n : Network) (s : Int) : List UInt8 := (n.Stops.getD s.toNat ByteArray.empty).data.toList
def lnW (n : Network) (l : Line) : List (List UInt8) := wLine :: l.Name.data.toList :: inter (l.Stops.map (nmS n)) (l.Runs.map Lib.itoa)
def stW (s : ByteArray) : List (List UInt8) := [wStop, s.data.toList]
def trW (n : Network) (x : Trip) : List (List UInt8) := [wTrip, Lib.itoa x.Id, ((n.Lines.map (·.Name)).getD x.Line.toNat ByteArray.empty).data.toList, clk x.Start.toNat]
def netW (n : Network) : List (List (List UInt8)) := n.Stops.map stW ++ n.Lines.map (lnW n)
def ttW (t : Timetable) : List (List (List UInt8)) := netW t.Network ++ t.Trips.map (trW t.Network)
def ofW (ws : List (List (List UInt8))) : List UInt8 := ws.flatMap fun w => Lib.join w [32] ++ [10]
theorem ofW_app (a b : List (List (List UInt8))) : ofW (a ++ b) = ofW a ++ ofW b := by unfold ofW; rw [List.flatMap_append]
theorem ofW_one (w : List (List UInt8)) : ofW [w] = Lib.join w [32] ++ [10] := by simp [ofW]
theorem ofW_join (ws : List (List (List UInt8))) (h : ws ≠ []) : ofW ws = Lib.join (ws.map fun w => Lib.join w [32]) [10] ++ [10] := by
 rw [← join_end 10 _ (by simpa using h)]
 unfold ofW
 rw [List.flatMap_map]
theorem ptime_back (a b c d e : UInt8) : Tot (zq7 (str [a, b, c, d, e])) fun r => r.2 = true → (Dig a ∧ Dig b ∧ Dig d ∧ Dig e) ∧ c = 58 ∧ d.toNat ≤ 53 ∧ (0 ≤ pv a b d e ∧ pv a b d e ≤ 1799) ∧ r.1 = pv a b d e := by
 have ck : ∀ i : Int, 0 ≤ i → i < 5 → chk ((0 : Int) ≤ i ∧ i < ((str [a, b, c, d, e]).size : Int)) = some () := fun i h0 h1 => chk_of ⟨h0, by rw [str_s]; simpa using h1⟩
 unfold zq7
 rw [if_neg (by rw [str_s]; simp), ck 2 (by omega) (by omega), Option.bind_some, Option.bind_some]
 have g0 : (str [a, b, c, d, e]).data.toList.getD (0 : Int).toNat 0 = a := rfl
 have g1 : (str [a, b, c, d, e]).data.toList.getD (1 : Int).toNat 0 = b := rfl
 have g2 : (str [a, b, c, d, e]).data.toList.getD (2 : Int).toNat 0 = c := rfl
 have g3 : (str [a, b, c, d, e]).data.toList.getD (3 : Int).toNat 0 = d := rfl
 have g4 : (str [a, b, c, d, e]).data.toList.getD (4 : Int).toNat 0 = e := rfl
 rw [g0, g1, g2, g3, g4, ck 0 (by omega) (by omega), ck 1 (by omega) (by omega), ck 3 (by omega) (by omega), ck 4 (by omega) (by omega), ptime_loop]
 by_cases hc : c = 58
 ·rw [if_neg (by simp [hc])]
  by_cases hd : Dig a ∧ Dig b ∧ Dig d ∧ Dig e
  ·rw [if_pos hd]
   simp only [flb, Option.bind_some]
   have ha := hd.1; have hb := hd.2.1; have h3 := hd.2.2.1; have h4 := hd.2.2.2
   unfold Dig at ha hb h3 h4
   have ev : (w64 ((w64 ((w64 ((w64 ((w64 ((w64 ((IntKind.u8.wrap ((a.toNat : Int) - 48)))) * 10)) + (w64 ((IntKind.u8.wrap ((b.toNat : Int) - 48)))))) * 60)) + (w64 ((w64 ((IntKind.u8.wrap ((d.toNat : Int) - 48)))) * 10)))) + (w64 ((IntKind.u8.wrap ((e.toNat : Int) - 48)))))) = pv a b d e := by
    rw [IntKind.wrap_u8, IntKind.wrap_u8, IntKind.wrap_u8, IntKind.wrap_u8]
    have q1 : ((a.toNat : Int) - 48) % 256 = (a.toNat : Int) - 48 := by omega
    have q2 : ((b.toNat : Int) - 48) % 256 = (b.toNat : Int) - 48 := by omega
    have q3 : ((d.toNat : Int) - 48) % 256 = (d.toNat : Int) - 48 := by omega
    have q4 : ((e.toNat : Int) - 48) % 256 = (e.toNat : Int) - 48 := by omega
    rw [q1, q2, q3, q4]
    unfold pv
    simp (disch := omega) only [w64_id]
   rw [ev, itime24_eq]
   by_cases h5 : (53 : Int) < d.toNat
   ·rw [decide_eq_true h5]
    exact .ok fun h => by cases h
   ·rw [decide_eq_false h5]
    by_cases h7 : 0 ≤ pv a b d e ∧ pv a b d e ≤ 1799
    ·rw [decide_eq_true h7]
     exact .ok fun _ => ⟨hd, hc, by omega, h7, rfl⟩
    ·rw [decide_eq_false h7]
     exact .ok fun h => by cases h
  ·rw [if_neg hd]
   exact .ok fun h => by cases h
 ·have : (((c.toNat : Int)) != 58) = true := by
   simp only [bne_iff_ne, ne_eq]
   intro h
   exact hc (UInt8.toNat_inj.1 (by show c.toNat = 58; omega))
  rw [if_pos this]
  exact .ok fun h => by cases h
theorem u8_is {x : UInt8} {n : Nat} (h : x.toNat = n) : x = UInt8.ofNat n := by
 apply UInt8.toNat_inj.1
 have := x.toNat_lt
 rw [UInt8.toNat_ofNat']
 omega
theorem clk_pv {a b d e : UInt8} (h : Dig a ∧ Dig b ∧ Dig d ∧ Dig e) (hd : d.toNat ≤ 53) : [a, b, 58, d, e] = clk (pv a b d e).toNat := by
 obtain ⟨h1, h2, h3, h4⟩ := h
 unfold Dig at h1 h2 h3 h4
 obtain ⟨A, hA⟩ : ∃ n : Nat, a.toNat = 48 + n := ⟨a.toNat - 48, by omega⟩
 obtain ⟨B, hB⟩ : ∃ n : Nat, b.toNat = 48 + n := ⟨b.toNat - 48, by omega⟩
 obtain ⟨D, hD⟩ : ∃ n : Nat, d.toNat = 48 + n := ⟨d.toNat - 48, by omega⟩
 obtain ⟨E, hE⟩ : ∃ n : Nat, e.toNat = 48 + n := ⟨e.toNat - 48, by omega⟩
 have hp : (pv a b d e).toNat = (A * 10 + B) * 60 + D * 10 + E := by unfold pv; rw [hA, hB, hD, hE]; omega
 have q1 : (pv a b d e).toNat / 60 = A * 10 + B := by omega
 have q2 : (pv a b d e).toNat % 60 = D * 10 + E := by omega
 unfold clk
 rw [q1, q2]
 have e1 : a = UInt8.ofNat (48 + (A * 10 + B) / 10) := u8_is (by omega)
 have e2 : b = UInt8.ofNat (48 + (A * 10 + B) % 10) := u8_is (by omega)
 have e3 : d = UInt8.ofNat (48 + (D * 10 + E) / 10) := u8_is (by omega)
 have e4 : e = UInt8.ofNat (48 + (D * 10 + E) % 10) := u8_is (by omega)
 rw [← e1, ← e2, ← e3, ← e4]
theorem ptime_all (w : List UInt8) : Tot (zq7 (str w)) fun r => (r.2 = true → TmOK r.1 ∧ w = clk r.1.toNat) ∧ ∀ a, TmOK a → w = clk a.toNat → r = (a, true) := by
 obtain ⟨r, hr⟩ := ptime_tot w
 refine ⟨r, hr, fun h => ?_, fun a ha hw => ?_⟩
 ·by_cases h5 : w.length = 5
  ·obtain ⟨a, b, c, d, e, rfl⟩ := five h5
   obtain ⟨q, hq, hk⟩ := ptime_back a b c d e
   rw [hr] at hq; cases hq
   obtain ⟨k1, rfl, k3, k4, k5⟩ := hk h
   rw [k5]
   exact ⟨k4, clk_pv k1 k3⟩
  ·have : zq7 (str w) = some (0, false) := by
    unfold zq7
    rw [if_pos (by rw [str_s]; simp; omega)]
    rfl
   rw [this] at hr; cases hr; cases h
 ·subst hw
  rw [ptime_hit ha] at hr
  exact (Option.some.inj hr).symm
theorem pint_all (w : List UInt8) (hw : w.length ≤ 1000000) : Tot (zq5 (str w)) fun r => (r.2 = true → InI r.1 ∧ w = Lib.itoa r.1) ∧ ∀ n, InI n → w = Lib.itoa n → r = (n, true) := by
 obtain ⟨r, hr, hp⟩ := ipi_ok w (by omega)
 refine ⟨r, hr, fun h => ?_, fun n hn hs => ?_⟩
 ·rcases hp with ⟨n, h1, h2, rfl⟩ | ⟨rfl, _⟩
  ·exact ⟨h1, h2⟩
  ·cases h
 ·rcases hp with ⟨k, h1, h2, rfl⟩ | ⟨_, h3⟩
  ·rw [itoa_inj (hs.symm.trans h2)]
  ·exact absurd ⟨n, hn, hs⟩ h3
def WOK (w : List UInt8) : Prop := 32 ∉ w ∧ 10 ∉ w ∧ w.length ≤ 12
theorem name_wok {s : ByteArray} (h : NameOK s) : WOK s.data.toList := ⟨nm_no (nm_of h) (by decide), nm_no (nm_of h) (by decide), by have := (nm_of h).2; omega⟩
theorem itoa_wok {n : Int} (h0 : 0 ≤ n) (h1 : n < 1000000) : WOK (Lib.itoa n) := by
 rw [itoa_n h0]
 exact ⟨num_no (by decide) _, num_no (by decide) _, by have := num_len (n := n.toNat) (by omega); omega⟩
theorem clk_wok {a : Int} (h : TmOK a) : WOK (clk a.toNat) := ⟨clk_no _ (by have := h.2; omega) (by decide), clk_no _ (by have := h.2; omega) (by decide), by rw [clk_len]; omega⟩
theorem join_no {c : UInt8} (hc : c ≠ 32) : ∀ {ws : List (List UInt8)}, (∀ w ∈ ws, c ∉ w) → c ∉ Lib.join ws [32]
 | [], _ => by simp [Lib.join, List.intercalate]
 | w :: ws, h => by
  rw [join_flat]
  simp only [List.mem_append, List.mem_flatMap, List.mem_cons, not_or, not_exists, not_and]
  exact ⟨h w (by simp), fun x hx => ⟨hc, h x (by simp [hx])⟩⟩
theorem join_le {k : Nat} : ∀ {ws : List (List UInt8)}, (∀ w ∈ ws, w.length ≤ k) → (Lib.join ws [32]).length ≤ (k + 1) * ws.length
 | [], _ => by simp [Lib.join, List.intercalate]
 | [w], h => by
  have := h w (by simp)
  simp [Lib.join, List.intercalate]; omega
 | w :: v :: ws, h => by
  have ih := join_le (k := k) (ws := v :: ws) (fun x hx => h x (by simp [hx]))
  have := h w (by simp)
  have e : Lib.join (w :: v :: ws) [32] = w ++ 32 :: Lib.join (v :: ws) [32] := by simp [Lib.join, List.intercalate]
  rw [e, List.length_append, List.length_cons]
  simp only [List.length_cons] at ih ⊢
  have e2 : (k + 1) * (ws.length + 1 + 1) = (k + 1) * (ws.length + 1) + (k + 1) := by rw [Nat.mul_succ]
  omega
theorem split_w {ws : List (List UInt8)} (h0 : ws ≠ []) (h : ∀ w ∈ ws, WOK w) : spl1 32 (Lib.join ws [32]) = ws := spl1_join h0 fun w hw => (h w hw).1
theorem getD_at {α : Type} {l : List α} {i : Int} {x d : α} (h : l[i.toNat]? = some x) : l.getD i.toNat d = x := by rw [List.getD_eq_getElem?_getD, h]; rfl
theorem stop_name {n : Network} (hn : Good n) {s : Int} (h0 : 0 ≤ s) (h1 : s < n.Stops.length) : ∃ x, n.Stops[s.toNat]? = some x ∧ nmS n s = x.data.toList ∧ NameOK x := by
 obtain ⟨x, hx⟩ := get_ex (l := n.Stops) (i := s.toNat) (by omega)
 exact ⟨x, hx, by unfold nmS; rw [getD_at hx], (hn.2.2.1 _ x hx).1⟩
theorem stW_wok {n : Network} (hn : Good n) {s : ByteArray} (hs : s ∈ n.Stops) : ∀ w ∈ stW s, WOK w := by
 obtain ⟨i, hi⟩ := List.mem_iff_getElem?.1 hs
 have h1 := name_wok (hn.2.2.1 i s hi).1
 have h2 : WOK wStop := by unfold WOK wStop; decide
 intro w hw
 simp only [stW, List.mem_cons, List.not_mem_nil, or_false] at hw
 rcases hw with rfl | rfl
 ·exact h2
 ·exact h1
theorem line_at {n : Network} (hn : Good n) {i : Nat} {l : Line} (hl : n.Lines[i]? = some l) : LineP n.Stops.length l ∧ NameOK l.Name := by
 refine ⟨hn.2.2.2.2 i l hl, ?_⟩
 exact (hn.2.2.2.1 i l.Name (by rw [List.getElem?_map, hl]; rfl)).1
theorem lnW_wok {n : Network} (hn : Good n) {i : Nat} {l : Line} (hl : n.Lines[i]? = some l) : ∀ w ∈ lnW n l, WOK w := by
 obtain ⟨hp, hname⟩ := line_at hn hl
 intro w hw
 simp only [lnW, List.mem_cons] at hw
 rcases hw with rfl | rfl | hw
 ·unfold WOK wLine; decide
 ·exact name_wok hname
 ·rcases inter_mem _ _ _ w rfl hw with hw | hw
  ·obtain ⟨s, hs, rfl⟩ := List.mem_map.1 hw
   obtain ⟨j, hj⟩ := List.mem_iff_getElem?.1 hs
   have hr := (hp.2.2.1 j s hj).1
   obtain ⟨x, _, h2, h3⟩ := stop_name hn hr.1 hr.2
   rw [h2]
   exact name_wok h3
  ·obtain ⟨r, hr, rfl⟩ := List.mem_map.1 hw
   obtain ⟨j, hj⟩ := List.mem_iff_getElem?.1 hr
   have := hp.2.2.2 j r hj
   exact itoa_wok (by omega) (by omega)
theorem lnW_len {n : Network} {l : Line} (hp : LineP n.Stops.length l) : (lnW n l).length = 2 * l.Stops.length + 1 ∧ l.Stops.length = l.Runs.length + 1 := by
 have h2 := hp.2.1
 have h3 := hp.1.1
 have e : l.Stops.length = l.Runs.length + 1 := by omega
 unfold lnW
 rw [List.length_cons, List.length_cons, inter_len l.Runs.length _ _ (by simp; omega) (by simp)]
 simp only [List.length_map]
 omega
theorem trip_at {t : Timetable} (h : GoodT t) {i : Nat} {x : Trip} (hx : t.Trips[i]? = some x) : ∃ l, t.Network.Lines[x.Line.toNat]? = some l ∧ (0 ≤ x.Line ∧ x.Line < t.Network.Lines.length) ∧ (1 ≤ x.Id ∧ x.Id ≤ 999) ∧ TmOK x.Start ∧ (t.Network.Lines.map (·.Name)).getD x.Line.toNat ByteArray.empty = l.Name := by
 obtain ⟨hid, l, hl, hs, _⟩ := h.2.2.1 i x hx
 obtain ⟨h0, h1, h2⟩ := idx_some hl
 refine ⟨l, h2, ⟨h0, h1⟩, hid, hs, ?_⟩
 exact getD_at (by rw [List.getElem?_map, h2]; rfl)
theorem trW_wok {t : Timetable} (h : GoodT t) {i : Nat} {x : Trip} (hx : t.Trips[i]? = some x) : ∀ w ∈ trW t.Network x, WOK w := by
 obtain ⟨l, hl, hr, hid, hs, hnm⟩ := trip_at h hx
 intro w hw
 simp only [trW, List.mem_cons, List.not_mem_nil, or_false] at hw
 rcases hw with rfl | rfl | rfl | rfl
 ·unfold WOK wTrip; decide
 ·exact itoa_wok (by omega) (by omega)
 ·rw [hnm]; exact name_wok (line_at h.1 hl).2
 ·exact clk_wok hs
theorem ttW_wok {t : Timetable} (h : GoodT t) : ∀ ws ∈ ttW t, ws ≠ [] ∧ ∀ w ∈ ws, WOK w := by
 intro ws hws
 unfold ttW netW at hws
 rcases List.mem_append.1 hws with hws | hws
 ·rcases List.mem_append.1 hws with hws | hws
  ·obtain ⟨s, hs, rfl⟩ := List.mem_map.1 hws
   exact ⟨by simp [stW], stW_wok h.1 hs⟩
  ·obtain ⟨l, hl, rfl⟩ := List.mem_map.1 hws
   obtain ⟨i, hi⟩ := List.mem_iff_getElem?.1 hl
   exact ⟨by simp [lnW], lnW_wok h.1 hi⟩
 ·obtain ⟨x, hx, rfl⟩ := List.mem_map.1 hws
  obtain ⟨i, hi⟩ := List.mem_iff_getElem?.1 hx
  exact ⟨by simp [trW], trW_wok h hi⟩
theorem ofW_le {k : Nat} : ∀ {ws : List (List (List UInt8))}, (∀ w ∈ ws, (Lib.join w [32]).length ≤ k) → (ofW ws).length ≤ (k + 1) * ws.length
 | [], _ => by simp [ofW]
 | w :: ws, h => by
  have ih := ofW_le (k := k) (ws := ws) (fun x hx => h x (by simp [hx]))
  have := h w (by simp)
  have e : ofW (w :: ws) = (Lib.join w [32] ++ [10]) ++ ofW ws := rfl
  have e2 : (k + 1) * (w :: ws).length = (k + 1) * ws.length + (k + 1) := by rw [List.length_cons, Nat.mul_succ]
  rw [e, e2, List.length_append, List.length_append]
  simp only [List.length_cons, List.length_nil]
  omega
theorem txt_len {t : Timetable} (h : GoodT t) : (ofW (ttW t)).length ≤ 3000 := by
 have hw := ttW_wok h
 have e : ofW (ttW t) = ofW (t.Network.Stops.map stW) ++ ofW (t.Network.Lines.map (lnW t.Network)) ++ ofW (t.Trips.map (trW t.Network)) := by
  unfold ttW netW
  rw [ofW_app, ofW_app]
 have l1 := ofW_le (k := 26) (ws := t.Network.Stops.map stW) (fun ws hws => by
  have h1 := (hw ws (by unfold ttW netW; simp only [List.mem_append]; exact .inl (.inl hws))).2
  have h2 := join_le (k := 12) (ws := ws) (fun w hw => (h1 w hw).2.2)
  obtain ⟨s, _, rfl⟩ := List.mem_map.1 hws
  exact h2)
 have l2 := ofW_le (k := 169) (ws := t.Network.Lines.map (lnW t.Network)) (fun ws hws => by
  have h1 := (hw ws (by unfold ttW netW; simp only [List.mem_append]; exact .inl (.inr hws))).2
  have h2 := join_le (k := 12) (ws := ws) (fun w hw => (h1 w hw).2.2)
  obtain ⟨l, hl, rfl⟩ := List.mem_map.1 hws
  obtain ⟨i, hi⟩ := List.mem_iff_getElem?.1 hl
  have hp := (line_at h.1 hi).1
  have := (lnW_len hp).1
  have := hp.1.2
  omega)
 have l3 := ofW_le (k := 52) (ws := t.Trips.map (trW t.Network)) (fun ws hws => by
  have h1 := (hw ws (by unfold ttW; simp only [List.mem_append]; exact .inr hws)).2
  have h2 := join_le (k := 12) (ws := ws) (fun w hw => (h1 w hw).2.2)
  obtain ⟨s, _, rfl⟩ := List.mem_map.1 hws
  exact h2)
 have b1 := h.1.1.2
 have b2 := h.1.2.1.2
 have b3 := h.2.1
 simp only [List.length_map] at l1 l2 l3
 rw [e, List.length_append, List.length_append]
 omega
theorem ws_ok (l s : List UInt8) (h : l.length + s.length ≤ 4294967296) : zq82 l (str s) = some ((s.length : Int), .mk, l ++ s) := by
 unfold zq82 writeStringM
 rw [if_pos (by rw [str_s]; exact h), str_s, str_l]
theorem wb_ok (l : List UInt8) (c : UInt8) (h : l.length + 1 ≤ 4294967296) : zq81 l c = some (.mk, l ++ [c]) := by
 unfold zq81 writeByteM
 rw [if_pos h]
theorem inter_le {α : Type} : ∀ (k : Nat) (a b : List α), a.length + b.length = k → (inter a b).length ≤ k
 | k, [], b, h => by rw [inter_nil]; simp
 | 0, x :: a, b, h => by simp at h
 | k + 1, x :: a, b, h => by
  have ih := inter_le k b a (by simp at h; omega)
  rw [inter_cons]
  simp only [List.length_cons]; omega
theorem flat_le {k : Nat} : ∀ {ws : List (List UInt8)}, (∀ w ∈ ws, w.length ≤ k) → (ws.flatMap (32 :: ·)).length ≤ (k + 1) * ws.length
 | [], _ => by simp
 | w :: ws, h => by
  have ih := flat_le (k := k) (ws := ws) (fun x hx => h x (by simp [hx]))
  have := h w (by simp)
  have e2 : (k + 1) * (w :: ws).length = (k + 1) * ws.length + (k + 1) := by rw [List.length_cons, Nat.mul_succ]
  rw [e2, List.flatMap_cons, List.length_append, List.length_cons]
  omega
theorem ofW_take {α : Type} (f : α → List (List UInt8)) (l : List α) (i : Nat) : (ofW ((l.take i).map f)).length ≤ (ofW (l.map f)).length := by
 have e : l.map f = (l.take i).map f ++ (l.drop i).map f := by rw [← List.map_append, List.take_append_drop]
 rw [e, ofW_app, List.length_append]
 omega
theorem ofW_snoc {α : Type} (f : α → List (List UInt8)) {l : List α} {i : Nat} {x : α} (h : l[i]? = some x) : ofW ((l.take (i + 1)).map f) = ofW ((l.take i).map f) ++ (Lib.join (f x) [32] ++ [10]) := by
 rw [take_succ h, List.map_append, ofW_app, List.map_cons, List.map_nil, ofW_one]
theorem good0 {n : Network} (h : Good n) : GoodT ⟨n, []⟩ := ⟨h, by simp, fun i x hx => by simp at hx, fun i a b hx => by simp at hx⟩
theorem net_len {n : Network} (h : Good n) : (ofW (n.Stops.map stW)).length + (ofW (n.Lines.map (lnW n))).length ≤ 3000 := by
 have := txt_len (good0 h)
 unfold ttW netW at this
 simp only [List.map_nil, List.append_nil] at this
 rw [ofW_app, List.length_append] at this
 exact this
theorem stop_txt (s : ByteArray) : Lib.join (stW s) [32] ++ [10] = [115, 116, 111, 112, 32] ++ s.data.toList ++ [10] := by
 unfold stW
 rw [join_flat]
 simp [wStop]
theorem fnet1 {n : Network} (hn : Good n) : Tot (iter (zq15_L1 n) ((0 : Int), ([] : List UInt8))) fun r => r = ofW (n.Stops.map stW) := by
 have hb := net_len hn
 refine Tot.iter (fun k (s : Int × List UInt8) => ∃ i : Nat, k + i = n.Stops.length ∧ s = ((i : Int), ofW ((n.Stops.take i).map stW))) (n := n.Stops.length) ⟨0, by omega, rfl⟩ ?_
 rintro k _ ⟨i, hk, rfl⟩
 have hl := ofW_take stW n.Stops i
 have h8 := hn.1.2
 unfold zq15_L1
 dsimp only
 refine .iteP (fun hlt => .idx (by omega) hlt fun e he => ?_) (fun hge => .dn (by rw [show i = n.Stops.length by omega, List.take_length]))
 have he := get_nat he
 have hnm := (hn.2.2.1 i e he).1
 have hsz := hnm.1.2
 have hsz2 : e.data.toList.length ≤ 8 := hsz
 obtain ⟨s, rfl⟩ : ∃ s, e = str s := ⟨e.data.toList, str_of e⟩
 rw [str_l] at hsz2
 refine .chk (by rw [str_s, str_s]; simp only [List.length_append, List.length_cons, List.length_nil]; omega) (.chk (by rw [str_app, str_s, str_s]; simp only [List.length_append, List.length_cons, List.length_nil]; omega) ?_)
 rw [str_app, str_app, ws_ok _ _ (by simp only [List.length_append, List.length_cons, List.length_nil]; omega)]
 refine .nx ⟨k - 1, by omega, i + 1, by omega, ?_⟩
 rw [w64_succ (by omega), ofW_snoc stW he, stop_txt, str_l]
def Tj (n : Network) (l : Line) (j : Nat) : List (List UInt8) := inter ((l.Stops.map (nmS n)).take j) ((l.Runs.map Lib.itoa).take (j - 1))
theorem tj_len (n : Network) (l : Line) (j : Nat) : (Tj n l j).length ≤ 2 * j := by
 have := inter_le _ ((l.Stops.map (nmS n)).take j) ((l.Runs.map Lib.itoa).take (j - 1)) rfl
 simp only [List.length_take, List.length_map] at this
 unfold Tj
 omega
theorem tj_wok {n : Network} (hn : Good n) {k : Nat} {l : Line} (hl : n.Lines[k]? = some l) (j : Nat) : ∀ w ∈ Tj n l j, w.length ≤ 12 := by
 intro w hw
 have hW := lnW_wok hn hl
 obtain ⟨hp, _⟩ := line_at hn hl
 rcases inter_mem _ _ _ w rfl hw with h | h
 ·have h := List.mem_of_mem_take h
  obtain ⟨s, hs, rfl⟩ := List.mem_map.1 h
  obtain ⟨q, hq⟩ := List.mem_iff_getElem?.1 hs
  have hr := (hp.2.2.1 q s hq).1
  obtain ⟨x, _, h2, h3⟩ := stop_name hn hr.1 hr.2
  rw [h2]
  exact (name_wok h3).2.2
 ·have h := List.mem_of_mem_take h
  obtain ⟨r, hr, rfl⟩ := List.mem_map.1 h
  obtain ⟨q, hq⟩ := List.mem_iff_getElem?.1 hr
  have := hp.2.2.2 q r hq
  exact (itoa_wok (by omega) (by omega)).2.2
theorem tj_0 {n : Network} {l : Line} {s : Int} (hs : l.Stops[0]? = some s) : Tj n l 1 = [nmS n s] := by
 unfold Tj
 have : (l.Stops.map (nmS n)).take 1 = [nmS n s] := by
  rw [take_succ (x := nmS n s) (by rw [List.getElem?_map, hs]; rfl)]; simp
 rw [this, show (1 : Nat) - 1 = 0 from rfl, List.take_zero, inter_cons, inter_nil]
theorem tj_s {n : Network} {l : Line} {j : Nat} {s r : Int} (hlen : l.Stops.length = l.Runs.length + 1) (hs : l.Stops[j + 1]? = some s) (hr : l.Runs[j]? = some r) : Tj n l (j + 2) = Tj n l (j + 1) ++ [Lib.itoa r] ++ [nmS n s] := by
 unfold Tj
 have hj := get_lt hs
 have hj2 := get_lt hr
 have e1 : (l.Stops.map (nmS n)).take (j + 2) = (l.Stops.map (nmS n)).take (j + 1) ++ [nmS n s] := take_succ (by rw [List.getElem?_map, hs]; rfl)
 have e2 : (l.Runs.map Lib.itoa).take (j + 1) = (l.Runs.map Lib.itoa).take j ++ [Lib.itoa r] := take_succ (by rw [List.getElem?_map, hr]; rfl)
 rw [show j + 2 - 1 = j + 1 by omega, show j + 1 - 1 = j by omega, e1, inter_snoc1 (nmS n s) (j + 1) _ _ (by simp; omega) (by simp; omega), e2, inter_snoc2 _ _ _ (by simp; omega)]
theorem fnet2 {n : Network} (hn : Good n) {k : Nat} {l : Line} (hl : n.Lines[k]? = some l) (B : List UInt8) (hB : B.length ≤ 10000) : Tot (iter (zq15_L2 n l) ((0 : Int), B)) fun r => r = B ++ (inter (l.Stops.map (nmS n)) (l.Runs.map Lib.itoa)).flatMap (32 :: ·) := by
 obtain ⟨hp, _⟩ := line_at hn hl
 have hlen := (lnW_len hp).2
 have h6 := hp.1.2
 refine Tot.iter (fun q (s : Int × List UInt8) => ∃ i : Nat, q + i = l.Stops.length ∧ s = ((i : Int), B ++ (Tj n l i).flatMap (32 :: ·))) (n := l.Stops.length) ⟨0, by omega, by simp [Tj, inter_nil]⟩ ?_
 rintro q _ ⟨i, hq, rfl⟩
 have hfl := flat_le (k := 12) (tj_wok hn hl i)
 have htl := tj_len n l i
 unfold zq15_L2
 dsimp only
 refine .iteP (fun hlt => .idx (by omega) hlt fun e2 he2 => ?_) (fun hge => .dn ?_)
 ·have he2 := get_nat he2
  have hr2 := (hp.2.2.1 i e2 he2).1
  obtain ⟨x, hx, hnm, hxn⟩ := stop_name hn hr2.1 hr2.2
  have hxl : x.data.toList.length ≤ 8 := hxn.1.2
  have hix : idx n.Stops e2 = some x := by
   have := ixs hx
   rwa [show ((e2.toNat : Nat) : Int) = e2 by omega] at this
  have key : ∀ (T : List UInt8), T.length ≤ 20000 → Tot ((idx n.Stops e2).bind fun e4 =>
    (chk ((str [32]).size + e4.size ≤ 4294967296)).bind fun u4 =>
    (zq82 T ((str [32]) ++ e4)).bind fun r4 =>
    some (Lp.nx ((w64 ((i : Int) + 1)), r4.2.2) : Lp (Int × List UInt8) (List UInt8))) fun r => r = .nx (((i + 1 : Nat) : Int), T ++ 32 :: nmS n e2) := by
   intro T hT
   obtain ⟨s, rfl⟩ : ∃ s, x = str s := ⟨x.data.toList, str_of x⟩
   rw [str_l] at hxl hnm
   refine .eq hix (.chk (by rw [str_s, str_s]; simp only [List.length_append, List.length_cons, List.length_nil]; omega) ?_)
   rw [str_app, ws_ok _ _ (by simp only [List.length_append, List.length_cons, List.length_nil]; omega), w64_succ (by omega), hnm]
   exact .ok rfl
  have nxt : ∀ T, T = B ++ (Tj n l (i + 1)).flatMap (32 :: ·) → ∀ r, r = (Lp.nx (((i + 1 : Nat) : Int), T) : Lp (Int × List UInt8) (List UInt8)) → (∀ a', r = .nx a' → ∃ k', k' < q ∧ ∃ j : Nat, k' + j = l.Stops.length ∧ a' = ((j : Int), B ++ (Tj n l j).flatMap (32 :: ·))) ∧ ∀ b, r = .dn b → b = B ++ (inter (l.Stops.map (nmS n)) (l.Runs.map Lib.itoa)).flatMap (32 :: ·) := by
   intro T hT r hr
   subst hr
   exact ⟨fun a' e => by cases e; exact ⟨q - 1, by omega, i + 1, by omega, by rw [hT]⟩, fun b e => by cases e⟩
  by_cases h0 : i = 0
  ·subst h0
   have hz : Tj n l 0 = [] := by simp [Tj, inter_nil]
   rw [if_neg (by simp), Option.bind_some]
   refine (key _ (by rw [hz]; simp; omega)).mono (nxt _ ?_)
   rw [hz, tj_0 he2]
   simp
  ·obtain ⟨j, rfl⟩ : ∃ j, i = j + 1 := ⟨i - 1, by omega⟩
   obtain ⟨r, hr⟩ := get_ex (l := l.Runs) (i := j) (by omega)
   have hrr := hp.2.2.2 j r hr
   have hil := (itoa_wok (n := r) (by omega) (by omega)).2.2
   have ew : w64 (((j + 1 : Nat) : Int) - 1) = (j : Int) := w64_pred (by omega)
   rw [if_pos (by simp only [decide_eq_true_eq]; omega), ew, ixs hr, Option.bind_some, iItoa (by omega) (by omega), Option.bind_some, chk_of (by rw [str_s, str_s]; simp only [List.length_append, List.length_cons, List.length_nil]; omega), Option.bind_some, str_app, ws_ok _ _ (by simp only [List.length_append, List.length_cons, List.length_nil]; omega), Option.bind_some, Option.bind_some]
   refine (key _ (by simp only [List.length_append, List.length_cons, List.length_nil]; omega)).mono (nxt _ ?_)
   rw [tj_s hlen he2 hr]
   simp
 ·have : i = l.Stops.length := by omega
  subst this
  unfold Tj
  rw [List.take_of_length_le (by simp), List.take_of_length_le (by simp; omega)]
theorem line_txt (n : Network) (l : Line) : Lib.join (lnW n l) [32] ++ [10] = [108, 105, 110, 101, 32] ++ l.Name.data.toList ++ (inter (l.Stops.map (nmS n)) (l.Runs.map Lib.itoa)).flatMap (32 :: ·) ++ [10] := by
 unfold lnW
 rw [join_flat, List.flatMap_cons]
 simp [wLine]
theorem fnet_ok {n : Network} (hn : Good n) : zq15 n = some (str (ofW (netW n))) := by
 have hb := net_len hn
 have h5 := hn.2.1.2
 unfold zq15
 refine Tot.val (.call (fnet1 hn) fun v2 h2 => .call (P := fun r => r = ofW (netW n)) ?_ fun r hr => ?_)
 ·subst h2
  refine Tot.iter (fun k (s : Int × List UInt8) => ∃ i : Nat, k + i = n.Lines.length ∧ s = ((i : Int), ofW (n.Stops.map stW) ++ ofW ((n.Lines.take i).map (lnW n)))) (n := n.Lines.length) ⟨0, by omega, by simp [ofW]⟩ ?_
  rintro k _ ⟨i, hk, rfl⟩
  have hl := ofW_take (lnW n) n.Lines i
  unfold zq15_L3
  dsimp only
  refine .iteP (fun hlt => .idx (by omega) hlt fun e he => ?_) (fun hge => .dn (by rw [show i = n.Lines.length by omega, List.take_length]; unfold netW; rw [ofW_app]))
  have he := get_nat he
  obtain ⟨hp, hname⟩ := line_at hn he
  have hnl : e.Name.data.toList.length ≤ 8 := hname.1.2
  have hen : e.Name = str e.Name.data.toList := str_of _
  rw [hen, str_s, str_s, chk_of (by simp only [List.length_append, List.length_cons, List.length_nil]; omega), Option.bind_some, str_app, ws_ok _ _ (by simp only [List.length_append, List.length_cons, List.length_nil]; omega), Option.bind_some]
  refine .call (fnet2 hn he _ (by simp only [List.length_append, List.length_cons, List.length_nil]; omega)) fun v8 h8 => ?_
  have hfl := flat_le (k := 12) (tj_wok hn he e.Stops.length)
  have htl := tj_len n e e.Stops.length
  have h6 := hp.1.2
  have hlen := (lnW_len hp).2
  have hTj : Tj n e e.Stops.length = inter (e.Stops.map (nmS n)) (e.Runs.map Lib.itoa) := by
   unfold Tj
   rw [List.take_of_length_le (by simp), List.take_of_length_le (by simp; omega)]
  rw [hTj] at hfl htl
  have h10 : mkU8 10 = 10 := by decide
  subst h8
  rw [h10, wb_ok _ _ (by simp only [List.length_append, List.length_cons, List.length_nil]; omega), Option.bind_some]
  refine .nx ⟨k - 1, by omega, i + 1, by omega, ?_⟩
  rw [w64_succ (by omega), ofW_snoc (lnW n) he, line_txt]
  simp
 ·subst hr
  exact .ok rfl
theorem trip_txt {t : Timetable} (h : GoodT t) {i : Nat} {x : Trip} (hx : t.Trips[i]? = some x) : ∃ l, idx t.Network.Lines x.Line = some l ∧ l.Name.data.toList.length ≤ 8 ∧ Lib.join (trW t.Network x) [32] ++ [10] = [116, 114, 105, 112, 32] ++ Lib.itoa x.Id ++ [32] ++ l.Name.data.toList ++ [32] ++ clk x.Start.toNat ++ [10] := by
 obtain ⟨l, hl, hr, _, _, hnm⟩ := trip_at h hx
 refine ⟨l, ?_, (line_at h.1 hl).2.1.2, ?_⟩
 ·have := ixs hl
  rwa [show ((x.Line.toNat : Nat) : Int) = x.Line by omega] at this
 ·unfold trW
  rw [hnm, join_flat]
  simp [wTrip]
theorem ftt_ok {t : Timetable} (h : GoodT t) : zq16 t = some (str (ofW (ttW t))) := by
 have htx := txt_len h
 have e0 : ofW (ttW t) = ofW (netW t.Network) ++ ofW (t.Trips.map (trW t.Network)) := by unfold ttW; rw [ofW_app]
 rw [e0, List.length_append] at htx
 have h12 := h.2.1
 unfold zq16
 rw [fnet_ok h.1, Option.bind_some, ws_ok _ _ (by simp only [List.length_append, List.length_cons, List.length_nil]; omega), Option.bind_some]
 refine Tot.val (.call (P := fun r => r = ofW (ttW t)) ?_ fun r hr => ?_)
 ·refine Tot.iter (fun k (s : Int × List UInt8) => ∃ i : Nat, k + i = t.Trips.length ∧ s = ((i : Int), ofW (netW t.Network) ++ ofW ((t.Trips.take i).map (trW t.Network)))) (n := t.Trips.length) ⟨0, by omega, by simp [ofW]⟩ ?_
  rintro k _ ⟨i, hk, rfl⟩
  have hl := ofW_take (trW t.Network) t.Trips i
  unfold zq16_L1
  dsimp only
  refine .iteP (fun hlt => .idx (by omega) hlt fun x hx => ?_) (fun hge => .dn (by rw [show i = t.Trips.length by omega, List.take_length, e0]))
  have hx := get_nat hx
  obtain ⟨l, hil, hll, htxt⟩ := trip_txt h hx
  obtain ⟨_, _, _, hid, hst, _⟩ := trip_at h hx
  have hidl := (itoa_wok (n := x.Id) (by omega) (by omega)).2.2
  have hcl := clk_len x.Start.toNat
  have hlo : zq22 t x = some l := by unfold zq22; rw [hil]; rfl
  have hen : l.Name = str l.Name.data.toList := str_of _
  rw [iItoa (by omega) (by omega), Option.bind_some, hlo, iText_ok hst.1 (by have := hst.2; omega)]
  simp only [Option.bind_some]
  rw [hen]
  simp only [str_app]
  simp (disch := (simp only [str_s, List.length_append, List.length_cons, List.length_nil]; omega)) only [chk_of, Option.bind_some]
  rw [ws_ok _ _ (by simp only [List.length_append, List.length_cons, List.length_nil]; omega), Option.bind_some]
  refine .nx ⟨k - 1, by omega, i + 1, by omega, ?_⟩
  rw [w64_succ (by omega), ofW_snoc (trW t.Network) hx, htxt]
  simp
 ·subst hr
  exact .ok rfl
theorem tl_ok (u : List UInt8) (hu : u.length ≤ 1000000) : Tot (zq27 (str u)) fun r => (r.2 = true → ∃ v, u = v ++ [10] ∧ r.1 = (spl1 10 v).map str ∧ u.length ≤ 4000) ∧ ∀ v, u = v ++ [10] → u.length ≤ 4000 → r = ((spl1 10 v).map str, true) := by
 unfold zq27
 rw [cuts_ok u [10] (by omega), Option.bind_some]
 by_cases h : ([10] : List UInt8).isSuffixOf u = true
 ·rw [if_pos h]
  obtain ⟨v, rfl⟩ := List.isSuffixOf_iff_suffix.1 h
  rw [take_one]
  dsimp only
  rw [if_neg (by simp), Option.bind_some, str_s]
  refine .iteP (fun h4 => .ok ⟨fun h => (by cases h), fun w _ hl => absurd h4 (by omega)⟩) (fun h4 => ?_)
  rw [split_ok v 10 (by simp at hu; omega), Option.bind_some]
  exact .ok ⟨fun _ => ⟨v, rfl, rfl, by omega⟩, fun w hw _ => by rw [List.append_cancel_right hw]⟩
 ·rw [if_neg h]
  refine .ok ⟨fun h => (by cases h), fun w hw _ => ?_⟩
  exact absurd (by rw [hw]; exact suf_one w 10) h
theorem dnP {A B : Type} {b : B} {P : A → Prop} {Q : B → Prop} (h : Q b) : (∀ a', (Lp.dn b : Lp A B) = .nx a' → P a') ∧ ∀ b', (Lp.dn b : Lp A B) = .dn b' → Q b' := ⟨fun a' e => (by cases e), fun b' e => by cases e; exact h⟩
def GL (n : Network) (l : Line) : Prop := (∀ s ∈ l.Stops, 0 ≤ s ∧ s < n.Stops.length) ∧ (∀ r ∈ l.Runs, InI r) ∧ l.Stops.length = l.Runs.length + 1
theorem find_name (l : List ByteArray) (hl : l.length ≤ 1000000) (w : List UInt8) : ∃ f, zq78 l (str w) = some f ∧ (¬ f < 0 → 0 ≤ f ∧ f < l.length ∧ l[f.toNat]? = some (str w)) ∧ (∀ (i : Nat), NamesP l → l[i]? = some (str w) → f = (i : Int)) := by
 refine ⟨_, index_str_eq l (by omega) (str w), fun h => ?_, fun i hN hi => (hN i _ hi).2⟩
 obtain ⟨k, x, h1, h2, h3, _⟩ := idx_fix h
 have hk := get_lt h2
 rw [h1]
 refine ⟨by omega, by omega, ?_⟩
 rw [Int.toNat_natCast, h2]
 have h3 : ((str w).toList == x.toList) = true := h3
 rw [beq_ba] at h3
 rw [← of_decide_eq_true h3]
theorem nm_at {n : Network} {s : Int} {w : List UInt8} (h : n.Stops[s.toNat]? = some (str w)) : nmS n s = w := by
 unfold nmS
 rw [getD_at h, str_l]
theorem gl_tok {n : Network} {l : Line} (h : GL n l) (j : Nat) : (inter (l.Stops.map (nmS n)) (l.Runs.map Lib.itoa))[2 * j]? = (l.Stops.map (nmS n))[j]? ∧ (inter (l.Stops.map (nmS n)) (l.Runs.map Lib.itoa))[2 * j + 1]? = (l.Runs.map Lib.itoa)[j]? :=
 inter_get l.Runs.length _ _ j (by simp; exact h.2.2) (by simp)
theorem pline_ok (n : Network) (hS : n.Stops.length ≤ 100000) (W : List (List UInt8)) (hW : W.length ≤ 100000) (hw : ∀ w ∈ W, w.length ≤ 100000) :
  Tot (zq24 n (W.map str)) fun r => (r.2 = true → ∃ w0, W = w0 :: r.1.Name.data.toList :: inter (r.1.Stops.map (nmS n)) (r.1.Runs.map Lib.itoa) ∧ GL n r.1) ∧ ∀ l, NamesP n.Stops → GL n l → W = lnW n l → r = (l, true) := by
 unfold zq24
 rw [List.length_map]
 refine .call (P := fun v => v = false ↔ (3 ≤ W.length ∧ W.length % 2 = 1)) (.iteP (fun h => .ok ?_) (fun h => .chk (by decide) (.ok ?_))) fun v hv => .ite (fun h => .ok ⟨fun h2 => (by cases h2), fun l _ hg hl => ?_⟩) (fun h => ?_)
 ·exact ⟨fun h2 => (by cases h2), fun h2 => absurd h2.1 (by omega)⟩
 ·rw [Int.tmod_eq_emod_of_nonneg (by omega)]
  rw [beq_eq_false_iff_ne]
  omega
 ·exfalso
  have : v = false := hv.2 (by
   rw [hl]
   unfold lnW
   rw [List.length_cons, List.length_cons, inter_len l.Runs.length _ _ (by simp; exact hg.2.2) (by simp)]
   have := hg.2.2
   simp only [List.length_map]; omega)
  rw [h] at this; cases this
 obtain ⟨h3, h1⟩ := hv.1 h
 obtain ⟨w0, nm, rest, rfl⟩ : ∃ a b r, W = a :: b :: r := by
  match W, h3 with
  | a :: b :: r, _ => exact ⟨a, b, r, rfl⟩
 simp only [List.length_cons] at h1 h3 hW
 rw [show idx ((w0 :: nm :: rest).map str) 1 = some (str nm) from rfl, Option.bind_some]
 refine .chk ⟨by omega, by simp; omega⟩ ?_
 have hlp : Tot (iter (zq24_L1 n ((w0 :: nm :: rest).map str)) ((0 : Int), ([] : List Int), ([] : List Int))) fun r =>
   (∃ S R, r = .go (S, R) ∧ GL n ⟨str nm, S, R⟩ ∧ rest = inter (S.map (nmS n)) (R.map Lib.itoa) ∧ ∀ l, NamesP n.Stops → GL n l → rest = inter (l.Stops.map (nmS n)) (l.Runs.map Lib.itoa) → S = l.Stops ∧ R = l.Runs) ∨
   (∃ x, r = .ret (x, false)) ∧ ∀ l, NamesP n.Stops → GL n l → rest = inter (l.Stops.map (nmS n)) (l.Runs.map Lib.itoa) → False := by
  have hdr : ((w0 :: nm :: rest).map str).drop (2 : Int).toNat = rest.map str := rfl
  refine Tot.iter (fun k (s : Int × List Int × List Int) => ∃ (i : Nat), k + i = rest.length ∧ s.1 = (i : Int) ∧ (∀ x ∈ s.2.1, 0 ≤ x ∧ x < n.Stops.length) ∧ (∀ x ∈ s.2.2, InI x) ∧ s.2.1.length = (i + 1) / 2 ∧ s.2.2.length = i / 2 ∧ rest.take i = inter (s.2.1.map (nmS n)) (s.2.2.map Lib.itoa) ∧ ∀ l, NamesP n.Stops → GL n l → rest = inter (l.Stops.map (nmS n)) (l.Runs.map Lib.itoa) → s.2.1 = l.Stops.take ((i + 1) / 2) ∧ s.2.2 = l.Runs.take (i / 2)) (n := rest.length) ⟨0, by omega, rfl, by simp, by simp, rfl, rfl, by simp [inter_nil], by simp⟩ ?_
  rintro k ⟨v, S, R⟩ ⟨i, hk, hvv, hSr, hRr, hSl, hRl, htk, hcp⟩
  dsimp only at hvv hSr hRr hSl hRl htk hcp
  subst hvv
  unfold zq24_L1
  dsimp only
  rw [hdr, List.length_map]
  refine .iteP (fun hlt => ?_) (fun hge => .dn (.inl ⟨S, R, rfl, ⟨hSr, hRr, ?_⟩, ?_, fun l hN hg hl => ?_⟩))
  ·obtain ⟨w, hwi⟩ := get_ex (l := rest) (i := i) (by omega)
   have hwl := hw w (by simp [List.mem_of_getElem? hwi])
   have hix : idx (rest.map str) (i : Int) = some (str w) := ixs (by rw [List.getElem?_map, hwi]; rfl)
   have hdisj : i % 2 = 1 ∨ i % 2 = 0 := by omega
   have hws : w64 ((i : Int) + 1) = ((i + 1 : Nat) : Int) := w64_succ (by omega)
   refine Tot.flb (.eq hix (.chk (by decide) ?_))
   rcases hdisj with hodd | hev
   ·obtain ⟨j, rfl⟩ : ∃ j, i = 2 * j + 1 := ⟨i / 2, by omega⟩
    have e1 : (2 * j + 1 + 1) / 2 = j + 1 := by omega
    have e2 : (2 * j + 1) / 2 = j := by omega
    rw [e1] at hSl hcp; rw [e2] at hRl hcp
    rw [if_pos (by rw [beq_iff_eq, Int.tmod_eq_emod_of_nonneg (by omega)]; omega)]
    obtain ⟨r, hr, hr1, hr2⟩ := pint_all w (by omega)
    rw [hr, Option.bind_some]
    have hlr : ∀ l, NamesP n.Stops → GL n l → rest = inter (l.Stops.map (nmS n)) (l.Runs.map Lib.itoa) → ∃ y, l.Runs[j]? = some y ∧ r = (y, true) := by
     intro l hN hg hl
     have h5 := (gl_tok hg j).2
     rw [← hl, hwi, List.getElem?_map] at h5
     cases hy : l.Runs[j]? with
     | none => rw [hy] at h5; cases h5
     | some y =>
      rw [hy] at h5
      exact ⟨y, rfl, hr2 y (hg.2.1 y (List.mem_of_getElem? hy)) (Option.some.inj h5)⟩
    obtain ⟨y, ok⟩ := r
    cases ok with
    | false =>
     rw [if_pos (by rfl)]
     refine .ret (dnP (.inr ⟨⟨_, rfl⟩, fun l hN hg hl => ?_⟩))
     obtain ⟨z, _, hz⟩ := hlr l hN hg hl
     cases hz
    | true =>
     obtain ⟨hy1, hy2⟩ := hr1 rfl
     rw [if_neg (by simp)]
     refine .chk (by simp; omega) (.go (.nx ⟨k - 1, by omega, 2 * j + 1 + 1, by omega, hws, hSr, ?_, ?_, ?_, ?_, fun l hN hg hl => ?_⟩))
     ·intro x hx
      rcases List.mem_append.1 hx with hx | hx
      ·exact hRr x hx
      ·simp at hx; subst hx; exact hy1
     ·show S.length = _; omega
     ·show (R ++ [y]).length = _; simp; omega
     ·show _ = inter (S.map (nmS n)) ((R ++ [y]).map Lib.itoa)
      rw [take_succ hwi, htk, List.map_append, List.map_cons, List.map_nil, inter_snoc2 _ _ _ (by simp; omega), hy2]
     ·obtain ⟨c1, c2⟩ := hcp l hN hg hl
      obtain ⟨z, hz, hz2⟩ := hlr l hN hg hl
      cases hz2
      show S = _ ∧ R ++ [y] = _
      rw [show (2 * j + 1 + 1 + 1) / 2 = j + 1 by omega, show (2 * j + 1 + 1) / 2 = j + 1 by omega, take_succ hz, ← c2]
      exact ⟨c1, rfl⟩
   ·obtain ⟨j, rfl⟩ : ∃ j, i = 2 * j := ⟨i / 2, by omega⟩
    have e1 : (2 * j + 1) / 2 = j := by omega
    have e2 : (2 * j) / 2 = j := by omega
    rw [e1] at hSl hcp; rw [e2] at hRl hcp
    rw [if_neg (by rw [beq_iff_eq, Int.tmod_eq_emod_of_nonneg (by omega)]; omega)]
    obtain ⟨f, hf, hf1, hf2⟩ := find_name n.Stops (by omega) w
    rw [hf, Option.bind_some]
    have hlr : ∀ l, NamesP n.Stops → GL n l → rest = inter (l.Stops.map (nmS n)) (l.Runs.map Lib.itoa) → ∃ y, l.Stops[j]? = some y ∧ f = y := by
     intro l hN hg hl
     have h5 := (gl_tok hg j).1
     rw [← hl, hwi, List.getElem?_map] at h5
     cases hy : l.Stops[j]? with
     | none => rw [hy] at h5; cases h5
     | some y =>
      rw [hy] at h5
      have h6 : w = nmS n y := Option.some.inj h5
      obtain ⟨y0, y1⟩ := hg.1 y (List.mem_of_getElem? hy)
      obtain ⟨x, hx⟩ := get_ex (l := n.Stops) (i := y.toNat) (by omega)
      have h7 : x = str w := by rw [h6]; unfold nmS; rw [getD_at hx]; exact str_of x
      have := hf2 y.toNat hN (by rw [hx, h7])
      exact ⟨y, rfl, by omega⟩
    refine .iteP (fun hneg => .ret (dnP (.inr ⟨⟨_, rfl⟩, fun l hN hg hl => ?_⟩))) (fun hpos => ?_)
    ·obtain ⟨z, hz, rfl⟩ := hlr l hN hg hl
     have := hg.1 f (List.mem_of_getElem? hz)
     omega
    ·obtain ⟨f0, f1, f2⟩ := hf1 hpos
     refine .chk (by simp; omega) (.go (.nx ⟨k - 1, by omega, 2 * j + 1, by omega, hws, ?_, hRr, ?_, ?_, ?_, fun l hN hg hl => ?_⟩))
     ·intro x hx
      rcases List.mem_append.1 hx with hx | hx
      ·exact hSr x hx
      ·simp at hx; subst hx; exact ⟨f0, f1⟩
     ·show (S ++ [f]).length = _; simp; omega
     ·show R.length = _; omega
     ·show _ = inter ((S ++ [f]).map (nmS n)) (R.map Lib.itoa)
      rw [take_succ hwi, htk, List.map_append, List.map_cons, List.map_nil, inter_snoc1 _ j _ _ (by simp; omega) (by simp; omega), nm_at f2]
     ·obtain ⟨c1, c2⟩ := hcp l hN hg hl
      obtain ⟨z, hz, rfl⟩ := hlr l hN hg hl
      show S ++ [f] = _ ∧ R = _
      rw [show (2 * j + 1 + 1) / 2 = j + 1 by omega, show (2 * j + 1) / 2 = j by omega, take_succ hz, ← c1]
      exact ⟨rfl, c2⟩
  ·show S.length = R.length + 1; omega
  ·have : i = rest.length := by omega
   subst this
   rw [List.take_length] at htk
   exact htk
  ·have hi : i = rest.length := by omega
   obtain ⟨c1, c2⟩ := hcp l hN hg hl
   have hrl : rest.length = l.Stops.length + l.Runs.length := by
    rw [hl, inter_len l.Runs.length _ _ (by simp; exact hg.2.2) (by simp)]; simp
   have hgl := hg.2.2
   rw [c1, c2, List.take_of_length_le (by omega), List.take_of_length_le (by omega)]
   exact ⟨rfl, rfl⟩
 refine Tot.flb (hlp.mono fun r hr => ?_)
 rcases hr with ⟨S, R, rfl, hg, hrest, hcp⟩ | ⟨⟨x, rfl⟩, hno⟩
 ·refine ⟨fun r h => (by cases h), fun u hu => ?_⟩
  cases hu
  refine .ok ⟨fun _ => ⟨w0, ?_, hg⟩, fun l hN hgl hl => ?_⟩
  ·rw [str_l, hrest]
  ·unfold lnW at hl
   obtain ⟨_, h2, h3⟩ : w0 = wLine ∧ nm = l.Name.data.toList ∧ rest = inter (l.Stops.map (nmS n)) (l.Runs.map Lib.itoa) := by
    simp only [List.cons.injEq] at hl
    exact hl
   obtain ⟨c1, c2⟩ := hcp l hN hgl h3
   rw [c1, c2, h2, ← str_of l.Name]
 ·refine ⟨fun r h => ?_, fun u hu => (by cases hu)⟩
  cases h
  refine ⟨fun h => (by cases h), fun l hN hgl hl => ?_⟩
  exfalso
  unfold lnW at hl
  simp only [List.cons.injEq] at hl
  exact hno l hN hgl hl.2.2
theorem ptrip_ok (n : Network) (hL : n.Lines.length ≤ 5000) (W : List (List UInt8)) (hw : ∀ w ∈ W, w.length ≤ 100000) :
  Tot (zq26 n (W.map str)) fun r => (r.2 = true → ∃ w0, W = w0 :: (trW n r.1).tail) ∧ ∀ x : Trip, NamesP (n.Lines.map (·.Name)) → (0 ≤ x.Line ∧ x.Line < (n.Lines.length : Int)) → InI x.Id → TmOK x.Start → W = trW n x → r = (x, true) := by
 unfold zq26
 rw [List.length_map]
 by_cases h4 : W.length = 4
 ·obtain ⟨a, b, c, d, rfl⟩ : ∃ a b c d, W = [a, b, c, d] := by
   match W, h4 with
   | [a, b, c, d], _ => exact ⟨a, b, c, d, rfl⟩
  rw [if_neg (by simp), show idx ([a, b, c, d].map str) 1 = some (str b) from rfl, Option.bind_some, lineNames_eq n hL, show idx ([a, b, c, d].map str) 2 = some (str c) from rfl, show idx ([a, b, c, d].map str) 3 = some (str d) from rfl]
  obtain ⟨r, hr, hr1, hr2⟩ := pint_all b (by have := hw b (by simp); omega)
  obtain ⟨f, hf, hf1, hf2⟩ := find_name (n.Lines.map (·.Name)) (by simp; omega) c
  obtain ⟨q, hq, hq1, hq2⟩ := ptime_all d
  rw [hr, Option.bind_some]
  have hx : ∀ x : Trip, NamesP (n.Lines.map (·.Name)) → (0 ≤ x.Line ∧ x.Line < (n.Lines.length : Int)) → InI x.Id → TmOK x.Start → [a, b, c, d] = trW n x → r = (x.Id, true) ∧ f = x.Line ∧ q = (x.Start, true) := by
   intro x hN hx hi hs h
   unfold trW at h
   simp only [List.cons.injEq, and_true] at h
   obtain ⟨_, h1, h2, h3⟩ := h
   refine ⟨hr2 _ hi h1, ?_, hq2 _ hs h3⟩
   obtain ⟨l, hl⟩ := get_ex (l := n.Lines) (i := x.Line.toNat) (by omega)
   have hm : (n.Lines.map (·.Name))[x.Line.toNat]? = some l.Name := by rw [List.getElem?_map, hl]; rfl
   rw [getD_at hm] at h2
   have := hf2 x.Line.toNat hN (by rw [hm, h2]; congr 1)
   omega
  obtain ⟨y, ok⟩ := r
  cases ok with
  | false =>
   rw [if_pos (by rfl)]
   refine .ok ⟨fun h => (by cases h), fun x hN hx' hi hs h => ?_⟩
   have := (hx x hN hx' hi hs h).1; cases this
  | true =>
   rw [if_neg (by simp), Option.bind_some, Option.bind_some, hf, Option.bind_some, Option.bind_some, hq, Option.bind_some]
   obtain ⟨hy1, hy2⟩ := hr1 rfl
   by_cases hneg : f < 0
   ·rw [decide_eq_true hneg, if_pos rfl, Option.bind_some, if_pos rfl]
    refine .ok ⟨fun h => (by cases h), fun x hN hx' hi hs h => ?_⟩
    have := (hx x hN hx' hi hs h).2.1; omega
   ·rw [decide_eq_false hneg, if_neg (by simp), Option.bind_some]
    obtain ⟨z, ok2⟩ := q
    cases ok2 with
    | false =>
     rw [if_pos (by rfl)]
     refine .ok ⟨fun h => (by cases h), fun x hN hx' hi hs h => ?_⟩
     have := (hx x hN hx' hi hs h).2.2; cases this
    | true =>
     rw [if_neg (by simp)]
     obtain ⟨f0, f1, f2⟩ := hf1 hneg
     obtain ⟨z1, z2⟩ := hq1 rfl
     refine .ok ⟨fun _ => ⟨a, ?_⟩, fun x hN hx' hi hs h => ?_⟩
     ·unfold trW
      dsimp only
      rw [getD_at f2, str_l, ← hy2, ← z2]; rfl
     ·obtain ⟨k1, k2, k3⟩ := hx x hN hx' hi hs h
      cases k1; cases k2; cases k3; rfl
 ·rw [if_pos (by simp; omega)]
  refine .ok ⟨fun h => (by cases h), fun x _ _ _ _ h => absurd (by rw [h]; rfl) h4⟩
theorem spl1_cnt (c : UInt8) : ∀ l : List UInt8, (spl1 c l).length ≤ l.length + 1
 | [] => by simp [spl1]
 | x :: r => by
  have ih := spl1_cnt c r
  by_cases hx : x = c
  ·rw [spl1, if_pos hx]; simp only [List.length_cons]; omega
  ·obtain ⟨a, t, h1, h2⟩ := spl1_cons (r := r) hx
   rw [h1] at ih
   rw [h2]
   simp only [List.length_cons] at ih ⊢; omega
theorem lnW_same {n m : Network} (h : n.Stops = m.Stops) (l : Line) : lnW n l = lnW m l := by
 unfold lnW nmS
 rw [h]
theorem trW_same {n m : Network} (h : n.Lines = m.Lines) (x : Trip) : trW n x = trW m x := by
 unfold trW
 rw [h]
theorem ttW_get {t : Timetable} {i : Nat} {ws : List (List UInt8)} (h : (ttW t)[i]? = some ws) :
  (∃ s, t.Network.Stops[i]? = some s ∧ ws = stW s) ∨ (t.Network.Stops.length ≤ i ∧ ∃ l, t.Network.Lines[i - t.Network.Stops.length]? = some l ∧ ws = lnW t.Network l) ∨ (t.Network.Stops.length + t.Network.Lines.length ≤ i ∧ ∃ x, t.Trips[i - (t.Network.Stops.length + t.Network.Lines.length)]? = some x ∧ ws = trW t.Network x) := by
 unfold ttW netW at h
 rw [List.getElem?_append] at h
 by_cases h1 : i < (t.Network.Stops.map stW ++ t.Network.Lines.map (lnW t.Network)).length
 ·rw [if_pos h1, List.getElem?_append] at h
  by_cases h2 : i < (t.Network.Stops.map stW).length
  ·rw [if_pos h2, List.getElem?_map] at h
   cases hx : t.Network.Stops[i]? with
   | none => rw [hx] at h; cases h
   | some s => rw [hx] at h; cases h; exact .inl ⟨s, rfl, rfl⟩
  ·rw [if_neg h2, List.getElem?_map, List.length_map] at h
   simp only [List.length_map] at h2
   cases hx : t.Network.Lines[i - t.Network.Stops.length]? with
   | none => rw [hx] at h; cases h
   | some s => rw [hx] at h; cases h; exact .inr (.inl ⟨by omega, s, rfl, rfl⟩)
 ·rw [if_neg h1, List.getElem?_map] at h
  simp only [List.length_append, List.length_map] at h h1
  cases hx : t.Trips[i - (t.Network.Stops.length + t.Network.Lines.length)]? with
  | none => rw [hx] at h; cases h
  | some s => rw [hx] at h; cases h; exact .inr (.inr ⟨by omega, s, rfl, rfl⟩)
theorem gl_of {n : Network} (hn : Good n) {i : Nat} {l : Line} (hl : n.Lines[i]? = some l) : GL n l := by
 obtain ⟨hp, _⟩ := line_at hn hl
 refine ⟨fun s hs => ?_, fun r hr => ?_, (lnW_len hp).2⟩
 ·obtain ⟨j, hj⟩ := List.mem_iff_getElem?.1 hs
  exact (hp.2.2.1 j s hj).1
 ·obtain ⟨j, hj⟩ := List.mem_iff_getElem?.1 hr
  have := hp.2.2.2 j r hj
  unfold InI; omega
def Upto (t : Timetable) (i : Nat) (St : List ByteArray) (Ln : List Line) (Tr : List Trip) : Prop :=
 St = t.Network.Stops.take i ∧ Ln = t.Network.Lines.take (i - t.Network.Stops.length) ∧ Tr = t.Trips.take (i - (t.Network.Stops.length + t.Network.Lines.length))
def ParI (Ls : List (List UInt8)) (k : Nat) (s : Int × List ByteArray × List Line × List Trip) : Prop :=
 ∃ i : Nat, k + i = Ls.length ∧ s.1 = (i : Int) ∧ s.2.1.length + s.2.2.1.length + s.2.2.2.length = i ∧ (∀ x ∈ s.2.2.1, x.Stops.length ≤ 5000 ∧ x.Runs.length ≤ 5000) ∧ ttW ⟨⟨s.2.1, s.2.2.1⟩, s.2.2.2⟩ = (Ls.take i).map (spl1 32) ∧ ∀ t, GoodT t → Ls.map (spl1 32) = ttW t → Upto t i s.2.1 s.2.2.1 s.2.2.2
def ParQ (Ls : List (List UInt8)) (r : Fl (Timetable × Bool) (List ByteArray × List Line × List Trip)) : Prop :=
 (∃ St Ln Tr, r = .go (St, Ln, Tr) ∧ St.length + Ln.length + Tr.length = Ls.length ∧ (∀ x ∈ Ln, x.Stops.length ≤ 5000 ∧ x.Runs.length ≤ 5000) ∧ ttW ⟨⟨St, Ln⟩, Tr⟩ = Ls.map (spl1 32) ∧ ∀ t, GoodT t → Ls.map (spl1 32) = ttW t → t = ⟨⟨St, Ln⟩, Tr⟩) ∨
 (r = .ret (⟨⟨[], []⟩, []⟩, false) ∧ ∀ t, GoodT t → Ls.map (spl1 32) = ttW t → False)
theorem par_step {Ls : List (List UInt8)} (hL : Ls.length ≤ 4500) (hw : ∀ w ∈ Ls, w.length ≤ 4000) {q : List ByteArray × Bool} (hq : q.1 = Ls.map str) (k : Nat) (s : Int × List ByteArray × List Line × List Trip) (hI : ParI Ls k s) :
  Tot (zq25_L1 q s) fun r => (∀ a', r = .nx a' → ∃ k', k' < k ∧ ParI Ls k' a') ∧ ∀ b, r = .dn b → ParQ Ls b := by
 obtain ⟨v, St, Ln, Tr⟩ := s
 obtain ⟨i, hk, hv, hlen, hLn, hA, hB⟩ := hI
 dsimp only at hv hlen hLn hA hB
 subst hv
 unfold zq25_L1
 dsimp only
 rw [hq, List.length_map]
 refine .iteP (fun hlt => ?_) (fun hge => .dn (.inl ⟨St, Ln, Tr, rfl, by omega, hLn, ?_, fun t ht he => ?_⟩))
 ·obtain ⟨e, he⟩ := get_ex (l := Ls) (i := i) (by omega)
  have hel := hw e (List.mem_of_getElem? he)
  have hix : idx (Ls.map str) (i : Int) = some (str e) := ixs (by rw [List.getElem?_map, he]; rfl)
  refine .eq hix (.eq (split_ok e 32 (by omega)) ?_)
  have hWl := spl1_cnt 32 e
  have hWw := spl1_len 32 e
  obtain ⟨w0, W', hW⟩ : ∃ a b, spl1 32 e = a :: b := by
   cases h : spl1 32 e with
   | nil => exact absurd h (spl1_ne 32 e)
   | cons a b => exact ⟨a, b, rfl⟩
  have hcase : ∀ t, GoodT t → Ls.map (spl1 32) = ttW t → (ttW t)[i]? = some (w0 :: W') := by
   intro t ht h
   rw [← h, List.getElem?_map, he]
   exact congrArg some hW
  have hnx : ∀ St' Ln' Tr', (St'.length + Ln'.length + Tr'.length = i + 1) → (∀ x ∈ Ln', x.Stops.length ≤ 5000 ∧ x.Runs.length ≤ 5000) → ttW ⟨⟨St', Ln'⟩, Tr'⟩ = ttW ⟨⟨St, Ln⟩, Tr⟩ ++ [w0 :: W'] → (∀ t, GoodT t → Ls.map (spl1 32) = ttW t → Upto t (i + 1) St' Ln' Tr') → ∃ k', k' < k ∧ ParI Ls k' (((i + 1 : Nat) : Int), St', Ln', Tr') := by
   intro St' Ln' Tr' h1 h2 h3 h4
   refine ⟨k - 1, by omega, i + 1, by omega, rfl, h1, h2, ?_, h4⟩
   rw [h3, hA, take_succ he, List.map_append, List.map_cons, List.map_nil, hW]
  have hws : w64 ((i : Int) + 1) = ((i + 1 : Nat) : Int) := w64_succ (by omega)
  rw [hW, show idx ((w0 :: W').map str) 0 = some (str w0) from rfl, Option.bind_some]
  rw [hW] at hWl hWw
  -- what comes of a line that isn't right
  have bad : (∀ t, GoodT t → Ls.map (spl1 32) = ttW t → False) → ParQ Ls (.ret ((⟨(⟨([] : List ByteArray), ([] : List Line)⟩ : Network), ([] : List Trip)⟩ : Timetable), false)) := fun h => .inr ⟨rfl, h⟩
  have hst : str [115, 116, 111, 112] = str wStop := rfl
  have hsl : str [108, 105, 110, 101] = str wLine := rfl
  have hsr : str [116, 114, 105, 112] = str wTrip := rfl
  rw [hst, hsl, hsr, beq_str, beq_str, beq_str]
  refine .call (P := fun o => (o.1 = true → ∃ k', k' < k ∧ ParI Ls k' (((i + 1 : Nat) : Int), o.2.1, o.2.2.1, o.2.2.2)) ∧ (o.1 = false → ∀ t, GoodT t → Ls.map (spl1 32) = ttW t → False)) ?_ fun ⟨t, v4, v5, v6⟩ hP => ?_
  ·refine .iteP (fun h0 => ?_) (fun h0 => .iteP (fun h1 => ?_) (fun h1 => .iteP (fun h2 => ?_) (fun h2 => .ok ⟨fun h => (by cases h), fun _ t ht hm => ?_⟩)))
   ·subst h0
    have hto : ∀ t, GoodT t → Ls.map (spl1 32) = ttW t → ∃ s, t.Network.Stops[i]? = some s ∧ W' = [s.data.toList] := by
     intro t ht hm
     rcases ttW_get (hcase t ht hm) with ⟨s, h1, h2⟩ | ⟨_, l, _, h2⟩ | ⟨_, x, _, h2⟩
     ·unfold stW at h2
      simp only [List.cons.injEq, true_and] at h2
      exact ⟨s, h1, h2⟩
     ·unfold lnW at h2
      simp only [List.cons.injEq] at h2
      exact absurd h2.1 (by decide)
     ·unfold trW at h2
      simp only [List.cons.injEq] at h2
      exact absurd h2.1 (by decide)
    rw [List.length_map]
    refine .call (P := fun b => b = true ↔ (W'.length = 1 ∧ Ln = [] ∧ Tr = [])) ?_ fun b hb => .ite (fun hb1 => ?_) (fun hb1 => .ok ⟨fun h => ?_, fun _ t ht hm => ?_⟩)
    ·by_cases a1 : W'.length = 1
     ·rw [if_pos (by simp [a1])]
      by_cases a2 : Ln = []
      ·rw [if_pos (by simp [a2])]
       exact .ok (by simp [a1, a2])
      ·rw [if_neg (by simp [a2])]
       exact .ok (by simp [a2])
     ·rw [if_neg (by simp; omega)]
      exact .ok (by simp [a1])
    ·obtain ⟨a1, rfl, rfl⟩ := hb.1 hb1
     obtain ⟨s, rfl⟩ : ∃ s, W' = [s] := by
      match W', a1 with
      | [s], _ => exact ⟨s, rfl⟩
     rw [show idx ([wStop, s].map str) 1 = some (str s) from rfl, Option.bind_some]
     simp only [List.length_nil] at hlen
     refine .chk (by simp; omega) (.ok ⟨fun _ => hnx _ _ _ (by simp; omega) (by simp) ?_ fun t ht hm => ?_, fun h => by rw [hb1] at h; cases h⟩)
     ·unfold ttW netW
      simp [stW, str_l]
     ·obtain ⟨x, hx, hxs⟩ := hto t ht hm
      obtain ⟨u1, u2, u3⟩ := hB t ht hm
      have hxl := get_lt hx
      refine ⟨?_, ?_, ?_⟩
      ·show St ++ [str s] = _
       rw [take_succ hx, ← u1]
       simp only [List.cons.injEq, and_true] at hxs
       rw [hxs, ← str_of x]
      ·rw [show i + 1 - t.Network.Stops.length = 0 by omega]; rfl
      ·rw [show i + 1 - (t.Network.Stops.length + t.Network.Lines.length) = 0 by omega]; rfl
    ·rw [hb1] at h; cases h
    ·obtain ⟨x, hx, hxs⟩ := hto t ht hm
     obtain ⟨u1, u2, u3⟩ := hB t ht hm
     have hxl := get_lt hx
     rw [show i - t.Network.Stops.length = 0 by omega, List.take_zero] at u2
     rw [show i - (t.Network.Stops.length + t.Network.Lines.length) = 0 by omega, List.take_zero] at u3
     have := hb.2 ⟨by rw [hxs]; rfl, u2, u3⟩
     rw [hb1] at this; cases this
   ·subst h1
    obtain ⟨r, hr, hr1, hr2⟩ := pline_ok ⟨St, Ln⟩ (by show St.length ≤ 100000; omega) (wLine :: W') (by omega) (fun w hw' => by have := hWw w hw'; omega)
    rw [hr, Option.bind_some]
    have hto : ∀ t, GoodT t → Ls.map (spl1 32) = ttW t → t.Network.Stops.length ≤ i ∧ St = t.Network.Stops ∧ Tr = [] ∧ ∃ l, t.Network.Lines[i - t.Network.Stops.length]? = some l ∧ r = (l, true) := by
     intro t ht hm
     obtain ⟨u1, u2, u3⟩ := hB t ht hm
     rcases ttW_get (hcase t ht hm) with ⟨s, h1, h2⟩ | ⟨h0, l, h1, h2⟩ | ⟨_, x, _, h2⟩
     ·unfold stW at h2
      simp only [List.cons.injEq] at h2
      exact absurd h2.1 (by decide)
     ·have hS : St = t.Network.Stops := by rw [u1, List.take_of_length_le h0]
      have hil := get_lt h1
      refine ⟨h0, hS, ?_, l, h1, hr2 l ?_ ?_ ?_⟩
      ·rw [u3, show i - (t.Network.Stops.length + t.Network.Lines.length) = 0 by omega]; rfl
      ·show NamesP St
       rw [hS]; exact ht.1.2.2.1
      ·have hg := gl_of ht.1 h1
       refine ⟨fun s hs => ?_, hg.2⟩
       show 0 ≤ s ∧ s < (St.length : Int)
       rw [hS]; exact hg.1 s hs
      ·rw [h2]; exact lnW_same hS.symm l
     ·unfold trW at h2
      simp only [List.cons.injEq] at h2
      exact absurd h2.1 (by decide)
    refine .call (P := fun b => b = true ↔ (r.2 = true ∧ Tr = [])) (.ite (fun h => .ok ?_) (fun h => .ok ?_)) fun b hb => .chk (by simp; omega) (.ok ⟨fun h => ?_, fun h t ht hm => ?_⟩)
    ·rw [beq_iff_eq]
     constructor
     ·intro h2; exact ⟨h, List.eq_nil_of_length_eq_zero (by omega)⟩
     ·rintro ⟨_, rfl⟩; rfl
    ·exact ⟨fun h2 => (by cases h2), fun h2 => by rw [h] at h2; cases h2.1⟩
    ·obtain ⟨hok, rfl⟩ := hb.1 h
     obtain ⟨w0', hw0, hg⟩ := hr1 hok
     have hw0e : wLine = w0' := (List.cons.inj hw0).1
     subst hw0e
     have hlw : wLine :: W' = lnW ⟨St, Ln⟩ r.1 := hw0
     have hil : r.1.Stops.length + r.1.Runs.length ≤ 5000 := by
      have h6 := congrArg List.length hlw
      unfold lnW at h6
      rw [List.length_cons, List.length_cons, List.length_cons, inter_len r.1.Runs.length _ _ (by simp; exact hg.2.2) (by simp)] at h6
      simp only [List.length_map, List.length_cons] at h6 hWl
      omega
     simp only [List.length_nil] at hlen
     refine hnx _ _ _ (by simp; omega) ?_ ?_ fun t ht hm => ?_
     ·intro x hx
      rcases List.mem_append.1 hx with hx | hx
      ·exact hLn x hx
      ·simp at hx; subst hx; omega
     ·rw [hlw]
      unfold ttW netW
      dsimp only
      have hf : (lnW ⟨St, Ln ++ [r.1]⟩) = lnW ⟨St, Ln⟩ := by funext l; exact lnW_same rfl l
      simp only [List.map_append, List.map_cons, List.map_nil, List.append_nil, hf, List.append_assoc]
     ·obtain ⟨h0, hS, _, l, h1, h2⟩ := hto t ht hm
      obtain ⟨u1, u2, u3⟩ := hB t ht hm
      have hil2 := get_lt h1
      rw [h2]
      refine ⟨?_, ?_, ?_⟩
      ·rw [hS, List.take_of_length_le (by omega)]
      ·show Ln ++ [l] = _
       rw [show i + 1 - t.Network.Stops.length = (i - t.Network.Stops.length) + 1 by omega, take_succ h1, ← u2]
      ·rw [show i + 1 - (t.Network.Stops.length + t.Network.Lines.length) = 0 by omega]; rfl
    ·obtain ⟨_, _, h2, l, _, h3⟩ := hto t ht hm
     have h : b = false := h
     have := hb.2 ⟨by rw [h3], h2⟩
     rw [h] at this; cases this
   ·subst h2
    obtain ⟨r, hr, hr1, hr2⟩ := ptrip_ok ⟨St, Ln⟩ (by show Ln.length ≤ 5000; omega) (wTrip :: W') (fun w hw' => by have := hWw w hw'; omega)
    rw [hr, Option.bind_some]
    have hto : ∀ t, GoodT t → Ls.map (spl1 32) = ttW t → t.Network.Stops.length + t.Network.Lines.length ≤ i ∧ St = t.Network.Stops ∧ Ln = t.Network.Lines ∧ ∃ x, t.Trips[i - (t.Network.Stops.length + t.Network.Lines.length)]? = some x ∧ r = (x, true) := by
     intro t ht hm
     obtain ⟨u1, u2, u3⟩ := hB t ht hm
     rcases ttW_get (hcase t ht hm) with ⟨s, h1, h2⟩ | ⟨h0, l, h1, h2⟩ | ⟨h0, x, h1, h2⟩
     ·unfold stW at h2
      simp only [List.cons.injEq] at h2
      exact absurd h2.1 (by decide)
     ·unfold lnW at h2
      simp only [List.cons.injEq] at h2
      exact absurd h2.1 (by decide)
     ·have hS : St = t.Network.Stops := by rw [u1, List.take_of_length_le (by omega)]
      have hLe : Ln = t.Network.Lines := by rw [u2, List.take_of_length_le (by omega)]
      obtain ⟨_, _, hrng, hid, hstt, _⟩ := trip_at ht h1
      refine ⟨h0, hS, hLe, x, h1, hr2 x ?_ ?_ (by unfold InI; omega) hstt ?_⟩
      ·show NamesP (Ln.map (·.Name))
       rw [hLe]; exact ht.1.2.2.2.1
      ·show 0 ≤ x.Line ∧ x.Line < (Ln.length : Int)
       rw [hLe]; exact hrng
      ·rw [h2]; exact trW_same hLe.symm x
    refine .chk (by simp; omega) (.ok ⟨fun h => ?_, fun h t ht hm => ?_⟩)
    ·obtain ⟨w0', hw0⟩ := hr1 h
     have hw0e : wTrip = w0' := (List.cons.inj hw0).1
     subst hw0e
     have htw : wTrip :: W' = trW ⟨St, Ln⟩ r.1 := hw0
     refine hnx _ _ _ (by simp; omega) hLn ?_ fun t ht hm => ?_
     ·rw [htw]
      unfold ttW
      dsimp only
      rw [List.map_append, List.map_cons, List.map_nil, List.append_assoc]
     ·obtain ⟨h0, hS, hLe, x, h1, h2⟩ := hto t ht hm
      obtain ⟨u1, u2, u3⟩ := hB t ht hm
      rw [h2]
      refine ⟨?_, ?_, ?_⟩
      ·rw [hS, List.take_of_length_le (by omega)]
      ·rw [hLe, List.take_of_length_le (by omega)]
      ·show Tr ++ [x] = _
       rw [show i + 1 - (t.Network.Stops.length + t.Network.Lines.length) = (i - (t.Network.Stops.length + t.Network.Lines.length)) + 1 by omega, take_succ h1, ← u3]
    ·obtain ⟨_, _, _, x, _, h3⟩ := hto t ht hm
     have h : r.2 = false := h
     rw [h3] at h; cases h
   ·rcases ttW_get (hcase t ht hm) with ⟨s, _, h3⟩ | ⟨_, l, _, h3⟩ | ⟨_, x, _, h3⟩
    ·unfold stW at h3
     exact h0 (List.cons.inj h3).1
    ·unfold lnW at h3
     exact h1 (List.cons.inj h3).1
    ·unfold trW at h3
     exact h2 (List.cons.inj h3).1
  ·dsimp only at hP ⊢
   cases t with
   | false =>
    rw [if_pos (by rfl)]
    exact .dn (bad (hP.2 rfl))
   | true =>
    rw [if_neg (by simp), hws]
    exact .nx (hP.1 rfl)
 ·have : i = Ls.length := by omega
  subst this
  rw [List.take_length] at hA
  exact hA
 ·have hi : i = Ls.length := by omega
  obtain ⟨u1, u2, u3⟩ := hB t ht he
  have hlm := congrArg List.length he
  unfold ttW netW at hlm
  simp only [List.length_map, List.length_append] at hlm
  rw [List.take_of_length_le (by omega)] at u1 u2 u3
  obtain ⟨⟨a, b⟩, c⟩ := t
  rw [u1, u2, u3]
theorem join_inj_w {ws : List (List (List UInt8))} {Ls : List (List UInt8)} (h : ws = Ls.map (spl1 32)) : ws.map (fun w => Lib.join w [32]) = Ls := by
 subst h
 rw [List.map_map]
 have : ((fun w => Lib.join w [32]) ∘ spl1 32) = id := by funext l; exact join_spl1 32 l
 rw [this, List.map_id]
theorem parse_ok (u : List UInt8) (hu : u.length ≤ 1000000) : Tot (zq25 (str u)) fun r => (r.2 = true → GoodT r.1 ∧ u = ofW (ttW r.1)) ∧ (∀ t, GoodT t → u = ofW (ttW t) → r = (t, true)) ∧ (r.2 = false → r.1 = ⟨⟨[], []⟩, []⟩) := by
 unfold zq25
 refine .call (tl_ok u hu) fun q ⟨hq1, hq2⟩ => ?_
 have htt : ∀ t, GoodT t → u = ofW (ttW t) → ∃ v, u = v ++ [10] ∧ q = ((spl1 10 v).map str, true) ∧ (spl1 10 v).map (spl1 32) = ttW t := by
  intro t ht h
  have hne : ttW t ≠ [] := by
   intro h0
   have := congrArg List.length h0
   unfold ttW netW at this
   simp only [List.length_append, List.length_map, List.length_nil] at this
   have := ht.1.1.1
   omega
  have hW := ttW_wok ht
  have h3 := txt_len ht
  rw [ofW_join _ hne] at h
  have hq := hq2 _ h (by rw [h, ← ofW_join _ hne]; omega)
  have hs : spl1 10 (Lib.join ((ttW t).map fun w => Lib.join w [32]) [10]) = (ttW t).map fun w => Lib.join w [32] := by
   refine spl1_join (by simpa using hne) fun p hp => ?_
   obtain ⟨w, hw, rfl⟩ := List.mem_map.1 hp
   exact join_no (by decide) fun x hx => ((hW w hw).2 x hx).2.1
  refine ⟨_, h, hq, ?_⟩
  rw [hs, List.map_map]
  have : ∀ w ∈ ttW t, (spl1 32 ∘ fun w => Lib.join w [32]) w = w := fun w hw => split_w (hW w hw).1 (hW w hw).2
  rw [List.map_congr_left this, List.map_id']
 obtain ⟨ls, ok⟩ := q
 cases ok with
 | false =>
  rw [if_pos (by rfl)]
  refine .ok ⟨fun h => (by cases h), fun t ht h => ?_, fun _ => rfl⟩
  obtain ⟨v, _, h2, _⟩ := htt t ht h
  cases h2
 | true =>
  obtain ⟨v, rfl, hls, h4⟩ := hq1 rfl
  dsimp only at hls
  subst hls
  rw [if_neg (by simp)]
  have hvl : v.length ≤ 3999 := by simp at h4; omega
  have hcnt := spl1_cnt 10 v
  have hmem := spl1_len 10 v
  have hlp : Tot (iter (zq25_L1 ((spl1 10 v).map str, true)) ((0 : Int), ([] : List ByteArray), ([] : List Line), ([] : List Trip))) (ParQ (spl1 10 v)) :=
   Tot.iter (ParI (spl1 10 v)) (n := (spl1 10 v).length) ⟨0, by omega, rfl, rfl, by simp, rfl, fun t ht h => ⟨rfl, by simp, by simp⟩⟩ fun k s hI => par_step (by omega) (fun w hw => by have := hmem w hw; omega) rfl k s hI
  refine Tot.flb (hlp.mono fun r hr => ?_)
  rcases hr with ⟨St, Ln, Tr, rfl, hlen, hLn, hA, hB⟩ | ⟨rfl, hno⟩
  ·refine ⟨fun r h => (by cases h), fun w hw => ?_⟩
   cases hw
   have hTB : TB ⟨⟨St, Ln⟩, Tr⟩ := ⟨⟨by show St.length ≤ 5000; omega, by show Ln.length ≤ 5000; omega, hLn⟩, by show Tr.length ≤ 5000; omega⟩
   have hcd : zq11 ⟨⟨St, Ln⟩, Tr⟩ = some (if GoodT ⟨⟨St, Ln⟩, Tr⟩ then (⟨⟨St, Ln⟩, Tr⟩, true) else (⟨⟨[], []⟩, []⟩, false)) := by
    unfold zq11
    rw [validT_eq hTB, Option.bind_some]
    by_cases h : GoodT ⟨⟨St, Ln⟩, Tr⟩
    ·rw [decide_eq_true h, if_pos h]; rfl
    ·rw [decide_eq_false h, if_neg h]; rfl
   dsimp only
   rw [hcd, Option.bind_some]
   have hback : v ++ [10] = ofW (ttW ⟨⟨St, Ln⟩, Tr⟩) := by
    have hne : ttW ⟨⟨St, Ln⟩, Tr⟩ ≠ [] := by
     rw [hA]
     intro h
     exact spl1_ne 10 v (by simpa using h)
    rw [ofW_join _ hne, join_inj_w hA, join_spl1]
   by_cases h : GoodT ⟨⟨St, Ln⟩, Tr⟩
   ·rw [if_pos h]
    refine .ok ⟨fun _ => ⟨h, hback⟩, fun t ht hm => ?_, fun h => (by cases h)⟩
    obtain ⟨v', h1, h2, h3⟩ := htt t ht hm
    have hv := List.append_cancel_right h1
    subst hv
    rw [hB t ht h3]
   ·rw [if_neg h]
    refine .ok ⟨fun h => (by cases h), fun t ht hm => ?_, fun _ => rfl⟩
    obtain ⟨v', h1, h2, h3⟩ := htt t ht hm
    have hv := List.append_cancel_right h1
    subst hv
    exact absurd (hB t ht h3 ▸ ht) h
  ·refine ⟨fun r h => ?_, fun w hw => (by cases hw)⟩
   cases h
   refine ⟨fun h => (by cases h), fun t ht hm => ?_, fun _ => rfl⟩
   obtain ⟨v', h1, h2, h3⟩ := htt t ht hm
   have hv := List.append_cancel_right h1
   subst hv
   exact absurd h3 (hno t ht)
theorem l6net2 {n : Network} {l : Line} (hd : LD n.Stops.length l) (hS : ∀ s ∈ n.Stops, s.size ≤ 20) (hlen : l.Stops.length ≤ 10) (B : ByteArray) (hB : B.size ≤ 100000) : Tot (iter (zq75_L2 n l) (B, (0 : Int))) fun r => r.size ≤ B.size + 40 * l.Stops.length := by
 refine Tot.iter (fun k (s : ByteArray × Int) => ∃ i : Nat, k + i = l.Stops.length ∧ s.2 = (i : Int) ∧ s.1.size ≤ B.size + 40 * i) (n := l.Stops.length) ⟨0, by omega, rfl, by show B.size ≤ _; omega⟩ ?_
 rintro k ⟨T, v⟩ ⟨i, hk, hv, hT⟩
 dsimp only at hv hT
 subst hv
 have h1 : (str [32]).size = 1 := rfl
 unfold zq75_L2
 dsimp only
 refine .iteP (fun hlt => ?_) (fun hge => .dn (by show T.size ≤ B.size + 40 * l.Stops.length; omega))
 refine .call (P := fun o => o.size ≤ T.size + 40) (.chk (by omega) (.idx (by omega) hlt fun e4 he4 => ?_)) fun o ho => .nx ⟨k - 1, by omega, i + 1, by omega, w64_succ (by omega), by show o.size ≤ _; omega⟩
 have hr := hd.1 e4 (List.mem_of_getElem? he4)
 refine .idx hr.1 hr.2 fun e5 he5 => ?_
 have h5 := hS e5 (List.mem_of_getElem? he5)
 refine .chk (by rw [ByteArray.size_append]; omega) (.iteP (fun hR => .chk (by rw [ByteArray.size_append, ByteArray.size_append]; omega) (.idx (by omega) hR fun e6 he6 => ?_)) (fun hR => .ok (by rw [ByteArray.size_append, ByteArray.size_append]; omega)))
 have h6 := hd.2.1 e6 (List.mem_of_getElem? he6)
 have hn := num_len (n := e6.toNat) (by omega)
 rw [lnum_ok (by omega) (by omega), Option.bind_some]
 have hsz : (str (num e6.toNat)).size = (num e6.toNat).length := rfl
 refine .chk (by rw [ByteArray.size_append, ByteArray.size_append, ByteArray.size_append, hsz]; omega) (.ok (by rw [ByteArray.size_append, ByteArray.size_append, ByteArray.size_append, ByteArray.size_append, hsz]; omega))
theorem l6net_ok {n : Network} (hn : ND n) (hb : NB n) : Tot (zq75 n) fun r => r.size ≤ 20000 := by
 unfold zq75
 have h5 : (str [115, 116, 111, 112, 32]).size = 5 := rfl
 have h51 : (str [108, 105, 110, 101, 32]).size = 5 := rfl
 have h1 : (str [10]).size = 1 := rfl
 have hs6 := hb.1.2
 have hl8 := hb.2.1.2
 refine .call (P := fun r => r.size ≤ 1000) (Tot.iter (fun k (s : ByteArray × Int) => ∃ i : Nat, k + i = n.Stops.length ∧ s.2 = (i : Int) ∧ s.1.size ≤ 30 * i) (n := n.Stops.length) ⟨0, by omega, rfl, by show (str []).size ≤ 0; rw [str_s]; simp⟩ ?_) fun i2 hi2 => .call (P := fun r => r.size ≤ 20000) (Tot.iter (fun k (s : ByteArray × Int) => ∃ i : Nat, k + i = n.Lines.length ∧ s.2 = (i : Int) ∧ s.1.size ≤ 1000 + 500 * i) (n := n.Lines.length) ⟨0, by omega, rfl, by show i2.size ≤ _; omega⟩ ?_) fun r hr => .ok hr
 ·rintro k ⟨T, v⟩ ⟨i, hk, hv, hT⟩
  dsimp only at hv hT
  subst hv
  unfold zq75_L1
  dsimp only
  refine .iteP (fun hlt => .chk (by omega) (.idx (by omega) hlt fun e he => ?_)) (fun hge => .dn (by omega))
  have he5 := hn.2 e (List.mem_of_getElem? he)
  exact .chk (by rw [ByteArray.size_append]; omega) (.chk (by rw [ByteArray.size_append, ByteArray.size_append]; omega) (.nx ⟨k - 1, by omega, i + 1, by omega, w64_succ (by omega), by show (_ ++ _ ++ _ ++ _ : ByteArray).size ≤ _; rw [ByteArray.size_append, ByteArray.size_append, ByteArray.size_append]; omega⟩))
 ·rintro k ⟨T, v⟩ ⟨i, hk, hv, hT⟩
  dsimp only at hv hT
  subst hv
  unfold zq75_L3
  dsimp only
  refine .iteP (fun hlt => .idx (by omega) hlt fun e he => ?_) (fun hge => .dn (by omega))
  have hm := List.mem_of_getElem? he
  have hd := hn.1 e hm
  have hlb := hb.2.2 e hm
  have hnm := hd.2.2
  have hsl := hlb.1.2
  refine .chk (by omega) (.chk (by rw [ByteArray.size_append]; omega) (.call (l6net2 hd hn.2 hsl _ (by rw [ByteArray.size_append, ByteArray.size_append]; omega)) fun i6 h6 => ?_))
  rw [ByteArray.size_append, ByteArray.size_append] at h6
  exact .chk (by omega) (.nx ⟨k - 1, by omega, i + 1, by omega, w64_succ (by omega), by show (_ ++ _ : ByteArray).size ≤ _; rw [ByteArray.size_append]; omega⟩)
theorem l6tt_ok {t : Timetable} (ht : TD t) (hb : NB t.Network) (h8 : t.Trips.length ≤ 8) : Tot (zq76 t) fun r => r.size ≤ 30000 := by
 unfold zq76
 refine .call (l6net_ok ht.1 hb) fun r hr => .call (P := fun r => r.size ≤ 30000) (Tot.iter (fun k (s : ByteArray × Int) => ∃ i : Nat, k + i = t.Trips.length ∧ s.2 = (i : Int) ∧ s.1.size ≤ 20000 + 100 * i) (n := t.Trips.length) ⟨0, by omega, rfl, by show r.size ≤ _; omega⟩ ?_) fun o ho => .ok ho
 rintro k ⟨T, v⟩ ⟨i, hk, hv, hT⟩
 dsimp only at hv hT
 subst hv
 have h5 : (str [116, 114, 105, 112, 32]).size = 5 := rfl
 have h1 : (str [32]).size = 1 := rfl
 have h10 : (str [10]).size = 1 := rfl
 unfold zq76_L1
 dsimp only
 refine .iteP (fun hlt => .chk (by omega) (.idx (by omega) hlt fun e2 he2 => ?_)) (fun hge => .dn (by omega))
 obtain ⟨hl, hst, hid⟩ := ht.2 e2 (List.mem_of_getElem? he2)
 obtain ⟨l, hli⟩ := get_ex (l := t.Network.Lines) (i := e2.Line.toNat) (by omega)
 have hil : idx t.Network.Lines e2.Line = some l := by
  have := ixs hli
  rwa [show ((e2.Line.toNat : Nat) : Int) = e2.Line by omega] at this
 have hnm := (ht.1.1 l (List.mem_of_getElem? hli)).2.2
 have hx2 := ixs (get_nat he2)
 have hlo : zq73 t (i : Int) = some l := by
  unfold zq73
  rw [hx2, Option.bind_some, hil]; rfl
 have hnl := num_len (n := e2.Id.toNat) (by omega)
 have hsz : (str (num e2.Id.toNat)).size = (num e2.Id.toNat).length := rfl
 have hcs : (str (clk e2.Start.toNat)).size = 5 := rfl
 rw [lnum_ok (by omega) (by omega), Option.bind_some, hlo, hx2]
 simp only [Option.bind_some]
 rw [lText_ok hst.1 (by omega)]
 simp only [Option.bind_some]
 refine .chk ?_ (.chk ?_ (.chk ?_ (.chk ?_ (.chk ?_ (.chk ?_ (.nx ⟨k - 1, by omega, i + 1, by omega, w64_succ (by omega), ?_⟩))))))
 all_goals (simp only [ByteArray.size_append, hsz, hcs, h5, h1, h10]; omega)
theorem spoilT_ok {k : Nat} {c : l1Cur} (h : Cur k c) (hk : k ≤ 1000000) (t : List UInt8) (ht : t.length ≤ 100000) : Tot (zq50 c (str t) (str [97, 32, 49, 48, 108, 58, 10])) fun r => r.1.data.toList.length ≤ t.length + 1 := by
 unfold zq50
 rw [beq_str]
 refine .iteP (fun e => ?_) (fun e => ?_)
 ·refine .chk (by rw [str_s]; decide) (.ok ?_)
  rw [str_ext]
  show ((List.take 1 [97, 32, 49, 48, 108, 58, 10]).drop 0).length ≤ _
  simp
 ·have hpos : 0 < t.length := List.length_pos_iff.2 e
  rw [str_s]
  refine .call (pick_ok _ h (by omega)) fun r ⟨h1, a0, a1⟩ => .call (pick_ok _ h1 (by omega)) fun r1 ⟨h2, b0, b1⟩ => ?_
  have hw : (str [97, 32, 49, 48, 108, 58, 10]).size = 7 := rfl
  rw [hw] at b1
  rw [hw]
  have hw5 : 1 ≤ ((List.take 7 ([97, 32, 49, 48, 108, 58, 10] : List UInt8)).drop r1.1.toNat).length := by
   rw [List.length_drop, List.length_take]
   show 1 ≤ min 7 7 - r1.1.toNat
   omega
  obtain ⟨w, hwl, hwe⟩ : ∃ w : List UInt8, 1 ≤ w.length ∧ (str [97, 32, 49, 48, 108, 58, 10]).extract r1.1.toNat 7 = str w := ⟨_, hw5, str_ext _ _ _⟩
  rw [hwe]
  have hx : (str w).extract (0 : Int).toNat (1 : Int).toNat = str (w.take 1) := by rw [str_ext]; simp
  have hx1 : (w.take 1).length ≤ 1 := by simp; omega
  have l0 : (str t).extract (0 : Int).toNat r.1.toNat = str (t.take r.1.toNat) := by rw [str_ext]; simp
  have l1 : ∀ n : Int, (str t).extract n.toNat t.length = str (t.drop n.toNat) := fun n => by rw [str_ext, List.take_length]
  have ew : w64 (r.1 + 1) = r.1 + 1 := w64_id (by omega)
  refine .chk (by omega) (.chk (by rw [str_s]; omega) (.call (pick_ok 3 h2 (by omega)) fun r2 ⟨h3, _, _⟩ => ?_))
  simp only [hx, l0, l1, str_app, ew, str_s]
  refine .ite (fun _ => .chk (by omega) (.chk (by simp; omega) (.chk (by omega) (.chk (by simp; omega) (.ok ?_))))) (fun _ => .ite (fun _ => .chk (by omega) (.chk (by simp; omega) (.chk (by omega) (.chk (by simp; omega) (.ok ?_))))) (fun _ => .chk (by omega) (.chk (by omega) (.chk (by simp; omega) (.ok ?_)))))
  all_goals (rw [str_l]; simp; omega)
theorem dpt_ok (code : List UInt8) : Tot (zq34 code) fun s => s.data.toList.length ≤ 50000 := by
 unfold zq34
 refine .call (Tot.pc (timetable_ok (cur0 code) (by omega)) (timetable_pc (cur0 code) (by omega))) fun r ⟨⟨h1, _, h3, h4⟩, h5⟩ => .call (l6tt_ok h5 h3 h4) fun r1 h6 => ?_
 obtain ⟨t, ht⟩ : ∃ t, r1 = str t := ⟨r1.data.toList, str_of r1⟩
 subst ht
 rw [str_s] at h6
 exact .call (P := fun s : ByteArray => s.data.toList.length ≤ 50000) (.call (one_ok 3 h1 (by omega)) fun r2 h7 => .ite (fun _ => .call (spoilT_ok h7 (by omega) t (by omega)) fun r3 h8 => .ok (by omega)) (fun _ => .ok (by rw [str_l]; omega))) fun v hv => .ok hv
theorem vInts_refl (a : List Int) (h : a.length ≤ 5000) : zq87 a a = some true := by
 unfold zq87
 simp only [bne_self_eq_false, Bool.false_eq_true, if_false]
 rw [all_val (hd := Classical.propDecidable _) a (fun _ _ => True) (fun i x hx => ?_) (by unfold zq87_L1; simp)]
 ·rw [if_pos (fun _ _ _ => trivial)]
 ·have hi := (List.getElem?_eq_some_iff.1 hx).1
  unfold zq87_L1
  have hlt : decide ((i : Int) < (a.length : Int)) = true := by simp; omega
  left
  simp only [hlt, if_true, idx_nat, hx, Option.bind_some, bne_self_eq_false, Bool.false_eq_true, if_false, w64_succ (n := i) (by omega), and_self]
theorem vTexts_refl (a : List ByteArray) (h : a.length ≤ 5000) : zq89 a a = some true := by
 unfold zq89
 simp only [bne_self_eq_false, Bool.false_eq_true, if_false]
 rw [all_val (hd := Classical.propDecidable _) a (fun _ _ => True) (fun i x hx => ?_) (by unfold zq89_L1; simp)]
 ·rw [if_pos (fun _ _ _ => trivial)]
 ·have hi := (List.getElem?_eq_some_iff.1 hx).1
  unfold zq89_L1
  have hlt : decide ((i : Int) < (a.length : Int)) = true := by simp; omega
  left
  simp only [hlt, if_true, idx_nat, hx, Option.bind_some, beq_self_eq_true, Bool.not_true, Bool.false_eq_true, if_false, w64_succ (n := i) (by omega), and_self]
theorem vNetwork_refl (n : Network) (h : Bd n) : zq88 n n = some true := by
 obtain ⟨h1, h2, h3⟩ := h
 unfold zq88
 rw [vTexts_refl _ h1]
 simp only [Option.bind_some, Bool.not_true, Bool.false_eq_true, if_false, bne_self_eq_false]
 rw [all_val (hd := Classical.propDecidable _) n.Lines (fun _ _ => True) (fun i x hx => ?_) (by unfold zq88_L1; simp)]
 ·rw [if_pos (fun _ _ _ => trivial)]
 ·have hi := (List.getElem?_eq_some_iff.1 hx).1
  obtain ⟨g1, g2⟩ := h3 x (List.mem_of_getElem? hx)
  unfold zq88_L1
  have hlt : decide ((i : Int) < (n.Lines.length : Int)) = true := by simp; omega
  left
  simp only [hlt, if_true, idx_nat, hx, Option.bind_some, beq_self_eq_true, Bool.not_true, Bool.false_eq_true, if_false, vInts_refl _ g1, vInts_refl _ g2, w64_succ (n := i) (by omega), and_self]
theorem vTimetable_refl {t : Timetable} (h : TB t) : zq90 t t = some true := by
 have h2 := h.2
 unfold zq90
 rw [vNetwork_refl _ h.1]
 simp only [Option.bind_some, Bool.not_true, Bool.false_eq_true, if_false, bne_self_eq_false]
 rw [all_val (hd := Classical.propDecidable _) t.Trips (fun _ _ => True) (fun i x hx => ?_) (by unfold zq90_L1; simp)]
 ·rw [if_pos (fun _ _ _ => trivial)]
 ·have := get_lt hx
  unfold zq90_L1
  left
  refine ⟨?_, trivial⟩
  simp only [Int.ofNat_lt.2 this, decide_true, if_true, idx_nat, hx, Option.bind_some, beq_self_eq_true, Bool.and_self, Bool.not_true, Bool.false_eq_true, if_false, w64_succ (n := i) (by omega)]
theorem tb_empty : TB (⟨⟨[], []⟩, []⟩ : Timetable) := ⟨⟨by simp, by simp, by simp⟩, by simp⟩
theorem vBigT (code : List UInt8) : zq86 code = some (decide (65536 < (code.length : Int))) := rfl
theorem goodT_tb {t : Timetable} (h : GoodT t) : TB t := by
 refine ⟨⟨by have := h.1.1.2; omega, by have := h.1.2.1.2; omega, fun x hx => ?_⟩, by have := h.2.1; omega⟩
 obtain ⟨i, hi⟩ := List.mem_iff_getElem?.1 hx
 have hp := (line_at h.1 hi).1
 have h1 := (lnW_len hp).2
 have h2 := hp.1.2
 omega
theorem fmt_ok {t : Timetable} (hb : TB t) : zq1 t = some (if GoodT t then (str (ofW (ttW t)), true) else (str [], false)) := by
 unfold zq1
 rw [validT_eq hb, Option.bind_some]
 by_cases h : GoodT t
 ·rw [decide_eq_true h, if_pos h, if_neg (by simp), ftt_ok h]; rfl
 ·rw [decide_eq_false h, if_neg h]; rfl
theorem fmn_ok {n : Network} (hb : Bd n) : zq0 n = some (if Good n then (str (ofW (netW n)), true) else (str [], false)) := by
 unfold zq0
 rw [valid_eq n hb, Option.bind_some]
 by_cases h : Good n
 ·rw [decide_eq_true h, if_pos h, if_neg (by simp), fnet_ok h]; rfl
 ·rw [decide_eq_false h, if_neg h]; rfl
theorem netW_tt (n : Network) : netW n = ttW ⟨n, []⟩ := by unfold ttW; simp
theorem timetext_true (code : List UInt8) : v_FnTimetableText code = some true := by
 unfold v_FnTimetableText
 refine Tot.val (.eq (vBigT code) (.iteP (fun _ => .ok rfl) (fun _ => ?_)))
 have hd1 : Tot (zq31 code) fun t => TB t := by
  unfold zq31 zq33
  exact .call (P := fun t => TB t) (.call (anyTimetable_ok (cur0 code) (by omega)) fun r ⟨_, h⟩ => .ok ⟨h.1, by have := h.2; show r.1.Trips.length ≤ 5000; omega⟩) fun r h => .ok h
 refine .call hd1 fun t ht => ?_
 obtain ⟨⟨St, Ln⟩, Tr⟩ := t
 dsimp only
 refine .eq (fmt_ok ht) ?_
 have hl : (if GoodT ⟨⟨St, Ln⟩, Tr⟩ then (str (ofW (ttW ⟨⟨St, Ln⟩, Tr⟩)), true) else (str [], false)).1 = str (if GoodT ⟨⟨St, Ln⟩, Tr⟩ then ofW (ttW ⟨⟨St, Ln⟩, Tr⟩) else []) := by split <;> rfl
 have hl2 : (if GoodT ⟨⟨St, Ln⟩, Tr⟩ then (str (ofW (ttW ⟨⟨St, Ln⟩, Tr⟩)), true) else (str [], false)).2 = decide (GoodT ⟨⟨St, Ln⟩, Tr⟩) := by
  by_cases h : GoodT ⟨⟨St, Ln⟩, Tr⟩ <;> simp [h]
 rw [hl, hl2]
 have hlen : (if GoodT ⟨⟨St, Ln⟩, Tr⟩ then ofW (ttW ⟨⟨St, Ln⟩, Tr⟩) else []).length ≤ 1000000 := by
  split
  ·rename_i h
   have := txt_len h
   omega
  ·simp
 have hpt : ∀ u : List UInt8, u.length ≤ 1000000 → Tot (zq8 (str u)) fun r => (r.2 = true → GoodT r.1 ∧ u = ofW (ttW r.1)) ∧ (∀ t, GoodT t → u = ofW (ttW t) → r = (t, true)) ∧ (r.2 = false → r.1 = ⟨⟨[], []⟩, []⟩) := by
  intro u hu
  unfold zq8
  exact .call (parse_ok u hu) fun r h => .ok h
 refine .call (hpt _ hlen) fun r3 ⟨_, hr3, _⟩ => ?_
 have hv5 : zq36 ⟨⟨St, Ln⟩, Tr⟩ = some (decide (GoodT ⟨⟨St, Ln⟩, Tr⟩)) := by
  unfold zq36
  rw [goodT_eq ht]; rfl
 refine .eq hv5 (.call (P := fun v => v = false) ?_ fun v hv => ?_)
 ·rw [if_neg (by simp)]
  refine .iteP (fun h => ?_) (fun h => .ok rfl)
  have e := hr3 _ h (by rw [if_pos h])
  rw [e]
  dsimp only
  rw [if_neg (by simp), vTimetable_refl ht]
  exact .ok rfl
 subst hv
 rw [if_neg (by simp)]
 refine .call (dpt_ok code) fun u hu => ?_
 obtain ⟨u, rfl⟩ : ∃ l, u = str l := ⟨u.data.toList, str_of u⟩
 rw [str_l] at hu
 refine .call (hpt u (by omega)) fun r7 ⟨h1, _, h3⟩ => ?_
 have hb7 : TB r7.1 := by
  cases h : r7.2 with
  | true => exact goodT_tb (h1 h).1
  | false => rw [h3 h]; exact tb_empty
 refine .eq (fmt_ok hb7) (.call (P := fun v => v = false) ?_ fun v hv => ?_)
 ·refine .ite (fun h => ?_) (fun h => .ok rfl)
  obtain ⟨hg, hu7⟩ := h1 h
  rw [if_pos hg]
  dsimp only
  rw [if_neg (by simp), ← hu7]
  exact .ok (by simp)
 subst hv
 rw [if_neg (by simp)]
 have hd2 : Tot (zq30 code) fun n => Bd n := by
  unfold zq30 zq32
  exact .call (P := fun n => Bd n) (.call (anyNet_ok (cur0 code) (by omega)) fun r ⟨_, h⟩ => .ok h) fun r h => .ok h
 refine .call hd2 fun n hn => ?_
 obtain ⟨S, L⟩ := n
 dsimp only
 refine .eq (fmn_ok hn) ?_
 have hvn : zq35 ⟨S, L⟩ = some (decide (Good ⟨S, L⟩)) := by
  unfold zq35
  rw [good_eq _ hn]; rfl
 by_cases hg : Good ⟨S, L⟩
 ·rw [if_pos hg]
  dsimp only
  have hlen2 : (ofW (netW ⟨S, L⟩)).length ≤ 1000000 := by
   have := txt_len (good0 hg)
   rw [netW_tt]; omega
  have hpn : zq6 (str (ofW (netW ⟨S, L⟩))) = some (⟨S, L⟩, true) := by
   unfold zq6
   obtain ⟨r, hr, _, h2, _⟩ := parse_ok _ hlen2
   have e := h2 _ (good0 hg) (by rw [netW_tt])
   rw [hr, e]
   rfl
  rw [hpn, Option.bind_some, hvn, Option.bind_some, decide_eq_true hg]
  dsimp only
  rw [if_pos (by simp), if_neg (by simp), if_pos rfl, vNetwork_refl _ hn]
  exact .ok rfl
 ·rw [if_neg hg]
  dsimp only
  have hpn : Tot (zq6 (str [])) fun _ => True := by
   unfold zq6
   refine .call (parse_ok [] (by simp)) fun r _ => .call (P := fun _ => True) (.ite (fun _ => .ok trivial) (fun _ => .ok trivial)) fun v _ => .ite (fun _ => .ok trivial) (fun _ => .ok trivial)
  refine .call hpn fun r11 _ => ?_
  rw [hvn, Option.bind_some, decide_eq_false hg]
  rw [if_pos (by simp), if_pos (by simp)]
  exact .ok rfl
end Go.Proofs.YtimaoofeephgjaaGreatDoor
