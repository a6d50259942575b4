/- The plain law: what the models compute, no program in sight. -/
import Derived.Test.YtpdjoidmbaaopaaGreatDoorFcM
import Derived.Test.YtpdjoidmbaaopaaGreatDoorAbTot
namespace Go.Proofs.YtpdjoidmbaaopaaGreatDoor
open Go Go.Ab
set_option maxHeartbeats 4000000
set_option linter.unusedVariables false
set_option linter.unusedSimpArgs false
/-! The cursor of the draws: it always answers. -/
/-! Texts: parts between bytes, no program in sight. -/
/-- The parts of a text between the occurrences of a byte. -/
def spl1 (c : UInt8) : List UInt8 → List (List UInt8)
  | [] => [[]]
  | x :: r => if x = c then [] :: spl1 c r else match spl1 c r with
    | [] => [[x]]
    | h :: t => (x :: h) :: t
theorem spl1_ne (c : UInt8) : ∀ l, spl1 c l ≠ []
  | [] => by simp [spl1]
  | x :: r => by
    unfold spl1
    split
    · simp
    · split <;> simp
theorem spl1_cons {c x : UInt8} {r : List UInt8} (h : x ≠ c) : ∃ a t, spl1 c r = a :: t ∧ spl1 c (x :: r) = (x :: a) :: t := by
  cases hs : spl1 c r with
  | nil => exact absurd hs (spl1_ne c r)
  | cons a t => exact ⟨a, t, rfl, by rw [spl1, if_neg h, hs]⟩
theorem index1_cons {c x : UInt8} {r : List UInt8} : Lib.index (x :: r) [c] = if x = c then 0 else if Lib.index r [c] = -1 then -1 else Lib.index r [c] + 1 := by
  rw [Lib.index]
  by_cases h : x = c
  · subst h; simp
  · have h1 : ([c] : List UInt8).isPrefixOf (x :: r) = false := by
      simp [List.isPrefixOf, Ne.symm h]
    rw [h1, if_neg h]
    simp only [Bool.false_eq_true, if_false, beq_iff_eq]
theorem splitK_spl1 (c : UInt8) : ∀ (l : List UInt8) (k : Nat), l.count c ≤ k → Lib.splitK [c] 0 k l = spl1 c l
  | [], k, _ => by
    cases k with
    | zero => rfl
    | succ k => rw [Lib.splitK]; simp [Lib.index, spl1]
  | x :: r, k, hk => by
    by_cases h : x = c
    · subst h
      rw [List.count_cons_self] at hk
      cases k with
      | zero => omega
      | succ k =>
        have ih := splitK_spl1 x r k (by omega)
        rw [Lib.splitK, index1_cons, if_pos rfl, spl1, if_pos rfl]
        simpa using ih
    · rw [List.count_cons_of_ne h] at hk
      have ih := splitK_spl1 c r k hk
      obtain ⟨a, t, h1, h2⟩ := spl1_cons (r := r) h
      rw [h2]
      cases k with
      | zero =>
        rw [Lib.splitK] at ih ⊢
        rw [h1] at ih
        cases ih; rfl
      | succ k =>
        rw [Lib.splitK, index1_cons, if_neg h]
        rw [Lib.splitK, h1] at ih
        by_cases hi : Lib.index r [c] = -1
        · rw [if_pos (by rw [hi]; rfl)] at ih
          rw [if_pos hi]
          cases ih
          simp
        · have hge := Lib.index_ge r [c]
          rw [if_neg (by simpa using hi)] at ih
          rw [if_neg hi, if_neg (by simp only [beq_iff_eq]; omega)]
          have e : (Lib.index r [c] + 1).toNat = (Lib.index r [c]).toNat + 1 := by omega
          rw [e]
          simp only [Nat.add_zero, List.length_cons, List.length_nil] at ih ⊢
          cases ih
          simp
theorem count1 (c : UInt8) (s : List UInt8) : Lib.count s [c] = s.count c := Lib.count_one c s
theorem splitB_one {s t : ByteArray} {c : UInt8} (h : t = ⟨#[c]⟩) : (Lib.splitB t 0 (Lib.countB s t) s).map (·.data.toList) = spl1 c s.data.toList := by
  subst h
  rw [Lib.splitB_data]
  exact splitK_spl1 c _ _ (by rw [show Lib.countB s ⟨#[c]⟩ = Lib.count s.data.toList [c] from rfl, count1]; exact Nat.le_refl _)
/-- Put together again. -/
theorem join_spl1 (c : UInt8) : ∀ l, Lib.join (spl1 c l) [c] = l
  | [] => rfl
  | x :: r => by
    have ih := join_spl1 c r
    by_cases h : x = c
    · subst h
      rw [spl1, if_pos rfl]
      cases hs : spl1 x r with
      | nil => exact absurd hs (spl1_ne x r)
      | cons a t =>
        rw [hs] at ih
        rw [Lib.join_cons] at ih ⊢
        simp only [Lib.joinTail, List.map_cons, List.flatten_cons, List.nil_append, List.singleton_append] at ih ⊢
        rw [List.cons_append, ih]
    · obtain ⟨a, t, h1, h2⟩ := spl1_cons (r := r) h
      rw [h1, Lib.join_cons] at ih
      rw [h2, Lib.join_cons, List.cons_append, ih]
theorem spl1_free (c : UInt8) : ∀ l, ∀ p ∈ spl1 c l, c ∉ p
  | [], p, hp => by simp [spl1] at hp; subst hp; simp
  | x :: r, p, hp => by
    have ih := spl1_free c r
    by_cases h : x = c
    · rw [spl1, if_pos h] at hp
      rcases List.mem_cons.1 hp with rfl | hp
      · simp
      · exact ih p hp
    · obtain ⟨a, t, h1, h2⟩ := spl1_cons (r := r) h
      rw [h2] at hp
      rw [h1] at ih
      rcases List.mem_cons.1 hp with rfl | hp
      · simp only [List.mem_cons, not_or]
        exact ⟨Ne.symm h, ih a (List.mem_cons_self ..)⟩
      · exact ih p (List.mem_cons_of_mem _ hp)
theorem spl1_app {c : UInt8} : ∀ {p : List UInt8}, c ∉ p → ∀ l, spl1 c (p ++ c :: l) = p :: spl1 c l
  | [], _, l => by rw [List.nil_append, spl1, if_pos rfl]
  | x :: p, hp, l => by
    simp only [List.mem_cons, not_or] at hp
    have ih := spl1_app hp.2 l
    rw [List.cons_append, spl1, if_neg (Ne.symm hp.1), ih]
theorem spl1_self {c : UInt8} : ∀ {p : List UInt8}, c ∉ p → spl1 c p = [p]
  | [], _ => rfl
  | x :: p, hp => by
    simp only [List.mem_cons, not_or] at hp
    rw [spl1, if_neg (Ne.symm hp.1), spl1_self hp.2]
/-- Taken apart again. -/
theorem spl1_join {c : UInt8} : ∀ {l : List (List UInt8)}, l ≠ [] → (∀ p ∈ l, c ∉ p) → spl1 c (Lib.join l [c]) = l
  | [], h, _ => absurd rfl h
  | [p], _, hp => by rw [Lib.join_one]; exact spl1_self (hp p (List.mem_cons_self ..))
  | p :: q :: r, _, hp => by
    have ih := spl1_join (l := q :: r) (by simp) (fun x hx => hp x (List.mem_cons_of_mem _ hx))
    rw [Lib.join_cons] at ih ⊢
    have e : p ++ Lib.joinTail [c] (q :: r) = p ++ c :: (q ++ Lib.joinTail [c] r) := by simp [Lib.joinTail]
    rw [e, spl1_app (hp p (List.mem_cons_self ..)), ih]
theorem contains1 (c : UInt8) (l : List UInt8) : Lib.contains l [c] = decide (c ∈ l) := by
  rw [Lib.contains]
  congr 1
  apply propext
  induction l with
  | nil => simp [Lib.index]
  | cons x r ih =>
    rw [index1_cons]
    have hge := Lib.index_ge r [c]
    by_cases h : x = c
    · subst h; simp
    · rw [if_neg h]
      simp only [List.mem_cons, Ne.symm h, false_or]
      rw [← ih]
      split <;> omega
/-- Cut at the first occurrence of a byte. -/
theorem cut1_hit {c : UInt8} : ∀ {p : List UInt8}, c ∉ p → ∀ l, Lib.cut (p ++ c :: l) [c] = (p, l, true) := by
  intro p hp l
  have hi : ∀ p : List UInt8, c ∉ p → Lib.index (p ++ c :: l) [c] = p.length := by
    intro p
    induction p with
    | nil => intro _; rw [List.nil_append, index1_cons, if_pos rfl]; rfl
    | cons x p ih =>
      intro hp
      simp only [List.mem_cons, not_or] at hp
      rw [List.cons_append, index1_cons, if_neg (Ne.symm hp.1), ih hp.2]
      simp only [List.length_cons]
      rw [if_neg (by omega)]
      omega
  rw [Lib.cut, hi p hp, if_pos (by omega)]
  have e : (p.length : Int).toNat = p.length := by omega
  rw [e]
  have e2 : p ++ c :: l = (p ++ [c]) ++ l := by simp
  refine Prod.ext ?_ (Prod.ext ?_ rfl)
  · show (p ++ c :: l).take p.length = p
    exact List.take_left' rfl
  · show (p ++ c :: l).drop (p.length + [c].length) = l
    rw [e2]
    exact List.drop_left' (by simp)
theorem cut1_miss {c : UInt8} {l : List UInt8} (h : c ∉ l) : Lib.cut l [c] = (l, [], false) := by
  have := contains1 c l
  rw [Lib.contains] at this
  rw [Lib.cut, if_neg]
  intro h0
  rw [decide_eq_true h0] at this
  exact h (of_decide_eq_true this.symm)
theorem cut1 (c : UInt8) : ∀ l : List UInt8, (c ∉ l ∧ Lib.cut l [c] = (l, [], false)) ∨ ∃ p q, c ∉ p ∧ l = p ++ c :: q ∧ Lib.cut l [c] = (p, q, true) := by
  intro l
  by_cases h : c ∈ l
  · obtain ⟨p, q, rfl, hp⟩ := List.eq_append_cons_of_mem h
    exact .inr ⟨p, q, hp, rfl, cut1_hit hp q⟩
  · exact .inl ⟨h, cut1_miss h⟩
/-! Texts as lists of bytes; numbers' texts; a test of every byte. -/
theorem bsize (x : ByteArray) : x.data.toList.length = x.size := rfl
theorem tl_eq (x : ByteArray) : x.toList = x.data.toList := by
  have h : ∀ (n i : Nat) (r : List UInt8), x.size - i = n → ByteArray.toList.loop x i r = r.reverse ++ x.data.toList.drop i := by
    intro n
    induction n with
    | zero =>
      intro i r hn
      rw [ByteArray.toList.loop, if_neg (by omega), List.drop_of_length_le (by rw [bsize]; omega), List.append_nil]
    | succ n ih =>
      intro i r hn
      have hi : i < x.data.toList.length := by rw [bsize]; omega
      rw [ByteArray.toList.loop, if_pos (by omega), ih (i + 1) _ (by omega), List.drop_eq_getElem_cons hi]
      have : x.get! i = x.data.toList[i] := by
        have h2 : i < x.data.size := by simpa using hi
        show x.data[i]! = _
        rw [getElem!_pos x.data i h2]
        simp
      rw [this]
      simp
  show ByteArray.toList.loop x 0 [] = _
  rw [h _ 0 [] rfl]
  simp
theorem str_of (x : ByteArray) : x = str x.data.toList := rfl
theorem str_l (l : List UInt8) : (str l).data.toList = l := rfl
theorem str_t (l : List UInt8) : (str l).toList = l := tl_eq _
theorem str_s (l : List UInt8) : (str l).size = l.length := rfl
theorem str_app (a b : List UInt8) : str a ++ str b = str (a ++ b) := by
  apply ByteArray.ext; simp [str]
theorem str_ext (l : List UInt8) (i j : Nat) : (str l).extract i j = str ((l.take j).drop i) := by
  apply ByteArray.ext
  simp [str, List.drop_take]
theorem str_inj {a b : List UInt8} : str a = str b ↔ a = b := ⟨fun h => congrArg (fun x : ByteArray => x.data.toList) h, fun h => by rw [h]⟩
theorem str_empty : ByteArray.empty = str [] := rfl
theorem getD_some {l : List UInt8} {i : Nat} {x : UInt8} (h : l[i]? = some x) : l.getD i 0 = x := by rw [List.getD_eq_getElem?_getD, h]; rfl
theorem beq_str (a b : List UInt8) : ((str a).toList == (str b).toList) = decide (a = b) := by
  rw [str_t, str_t]
  by_cases h : a = b <;> simp [h]
theorem u8_eq (x c : UInt8) : (((x.toNat : Nat) : Int) == ((c.toNat : Nat) : Int)) = decide (x = c) := by
  by_cases h : x = c
  · subst h; simp
  · have : ¬ (x.toNat : Int) = c.toNat := fun e => h (UInt8.toNat_inj.1 (by omega))
    simp [h, this]
/-- A separator, and what is on its two sides. -/
theorem sep_inj {c : UInt8} : ∀ {a b x y : List UInt8}, c ∉ a → c ∉ b → a ++ c :: x = b ++ c :: y → a = b ∧ x = y
  | [], [], _, _, _, _, h => by simpa using h
  | [], z :: b, _, _, _, hb, h => by
    simp only [List.nil_append, List.cons_append, List.cons.injEq] at h
    exact absurd (by rw [h.1]; exact List.mem_cons_self ..) hb
  | z :: a, [], _, _, ha, _, h => by
    simp only [List.nil_append, List.cons_append, List.cons.injEq] at h
    exact absurd (by rw [← h.1]; exact List.mem_cons_self ..) ha
  | z :: a, w :: b, x, y, ha, hb, h => by
    simp only [List.cons_append, List.cons.injEq] at h
    simp only [List.mem_cons, not_or] at ha hb
    obtain ⟨h1, h2⟩ := sep_inj ha.2 hb.2 h.2
    exact ⟨by rw [h.1, h1], h2⟩
/-- Every byte passes a test. -/
theorem all_loop {α : Type} (l : List α) (p : α → Prop) [DecidablePred p] {step : Int → Option (Lp Int (Fl Bool Unit))} (hl : l.length ≤ 4294967296) (b : Bool)
    (h1 : ∀ (i : Nat) x, l[i]? = some x → p x → step (i : Int) = some (.nx (w64 ((i : Int) + 1)))) (h2 : ∀ (i : Nat) x, l[i]? = some x → ¬ p x → step (i : Int) = some (.dn (.ret b)))
    (h3 : step (l.length : Int) = some (.dn (.go ()))) : iter step (0 : Int) = if (∀ x ∈ l, p x) then some (.go ()) else some (.ret b) := by
  have h : ∀ k i : Nat, k + i = l.length → (∀ x ∈ l.take i, p x) → iter step (i : Int) = if (∀ x ∈ l, p x) then some (.go ()) else some (.ret b) := by
    intro k
    induction k with
    | zero =>
      intro i hi hp
      have e : i = l.length := by omega
      subst e
      rw [List.take_length] at hp
      rw [iter_dn h3, if_pos hp]
    | succ k ih =>
      intro i hi hp
      obtain ⟨x, hx⟩ := get_ex (l := l) (i := i) (by omega)
      by_cases hpx : p x
      · rw [iter_nx (h1 i x hx hpx), w64_succ (by omega)]
        refine ih (i + 1) (by omega) fun y hy => ?_
        rw [take_succ hx] at hy
        rcases List.mem_append.1 hy with hy | hy
        · exact hp y hy
        · simp at hy; subst hy; exact hpx
      · rw [iter_dn (h2 i x hx hpx), if_neg (fun h => hpx (h x (List.mem_of_getElem? hx)))]
  exact h l.length 0 (by omega) (by simp)
/-- Numbers. -/
def num (n : Nat) : List UInt8 := Lib.decDigits n
theorem num_dig : ∀ (n : Nat), ∀ b ∈ num n, 48 ≤ b.toNat ∧ b.toNat ≤ 57 := by
  intro n
  induction n using Nat.strongRecOn with
  | _ n ih =>
    intro b hb
    unfold num at hb ih
    rw [Lib.decDigits] at hb
    split at hb
    · simp only [List.mem_singleton] at hb
      subst hb
      rw [UInt8.toNat_ofNat']; omega
    · rcases List.mem_append.1 hb with hb | hb
      · exact ih (n / 10) (by omega) b hb
      · simp only [List.mem_singleton] at hb
        subst hb
        rw [UInt8.toNat_ofNat']; omega
theorem num_len {n : Nat} (h : n < 1000000) : 1 ≤ (num n).length ∧ (num n).length ≤ 6 := by
  unfold num
  rw [Lib.decDigits_length]
  have h1 : ∀ n : Nat, n < 10 → Lib.nDigits n = 1 := fun n h => Lib.nDigits_small h
  have h2 : ∀ n k : Nat, ¬ n < 10 → Lib.nDigits (n / 10) ≤ k → Lib.nDigits n ≤ k + 1 := fun n k h hk => by rw [Lib.nDigits_big h]; omega
  have key : ∀ (k n : Nat), n < 10 ^ (k + 1) → Lib.nDigits n ≤ k + 1 := by
    intro k
    induction k with
    | zero => intro n h; rw [h1 n (by simpa using h)]; omega
    | succ k ih =>
      intro n h
      by_cases h0 : n < 10
      · rw [h1 n h0]; omega
      · exact h2 n _ h0 (ih (n / 10) (by rw [Nat.pow_succ] at h; omega))
  exact ⟨Lib.nDigits_pos n, key 5 n (by simpa using h)⟩
theorem num_no {c : UInt8} (hc : c.toNat < 48 ∨ 57 < c.toNat) (n : Nat) : c ∉ num n := fun h => by
  have := num_dig n c h
  omega
theorem dd_big {u : Nat} (h : ¬ u < 10) : Lib.decDigits u = Lib.decDigits (u / 10) ++ [UInt8.ofNat (48 + u % 10)] := by
  rw [Lib.decDigits, dif_neg h]
theorem num_inj : ∀ {a b : Nat}, num a = num b → a = b := by
  intro a
  induction a using Nat.strongRecOn with
  | _ a ih =>
    intro b h
    unfold num at h ih
    have hl := congrArg List.length h
    rw [Lib.decDigits_length, Lib.decDigits_length] at hl
    by_cases ha : a < 10
    · by_cases hb : b < 10
      · rw [Lib.decDigits_one ha, Lib.decDigits_one hb] at h
        simp only [List.cons.injEq, and_true] at h
        have := congrArg UInt8.toNat h
        rw [UInt8.toNat_ofNat', UInt8.toNat_ofNat'] at this; omega
      · rw [Lib.nDigits_small ha, Lib.nDigits_big hb] at hl
        have := Lib.nDigits_pos (b / 10); omega
    · by_cases hb : b < 10
      · rw [Lib.nDigits_small hb, Lib.nDigits_big ha] at hl
        have := Lib.nDigits_pos (a / 10); omega
      · rw [dd_big ha, dd_big hb] at h
        rw [Lib.nDigits_big ha, Lib.nDigits_big hb] at hl
        obtain ⟨h1, h2⟩ := List.append_inj h (by rw [Lib.decDigits_length, Lib.decDigits_length]; omega)
        have h3 := ih (a / 10) (by omega) h1
        simp only [List.cons.injEq, and_true] at h2
        have := congrArg UInt8.toNat h2
        rw [UInt8.toNat_ofNat', UInt8.toNat_ofNat'] at this; omega
theorem itoa_num {n : Int} (h0 : 0 ≤ n) (h1 : n < 1000000) : strconv_Itoa n = some (str (num n.toNat)) := by
  unfold strconv_Itoa itoaM
  rw [if_pos (by omega)]
  unfold Lib.itoa
  rw [if_neg (by omega)]
  rfl
theorem dig_ext {n : Int} (h0 : 0 ≤ n) (h1 : n < 10) : (str [48, 49, 50, 51, 52, 53, 54, 55, 56, 57]).extract n.toNat (w64 (n + 1)).toNat = str [UInt8.ofNat (48 + n.toNat)] := by
  rw [w64_id (by omega)]
  have : n = 0 ∨ n = 1 ∨ n = 2 ∨ n = 3 ∨ n = 4 ∨ n = 5 ∨ n = 6 ∨ n = 7 ∨ n = 8 ∨ n = 9 := by omega
  rcases this with rfl | rfl | rfl | rfl | rfl | rfl | rfl | rfl | rfl | rfl <;> rw [str_ext] <;> rfl
theorem lnum_k : ∀ (d : Nat) (k : Nat) (n : Int), 0 ≤ n → n < 10 ^ (d + 1) → d ≤ 8 → d < k → s_l1Num_k k n = some (str (num n.toNat))
  | d, k, n, h0, h1, hd, hk => by
    obtain ⟨k, rfl⟩ : ∃ j, k = j + 1 := ⟨k - 1, by omega⟩
    have hb : n < 1000000000 := by
      have h9 : (10 : Nat) ^ (d + 1) ≤ 10 ^ 9 := Nat.pow_le_pow_right (by decide) (by omega)
      have h10 : ((10 ^ (d + 1) : Nat) : Int) = (10 : Int) ^ (d + 1) := by simp
      omega
    show s_l1Num_F (s_l1Num_k k) n = _
    unfold s_l1Num_F
    by_cases hn : n < 10
    · have e2 : decide (n < 0) = false := decide_eq_false (by omega)
      simp only [e2, hn, decide_true, Bool.false_eq_true, if_false, if_true]
      rw [chk_of (by rw [w64_id (by omega)]; exact ⟨h0, by omega, by show n + 1 ≤ 10; omega⟩), Option.bind_some, dig_ext h0 hn]
      unfold num
      rw [Lib.decDigits_one (by omega)]
    · match d, h1, hd, hk with
      | 0, h1, _, _ => simp at h1; omega
      | d + 1, h1, hd, hk =>
        have e2 : decide (n < 0) = false := decide_eq_false (by omega)
        have e3 : decide (n < 10) = false := decide_eq_false hn
        have et : n.tdiv 10 = n / 10 := Int.tdiv_eq_ediv_of_nonneg h0
        have em : n.tmod 10 = n % 10 := Int.tmod_eq_emod_of_nonneg h0
        have ew : w64 (n.tdiv 10) = n / 10 := by rw [et, w64_id (by omega)]
        have hr := lnum_k d k (n / 10) (by omega) (by rw [Int.pow_succ] at h1; omega) (by omega) (by omega)
        have hm0 : 0 ≤ n % 10 := by omega
        have hm1 : n % 10 < 10 := by omega
        simp only [e2, e3, Bool.false_eq_true, if_false, ew, hr, em]
        have c10 : chk ((10 : Int) ≠ 0) = some () := chk_of (by decide)
        simp only [c10, Option.bind_some]
        rw [chk_of (by rw [w64_id (by omega)]; exact ⟨hm0, by omega, by show n % 10 + 1 ≤ 10; omega⟩), Option.bind_some, dig_ext hm0 hm1]
        have hlen : (num (n / 10).toNat).length ≤ 100 := by
          unfold num
          rw [Lib.decDigits_length]
          have key : ∀ (k n : Nat), n < 10 ^ (k + 1) → Lib.nDigits n ≤ k + 1 := by
            intro k
            induction k with
            | zero => intro n h; rw [Lib.nDigits_small (by simpa using h)]; omega
            | succ k ih =>
              intro n h
              by_cases h0 : n < 10
              · rw [Lib.nDigits_small h0]; omega
              · rw [Lib.nDigits_big h0]
                have := ih (n / 10) (by rw [Nat.pow_succ] at h; omega)
                omega
          have := key 9 (n / 10).toNat (by omega)
          omega
        rw [chk_of (by rw [str_s, str_s]; simp; omega), Option.bind_some, str_app]
        unfold num
        rw [dd_big (u := n.toNat) (by omega)]
        have e5 : (n / 10).toNat = n.toNat / 10 := by omega
        have e6 : (n % 10).toNat = n.toNat % 10 := by omega
        rw [e5, e6]
theorem lnum_ok {n : Int} (h0 : 0 ≤ n) (h1 : n < 1000000) : s_l1Num n = some (str (num n.toNat)) := by
  unfold s_l1Num
  exact lnum_k 5 4294967296 n h0 (by simpa using h1) (by omega) (by omega)
/-- The parts between bytes. -/
theorem lsplit_ok (l : List UInt8) (b : UInt8) (hl : l.length ≤ 9000000) : s_l1Split (str l) b = some ((spl1 b l).map str) := by
  have h : Tot (iter (s_l1Split_L1 (str l) b) ((0 : Int), (0 : Int), ([] : List ByteArray))) fun r => ∃ (v : Nat) (ps : List (List UInt8)), r = ((v : Int), ps.map str) ∧ v ≤ l.length ∧ ps.length ≤ l.length ∧ spl1 b l = ps ++ [l.drop v] := by
    refine Tot.iter (fun k a => ∃ (v i : Nat) (ps : List (List UInt8)), k + i = l.length ∧ a = ((v : Int), (i : Int), ps.map str) ∧ v ≤ i ∧ ps.length ≤ i ∧ b ∉ (l.take i).drop v ∧ spl1 b l = ps ++ spl1 b (l.drop v)) (n := l.length) ⟨0, 0, [], rfl, rfl, by omega, by simp, by simp, by simp⟩ ?_
    rintro k _ ⟨v, i, ps, hk, rfl, hvi, hps, hb, hs⟩
    unfold s_l1Split_L1
    dsimp only
    rw [str_s]
    refine .iteP (fun hlt => ?_) (fun hge => ?_)
    · have hlt' : i < l.length := by omega
      obtain ⟨x, hx⟩ := get_ex hlt'
      have hd : l.drop v = (l.take i).drop v ++ x :: l.drop (i + 1) := by
        have e1 : l.drop i = x :: l.drop (i + 1) := by
          rw [List.drop_eq_getElem_cons hlt']
          congr 1
          exact (List.getElem?_eq_some_iff.1 hx).2
        rw [← e1, ← List.drop_append_of_le_length (by simp; omega), List.take_append_drop]
      have ex : (str l).data.toList.getD (i : Int).toNat 0 = x := by
        rw [str_l, show (i : Int).toNat = i by omega]; exact getD_some hx
      rw [chk_of ⟨by omega, hlt⟩, Option.bind_some, ex, u8_eq]
      refine .call (P := fun r => ∃ (v' : Nat) (ps' : List (List UInt8)), r = ((v' : Int), ps'.map str) ∧ v' ≤ i + 1 ∧ ps'.length ≤ i + 1 ∧ b ∉ (l.take (i + 1)).drop v' ∧ spl1 b l = ps' ++ spl1 b (l.drop v')) (.iteP (fun e => ?_) (fun e => .ok ⟨v, ps, rfl, by omega, by omega, ?_, hs⟩)) ?_
      · subst e
        have ee : (str l).extract (v : Int).toNat (i : Int).toNat = str ((l.take i).drop v) := by
          rw [str_ext]; simp
        rw [ee]
        refine .chk ⟨by omega, by omega, by omega⟩ (.chk (by simp; omega) (.ok ⟨i + 1, ps ++ [(l.take i).drop v], ?_, by omega, by simp; omega, by simp, ?_⟩))
        · rw [w64_succ (by omega)]; simp
        · rw [hs, hd, spl1_app hb, List.append_assoc]; rfl
      · rw [take_succ hx, List.drop_append_of_le_length (by simp; omega)]
        simp only [List.mem_append, List.mem_singleton, not_or]
        exact ⟨hb, fun h => e h.symm⟩
      · rintro _ ⟨v', ps', rfl, q1, q2, q3, q4⟩
        exact .nx ⟨k - 1, by omega, v', i + 1, ps', by omega, by rw [w64_succ (by omega)], q1, q2, q3, q4⟩
    · have e : i = l.length := by omega
      subst e
      rw [List.take_length] at hb
      rw [spl1_self hb] at hs
      exact .dn ⟨v, ps, rfl, hvi, hps, hs⟩
  obtain ⟨_, hr, v, ps, rfl, h1, h2, h3⟩ := h
  unfold s_l1Split
  rw [hr]
  simp only [Option.bind_some]
  rw [str_s, chk_of ⟨by omega, by omega⟩, Option.bind_some, chk_of (by simp; omega), Option.bind_some, h3, str_ext]
  simp
/-! Numbers, sums, seals. -/
theorem lin_eq (x a b : Int) : s_l1In x a b = some (decide (a ≤ x ∧ x ≤ b)) := by
  unfold s_l1In
  by_cases h1 : a ≤ x <;> by_cases h2 : x ≤ b <;> simp [h1, h2]
theorem stands_ok (l : List UInt8) (b : UInt8) (hl : l.length ≤ 9000000) : s_l1Stands (str l) b = some (decide (b ∈ l)) := by
  unfold s_l1Stands
  have e1 : ∀ (i : Nat) x, l[i]? = some x → s_l1Stands_L1 (str l) b (i : Int) = if x ≠ b then some (.nx (w64 ((i : Int) + 1))) else some (.dn (.ret true)) := by
    intro i x hx
    have hlt := get_lt hx
    unfold s_l1Stands_L1
    dsimp only
    rw [str_s, if_pos (by simpa using hlt), chk_of ⟨by omega, by omega⟩, Option.bind_some, str_l, show (i : Int).toNat = i by omega, getD_some hx, u8_eq]
    by_cases h : x = b <;> simp [h]
  rw [all_loop l (fun x => x ≠ b) (by omega) true (fun i x hx hp => by rw [e1 i x hx, if_pos hp]) (fun i x hx hp => by rw [e1 i x hx, if_neg hp]) (by unfold s_l1Stands_L1; simp [str_s])]
  by_cases hp : b ∈ l
  · have : ¬ ∀ x ∈ l, x ≠ b := fun h => h b hp rfl
    rw [if_neg this]
    simp [flb, hp]
  · have : ∀ x ∈ l, x ≠ b := fun x hx e => hp (e ▸ hx)
    rw [if_pos this]
    simp [flb, hp]
theorem contains_ok (l : List UInt8) (c : UInt8) (hl : l.length ≤ 9000000) : strings_Contains (str l) (str [c]) = some (decide (c ∈ l)) := by
  unfold strings_Contains containsM
  rw [if_pos (by rw [str_s]; omega), str_l, str_l, contains1]
def sumF (i : Int) (b : UInt8) : Int := (41 * i + b.toNat + 1).tmod 999979
def sumL (l : List UInt8) : Int := l.foldl sumF 7
theorem sumF_rng {i : Int} (h : 0 ≤ i) (b : UInt8) : 0 ≤ sumF i b ∧ sumF i b < 999979 := by
  unfold sumF
  exact tmod_rng (by omega) (by omega)
theorem sum_rng : ∀ (l : List UInt8) (a : Int), 0 ≤ a ∧ a < 999979 → 0 ≤ l.foldl sumF a ∧ l.foldl sumF a < 999979
  | [], a, h => h
  | b :: l, a, h => sum_rng l _ (sumF_rng h.1 b)
theorem lsum_ok (l : List UInt8) (hl : l.length ≤ 9000000) : s_l1Sum (str l) = some (sumL l) := by
  have h := fold_loop (step := s_l1Sum_L1 (str l)) l sumF 7 (fun i a => (a, (i : Int))) (fun a => a) (fun i x hx => ?_) (by unfold s_l1Sum_L1; simp [str_s])
  · unfold s_l1Sum
    have e : ((7 : Int), ((0 : Nat) : Int)) = ((7 : Int), (0 : Int)) := rfl
    rw [e] at h
    rw [h]; rfl
  · have hlt := get_lt hx
    have hb := x.toNat_lt
    have hr := sum_rng (l.take i) 7 (by omega)
    unfold s_l1Sum_L1
    dsimp only
    rw [str_s, if_pos (by simpa using hlt), chk_of ⟨by omega, by omega⟩, Option.bind_some, chk_of (by decide), Option.bind_some, str_l, show (i : Int).toNat = i by omega, getD_some hx, w64_succ (by omega), w64_id (x := (x.toNat : Int)) (by omega), w64_id (x := 41 * _) (by omega), w64_id (x := 41 * _ + _) (by omega), w64_id (by omega)]
    rfl
theorem csum_eq (s : ByteArray) : i_checksum s = s_l1Sum s := rfl
def tail (l : List UInt8) : List UInt8 := l ++ 35 :: num (sumL l).toNat
theorem sumN (l : List UInt8) : 0 ≤ sumL l ∧ sumL l < 1000000 := by
  have := sum_rng l 7 (by omega)
  unfold sumL; omega
theorem tail_len (l : List UInt8) : l.length + 2 ≤ (tail l).length ∧ (tail l).length ≤ l.length + 7 := by
  have h := sumN l
  have := num_len (n := (sumL l).toNat) (by omega)
  unfold tail; simp; omega
theorem seal_ok (l : List UInt8) (hl : l.length ≤ 9000000) : s_l1Seal (str l) = some (str (tail l)) := by
  have h := sumN l
  have := num_len (n := (sumL l).toNat) (by omega)
  unfold s_l1Seal
  rw [chk_of (by rw [str_s, str_s]; simp; omega), Option.bind_some, lsum_ok l hl, Option.bind_some, lnum_ok h.1 (by omega), Option.bind_some, str_app, chk_of (by rw [str_s, str_s]; simp; omega), Option.bind_some, str_app]
  unfold tail; simp
theorem itoa_n {n : Int} (h : 0 ≤ n) : Lib.itoa n = num n.toNat := by
  unfold Lib.itoa; rw [if_neg (by omega)]; rfl
theorem itoa_nat (n : Nat) : Lib.itoa (n : Int) = num n := by rw [itoa_n (by omega)]; rfl
theorem itoa_len {n : Int} (h0 : -1000000 < n) (h1 : n < 1000000) : 1 ≤ (Lib.itoa n).length ∧ (Lib.itoa n).length ≤ 7 := by
  unfold Lib.itoa
  split
  · have := num_len (n := n.natAbs) (by omega)
    unfold num at this; simp; omega
  · have := num_len (n := n.toNat) (by omega)
    unfold num at this; omega
theorem lnumI {n : Int} (h0 : -1000000 < n) (h1 : n < 1000000) : s_l1Num n = some (str (Lib.itoa n)) := by
  by_cases hn : n < 0
  · have e : s_l1Num n = s_l1Num_F (s_l1Num_k 4294967295) n := by
      unfold s_l1Num
      show s_l1Num_k (4294967295 + 1) n = _
      rfl
    rw [e]
    unfold s_l1Num_F
    have ew : w64 (0 - n) = -n := by rw [w64_id (by omega)]; omega
    have hl := num_len (n := (-n).toNat) (by omega)
    simp only [hn, decide_true, if_true, ew]
    rw [lnum_k 5 4294967295 (-n) (by omega) (by simp; omega) (by omega) (by omega), Option.bind_some, chk_of (by rw [str_s, str_s]; simp; omega), Option.bind_some, str_app]
    unfold Lib.itoa
    rw [if_pos hn, show n.natAbs = (-n).toNat by omega]
    rfl
  · rw [lnum_ok (by omega) h1, itoa_n (by omega)]
theorem iItoa {n : Int} (h0 : -1000000 < n) (h1 : n < 1000000) : strconv_Itoa n = some (str (Lib.itoa n)) := by
  unfold strconv_Itoa itoaM
  rw [if_pos (by omega)]
  rfl
def valD (l : List UInt8) : Nat := l.foldl (fun a b => 10 * a + (b.toNat - 48)) 0
def Dig (b : UInt8) : Prop := 48 ≤ b.toNat ∧ b.toNat ≤ 57
def CanD (d : List UInt8) : Prop := d ≠ [] ∧ (∀ b ∈ d, Dig b) ∧ (2 ≤ d.length → d.head? ≠ some 48)
def NoDig (l : List UInt8) : Prop := ∀ b, l.head? = some b → ¬ Dig b
theorem valD_snoc (l : List UInt8) (b : UInt8) : valD (l ++ [b]) = 10 * valD l + (b.toNat - 48) := by unfold valD; simp
theorem valD_lt : ∀ (k : Nat) (l : List UInt8), l.length = k → (∀ b ∈ l, Dig b) → valD l < 10 ^ k := by
  intro k
  induction k with
  | zero => intro l hl _; have : l = [] := List.length_eq_zero_iff.1 hl; subst this; simp [valD]
  | succ k ih =>
    intro l hl hd
    obtain ⟨a, b, rfl⟩ : ∃ a b, l = a ++ [b] := ⟨l.dropLast, l.getLast (by intro e; simp [e] at hl), (List.dropLast_concat_getLast _).symm⟩
    have h1 := ih a (by simpa using hl) (fun x hx => hd x (List.mem_append_left _ hx))
    have h2 := hd b (by simp)
    rw [valD_snoc, Nat.pow_succ]
    have := h2.2
    omega
theorem num_val : ∀ (k : Nat) (d : List UInt8), d.length = k + 1 → (∀ b ∈ d, Dig b) → (2 ≤ d.length → d.head? ≠ some 48) → num (valD d) = d := by
  intro k
  induction k with
  | zero =>
    intro d hl hd _
    match d, hl with
    | [b], _ =>
      have h := hd b (by simp)
      have hv : valD [b] = b.toNat - 48 := by simp [valD]
      rw [hv]
      unfold num
      rw [Lib.decDigits_one (by have := h.2; omega)]
      congr 1
      rw [show 48 + (b.toNat - 48) = b.toNat by have := h.1; omega]
      exact UInt8.ofNat_toNat
  | succ k ih =>
    intro d hl hd hh
    obtain ⟨a, b, rfl⟩ : ∃ a b, d = a ++ [b] := ⟨d.dropLast, d.getLast (by intro e; simp [e] at hl), (List.dropLast_concat_getLast _).symm⟩
    have hal : a.length = k + 1 := by simpa using hl
    have hha : a.head? = (a ++ [b]).head? := by
      cases a with
      | nil => simp at hal
      | cons x a => rfl
    have hne : a.head? ≠ some 48 := by rw [hha]; exact hh (by simp; omega)
    have h1 := ih a hal (fun x hx => hd x (List.mem_append_left _ hx)) (fun _ => hne)
    have hb := hd b (by simp)
    have hpos : 1 ≤ valD a := by
      apply Classical.byContradiction
      intro hn
      have h0 : valD a = 0 := by omega
      rw [h0] at h1
      unfold num at h1
      rw [Lib.decDigits_one (by omega)] at h1
      rw [← h1] at hne
      exact hne rfl
    rw [valD_snoc]
    unfold num at h1 ⊢
    have h2 := hb.1; have h3 := hb.2
    rw [dd_big (by omega), show (10 * valD a + (b.toNat - 48)) / 10 = valD a by omega, show (10 * valD a + (b.toNat - 48)) % 10 = b.toNat - 48 by omega, h1]
    congr 2
    rw [show 48 + (b.toNat - 48) = b.toNat by omega]
    exact UInt8.ofNat_toNat
theorem num_head : ∀ (n : Nat), 10 ≤ n → (num n).head? ≠ some 48 := by
  intro n
  induction n using Nat.strongRecOn with
  | _ n ih =>
    intro hn
    unfold num at ih ⊢
    rw [dd_big (by omega)]
    by_cases h : n / 10 < 10
    · rw [Lib.decDigits_one h]
      simp only [List.cons_append, List.head?_cons, ne_eq, Option.some.injEq]
      intro e
      have := congrArg UInt8.toNat e
      rw [UInt8.toNat_ofNat'] at this
      simp at this; omega
    · have := ih (n / 10) (by omega) (by omega)
      have hp := Lib.nDigits_pos (n / 10)
      rw [← Lib.decDigits_length] at hp
      cases hd : Lib.decDigits (n / 10) with
      | nil => rw [hd] at hp; simp at hp
      | cons x r => rw [hd] at this; simpa using this
theorem num_can (n : Nat) : CanD (num n) := by
  refine ⟨?_, fun b hb => num_dig n b hb, fun h2 => ?_⟩
  · intro e
    have hp := Lib.nDigits_pos n
    rw [← Lib.decDigits_length] at hp
    unfold num at e
    rw [e] at hp; simp at hp
  · by_cases h : n < 10
    · unfold num at h2
      rw [Lib.decDigits_one h] at h2; simp at h2
    · exact num_head n (by omega)
theorem can_num {d : List UInt8} (h : CanD d) : num (valD d) = d := by
  have hp := List.length_pos_iff.2 h.1
  exact num_val (d.length - 1) d (by omega) h.2.1 h.2.2
theorem val_num (n : Nat) : valD (num n) = n := num_inj (can_num (num_can n))
theorem dig_inj : ∀ {a b x y : List UInt8}, (∀ c ∈ a, Dig c) → (∀ c ∈ b, Dig c) → NoDig x → NoDig y → a ++ x = b ++ y → a = b ∧ x = y
  | [], [], _, _, _, _, _, _, h => ⟨rfl, by simpa using h⟩
  | [], z :: b, x, y, _, hb, hx, _, h => by
    simp only [List.nil_append, List.cons_append] at h
    exact absurd (hb z (by simp)) (hx z (by rw [h]; rfl))
  | z :: a, [], x, y, ha, _, _, hy, h => by
    simp only [List.nil_append, List.cons_append] at h
    exact absurd (ha z (by simp)) (hy z (by rw [← h]; rfl))
  | z :: a, w :: b, x, y, ha, hb, hx, hy, h => by
    simp only [List.cons_append, List.cons.injEq] at h
    obtain ⟨h1, h2⟩ := dig_inj (fun c hc => ha c (List.mem_cons_of_mem _ hc)) (fun c hc => hb c (List.mem_cons_of_mem _ hc)) hx hy h.2
    exact ⟨by rw [h.1, h1], h2⟩
theorem num_split {n m : Nat} {x y : List UInt8} (hx : NoDig x) (hy : NoDig y) (h : num n ++ x = num m ++ y) : n = m ∧ x = y := by
  obtain ⟨h1, h2⟩ := dig_inj (num_can n).2.1 (num_can m).2.1 hx hy h
  exact ⟨num_inj h1, h2⟩
/-! Texts: the law. -/
def InI (n : Int) : Prop := -1000000 < n ∧ n < 1000000
def PI (s : List UInt8) (r : Int × Bool) : Prop := (∃ n, InI n ∧ s = Lib.itoa n ∧ r = (n, true)) ∨ (r = (0, false) ∧ ¬ ∃ n, InI n ∧ s = Lib.itoa n)
theorem itoa_neg {n : Int} (h : n < 0) : Lib.itoa n = 45 :: num (-n).toNat := by
  unfold Lib.itoa
  rw [if_pos h, show n.natAbs = (-n).toNat by omega]; rfl
theorem num_first (n : Nat) : ∃ b r, num n = b :: r ∧ Dig b := by
  have hc := num_can n
  cases hx : num n with
  | nil => exact absurd hx hc.1
  | cons b r => exact ⟨b, r, rfl, hc.2.1 b (by rw [hx]; simp)⟩
theorem itoa_inj {a b : Int} (h : Lib.itoa a = Lib.itoa b) : a = b := by
  by_cases ha : a < 0
  · rw [itoa_neg ha] at h
    by_cases hb : b < 0
    · rw [itoa_neg hb] at h
      simp only [List.cons.injEq, true_and] at h
      have := num_inj h; omega
    · rw [itoa_n (by omega)] at h
      obtain ⟨c, r, hc, hd⟩ := num_first b.toNat
      rw [hc] at h
      simp only [List.cons.injEq] at h
      have := hd.1; rw [← h.1] at this; simp at this
  · rw [itoa_n (by omega)] at h
    by_cases hb : b < 0
    · rw [itoa_neg hb] at h
      obtain ⟨c, r, hc, hd⟩ := num_first a.toNat
      rw [hc] at h
      simp only [List.cons.injEq] at h
      have := hd.1; rw [h.1] at this; simp at this
    · rw [itoa_n (by omega)] at h
      have := num_inj h; omega
theorem num_small {n : Nat} (h : (num n).length ≤ 6) : n < 1000000 := by
  have := valD_lt _ (num n) rfl (num_can n).2.1
  rw [val_num] at this
  exact Nat.lt_of_lt_of_le this (Nat.pow_le_pow_right (by omega) h)
theorem nodig_nil : NoDig [] := fun b hb => by cases hb
def SealOK (l : List UInt8) : Prop := l.length ≤ 4000 ∧ 35 ∉ l ∧ (tail l).length ≤ 4000
theorem iac_ok (l : List UInt8) (hl : l.length ≤ 100000) : (SealOK l ∧ i_AppendChecksum (str l) = some (str (tail l), true)) ∨ (¬ SealOK l ∧ i_AppendChecksum (str l) = some (str [], false)) := by
  unfold i_AppendChecksum
  rw [str_s]
  by_cases h1 : l.length ≤ 4000
  · rw [decide_eq_false (by omega : ¬ (4000 : Int) < (l.length : Int)), contains_ok _ _ (by omega)]
    simp only [Bool.false_eq_true, if_false, Option.bind_some]
    by_cases h2 : 35 ∈ l
    · rw [decide_eq_true h2]
      exact .inr ⟨fun h => h.2.1 h2, rfl⟩
    · have hs := sumN l
      have hn := num_len (n := (sumL l).toNat) (by omega)
      rw [decide_eq_false h2]
      simp only [Bool.false_eq_true, if_false]
      rw [chk_of (by rw [str_s]; simp; omega), Option.bind_some, csum_eq, lsum_ok _ (by omega), Option.bind_some, iItoa (by omega) (by omega), Option.bind_some, itoa_n hs.1, str_app, chk_of (by rw [str_s, str_s]; simp; omega), Option.bind_some, str_app, str_s]
      have et : l ++ [35] ++ num (sumL l).toNat = tail l := by unfold tail; simp
      rw [et]
      by_cases h3 : (tail l).length ≤ 4000
      · rw [decide_eq_false (by omega)]
        exact .inl ⟨⟨h1, h2, h3⟩, rfl⟩
      · rw [decide_eq_true (by omega)]
        exact .inr ⟨fun h => h3 h.2.2, rfl⟩
  · rw [decide_eq_true (by omega)]
    exact .inr ⟨fun h => h1 h.1, rfl⟩
theorem sumF_inj {i j : Int} {b : UInt8} (hi : 0 ≤ i ∧ i < 999979) (hj : 0 ≤ j ∧ j < 999979) (h : sumF i b = sumF j b) : i = j := by
  unfold sumF at h
  rw [Int.tmod_eq_emod_of_nonneg (by omega), Int.tmod_eq_emod_of_nonneg (by omega)] at h
  omega
theorem sumF_injb {i : Int} {b c : UInt8} (hi : 0 ≤ i) (h : sumF i b = sumF i c) : b = c := by
  have h1 := b.toNat_lt; have h2 := c.toNat_lt
  unfold sumF at h
  rw [Int.tmod_eq_emod_of_nonneg (by omega), Int.tmod_eq_emod_of_nonneg (by omega)] at h
  exact UInt8.toNat_inj.1 (by omega)
theorem fold_inj : ∀ (l : List UInt8) {i j : Int}, 0 ≤ i ∧ i < 999979 → 0 ≤ j ∧ j < 999979 → l.foldl sumF i = l.foldl sumF j → i = j
  | [], _, _, _, _, h => h
  | b :: l, i, j, hi, hj, h => sumF_inj hi hj (fold_inj l (sumF_rng hi.1 b) (sumF_rng hj.1 b) h)
theorem sum_set {a c : List UInt8} {x y : UInt8} (h : sumL (a ++ x :: c) = sumL (a ++ y :: c)) : x = y := by
  unfold sumL at h
  rw [List.foldl_append, List.foldl_append, List.foldl_cons, List.foldl_cons] at h
  have hr := sum_rng a 7 (by omega)
  exact sumF_injb hr.1 (fold_inj c (sumF_rng hr.1 x) (sumF_rng hr.1 y) h)
theorem flip_no {l a c : List UInt8} {x y : UInt8} (hl : SealOK l) (ht : tail l = a ++ x :: c) (hxy : y ≠ x) : ¬ ∃ r, SealOK r ∧ a ++ y :: c = tail r := by
  rintro ⟨r, hr, he⟩
  have nd : ∀ n, 35 ∉ num n := num_no (.inl (by decide))
  unfold tail at ht he
  rcases Nat.lt_trichotomy a.length l.length with h | h | h
  · -- ahead
    obtain ⟨u, hu⟩ : ∃ u, l = a ++ u := by
      refine ⟨l.drop a.length, ?_⟩
      have := congrArg (List.take a.length) ht
      rw [List.take_append_of_le_length (by omega), List.take_left] at this
      have h9 := List.take_append_drop a.length l
      rw [this] at h9; exact h9.symm
    subst hu
    rw [List.append_assoc] at ht
    have ht2 := List.append_cancel_left ht
    cases u with
    | nil => simp at h
    | cons z u =>
      simp only [List.cons_append, List.cons.injEq] at ht2
      obtain ⟨rfl, rfl⟩ := ht2
      by_cases h35 : y = 35
      · subst h35
        have ha : 35 ∉ a := fun hm => hl.2.1 (List.mem_append_left _ hm)
        obtain ⟨h1, h2⟩ := sep_inj ha hr.2.1 he
        exact nd _ (by rw [← h2]; simp)
      · have hm : 35 ∉ a ++ y :: u := by
          intro hm
          rcases List.mem_append.1 hm with hm | hm
          · exact hl.2.1 (List.mem_append_left _ hm)
          · rcases List.mem_cons.1 hm with hm | hm
            · exact h35 hm.symm
            · exact hl.2.1 (by simp [hm])
        rw [show a ++ y :: (u ++ 35 :: num (sumL (a ++ z :: u)).toNat) = (a ++ y :: u) ++ 35 :: num (sumL (a ++ z :: u)).toNat by simp] at he
        obtain ⟨h1, h2⟩ := sep_inj hm hr.2.1 he
        have h3 := num_inj h2
        rw [← h1] at h3
        have s1 := sumN (a ++ z :: u); have s2 := sumN (a ++ y :: u)
        exact hxy (sum_set (a := a) (c := u) (by omega)).symm
  · -- within
    have := List.append_inj ht h.symm
    obtain ⟨rfl, h2⟩ := this
    simp only [List.cons.injEq] at h2
    obtain ⟨rfl, rfl⟩ := h2
    have hm : 35 ∉ l ++ y :: num (sumL l).toNat := by
      intro hm
      rcases List.mem_append.1 hm with hm | hm
      · exact hl.2.1 hm
      · rcases List.mem_cons.1 hm with hm | hm
        · exact hxy hm.symm
        · exact nd _ hm
    exact hm (by rw [he]; simp)
  · -- behind
    obtain ⟨u, hu⟩ : ∃ u, a = l ++ 35 :: u := by
      refine ⟨a.drop (l.length + 1), ?_⟩
      have := congrArg (List.take a.length) ht
      rw [List.take_left] at this
      have h2 : (l ++ 35 :: num (sumL l).toNat).take a.length = l ++ 35 :: (num (sumL l).toNat).take (a.length - l.length - 1) := by
        rw [List.take_append, List.take_of_length_le (by omega)]
        obtain ⟨k, hk⟩ : ∃ k, a.length - l.length = k + 1 := ⟨a.length - l.length - 1, by omega⟩
        rw [hk]; simp
      rw [h2] at this
      rw [← this]
      simp
    subst hu
    rw [List.append_assoc] at ht he
    have ht2 := List.append_cancel_left ht
    simp only [List.cons_append, List.cons.injEq, true_and] at ht2
    obtain ⟨h1, h2⟩ := sep_inj hl.2.1 hr.2.1 (show l ++ 35 :: (u ++ y :: c) = r ++ 35 :: num (sumL r).toNat from he)
    rw [← h1, ht2] at h2
    have := List.append_cancel_left h2
    simp only [List.cons.injEq, and_true] at this
    exact hxy this
theorem xor_ne (e : UInt8) (d : Int) (h0 : 1 ≤ d) (h1 : d ≤ 255) : mkU8 (IntKind.u8.wrap ((BitVec.ofInt (IntKind.u8).bits (e.toNat : Int) ^^^ BitVec.ofInt (IntKind.u8).bits (IntKind.u8.wrap d)).toNat : Int)) ≠ e := by
  intro h
  have h2 := congrArg UInt8.toNat h
  have hb : (IntKind.u8).bits = 8 := rfl
  have he := e.toNat_lt
  unfold mkU8 at h2
  rw [UInt8.toNat_ofNat', IntKind.wrap_u8, IntKind.wrap_u8, hb] at h2
  obtain ⟨v, hv⟩ : ∃ v : BitVec 8, v = BitVec.ofInt 8 (e.toNat : Int) ^^^ BitVec.ofInt 8 (d % 256) := ⟨_, rfl⟩
  rw [← hv] at h2
  have hvl := v.isLt
  have h3 : v.toNat = e.toNat := by omega
  have h4 : v = BitVec.ofInt 8 (e.toNat : Int) := by
    apply BitVec.eq_of_toNat_eq
    rw [h3, BitVec.toNat_ofInt]; omega
  rw [hv] at h4
  have h5 : BitVec.ofInt 8 (d % 256) = 0#8 := by
    have := congrArg (fun x => BitVec.ofInt 8 (e.toNat : Int) ^^^ x) h4
    simp only [← BitVec.xor_assoc, BitVec.xor_self, BitVec.zero_xor] at this
    exact this
  have h6 := congrArg BitVec.toNat h5
  rw [BitVec.toNat_ofInt] at h6
  simp at h6; omega
/-! Networks: when they are valid, for the program and for the reference. -/
theorem within_eq (n lo hi : Int) : i_within n lo hi = some (decide (lo ≤ n ∧ n ≤ hi)) := by
  unfold i_within
  by_cases h : lo ≤ n <;> simp [h]
theorem l1In_eq (n lo hi : Int) : s_l1In n lo hi = some (decide (lo ≤ n ∧ n ≤ hi)) := by
  unfold s_l1In
  by_cases h : lo ≤ n <;> simp [h]
/-- Byte i of a name. -/
def ChOK (i : Nat) (c : UInt8) : Prop := (97 ≤ (c.toNat : Int) ∧ (c.toNat : Int) ≤ 122) ∨ (i ≠ 0 ∧ 48 ≤ (c.toNat : Int) ∧ (c.toNat : Int) ≤ 57)
def NameOK (s : ByteArray) : Prop := (1 ≤ s.size ∧ s.size ≤ 8) ∧ ∀ (i : Nat) c, s.data.toList[i]? = some c → ChOK i c
open Classical in
noncomputable instance (s : ByteArray) : Decidable (NameOK s) := Classical.propDecidable _
theorem size_list (s : ByteArray) : s.data.toList.length = s.size := by simp
theorem getD_of {α : Type} {l : List α} {i : Nat} {x d : α} (h : l[i]? = some x) : l.getD i d = x := by rw [List.getD_eq_getElem?_getD, h]; rfl

theorem isName_eq (s : ByteArray) : i_isName s = some (decide (NameOK s)) := by
  unfold i_isName
  by_cases h1 : 1 ≤ s.size ∧ s.size ≤ 8
  · have e1 : decide ((s.size : Int) < 1) = false := by simp; omega
    have e2 : decide (8 < (s.size : Int)) = false := by simp; omega
    simp only [e1, e2, Bool.false_eq_true, if_false, Option.bind_some]
    have hsz := size_list s
    have key := Go.Ab.all_loop s.data.toList ChOK (step := i_isName_L1 s) ?_ ?_ 0 0 rfl (by omega)
    · rcases key with ⟨g1, g2⟩ | ⟨g1, g2⟩
      · rw [g1, flb_go]
        have : NameOK s := ⟨h1, fun i c hc => g2 i c (by omega) hc⟩
        simp [this]
      · rw [g1, flb_ret]
        have : ¬ NameOK s := fun hn => g2 fun i c _ hc => hn.2 i c hc
        simp [this]
    · intro i x hx
      have hi := (List.getElem?_eq_some_iff.1 hx).1
      have hg : s.data.toList.getD (i : Int).toNat 0 = x := by rw [Int.toNat_natCast]; exact getD_of hx
      have hc : chk ((0 : Int) ≤ (i : Int) ∧ (i : Int) < (s.size : Int)) = some () := chk_of (by omega)
      have hlt : decide ((i : Int) < (s.size : Int)) = true := by simp; omega
      unfold i_isName_L1
      simp only [hlt, if_true, hc, hg, Option.bind_some, w64_succ (n := i) (by omega)]
      unfold ChOK
      by_cases a1 : (97 : Int) ≤ (x.toNat : Int)
      · by_cases a2 : (x.toNat : Int) ≤ 122
        · left; refine ⟨by simp [a1, a2], .inl ⟨a1, a2⟩⟩
        · right
          refine ⟨?_, by omega⟩
          have b1 : decide ((x.toNat : Int) < 48) = false := by simp; omega
          have b2 : decide ((57 : Int) < (x.toNat : Int)) = true := by simp; omega
          have c1 : ¬ (x.toNat : Int) < 48 := by omega
          have c2 : (57 : Int) < (x.toNat : Int) := by omega
          by_cases hi0 : i = 0
          · simp [a1, a2, hi0]
          · have hi0' : ((i : Int) == 0) = false := by simp; omega
            simp [a1, a2, hi0', c1, c2]
      · by_cases hi0 : i = 0
        · right
          refine ⟨by simp [a1, hi0], by omega⟩
        · have hi0' : ((i : Int) == 0) = false := by simp; omega
          by_cases b1 : (x.toNat : Int) < 48
          · right
            refine ⟨by simp [a1, hi0', b1], by omega⟩
          · by_cases b2 : (57 : Int) < (x.toNat : Int)
            · right
              refine ⟨by simp [a1, hi0', b1, b2], by omega⟩
            · left
              refine ⟨by simp [a1, hi0', b1, b2], .inr ⟨hi0, by omega, by omega⟩⟩
    · unfold i_isName_L1
      rw [hsz]
      simp
  · have : ¬ NameOK s := fun h => h1 h.1
    have e : (if (decide ((s.size : Int) < 1)) = true then some true else some (decide (8 < (s.size : Int)))) = some true := by
      by_cases h2 : s.size < 1
      · have : decide ((s.size : Int) < 1) = true := by simp; omega
        simp [this]
      · have e1 : decide ((s.size : Int) < 1) = false := by simp; omega
        have e2 : decide (8 < (s.size : Int)) = true := by simp; omega
        simp [e1, e2]
    rw [e]
    simp [this]

theorem l2Name_eq (s : ByteArray) : s_l2Name s = some (decide (NameOK s)) := by
  unfold s_l2Name
  rw [l1In_eq]
  simp only [Option.bind_some]
  by_cases h1 : 1 ≤ s.size ∧ s.size ≤ 8
  · have e1 : decide ((1 : Int) ≤ (s.size : Int) ∧ (s.size : Int) ≤ 8) = true := by simp; omega
    have hsz := size_list s
    obtain ⟨x0, hx0⟩ := get_ex (l := s.data.toList) (i := 0) (by omega)
    have hg0 : s.data.toList.getD (0 : Int).toNat 0 = x0 := getD_of hx0
    have hc0 : chk ((0 : Int) ≤ 0 ∧ 0 < (s.size : Int)) = some () := chk_of (by omega)
    simp only [e1, Bool.not_true, Bool.false_eq_true, if_false, hc0, hg0, Option.bind_some]
    by_cases a0 : 97 ≤ (x0.toNat : Int) ∧ (x0.toNat : Int) ≤ 122
    · have b1 : decide ((x0.toNat : Int) < 97) = false := by simp; omega
      have b2 : decide ((122 : Int) < (x0.toNat : Int)) = false := by simp; omega
      simp only [b1, b2, Bool.false_eq_true, if_false, Option.bind_some]
      have key := Go.Ab.all_loop s.data.toList ChOK (step := s_l2Name_L1 s) ?_ ?_ 0 0 rfl (by omega)
      · rcases key with ⟨g1, g2⟩ | ⟨g1, g2⟩
        · rw [g1, flb_go]
          have : NameOK s := ⟨h1, fun i c hc => g2 i c (by omega) hc⟩
          simp [this]
        · rw [g1, flb_ret]
          have : ¬ NameOK s := fun hn => g2 fun i c _ hc => hn.2 i c hc
          simp [this]
      · intro i x hx
        have hi := (List.getElem?_eq_some_iff.1 hx).1
        have hg : s.data.toList.getD (i : Int).toNat 0 = x := by rw [Int.toNat_natCast]; exact getD_of hx
        have hc : chk ((0 : Int) ≤ (i : Int) ∧ (i : Int) < (s.size : Int)) = some () := chk_of (by omega)
        have hlt : decide ((i : Int) < (s.size : Int)) = true := by simp; omega
        have h0 : i = 0 → x = x0 := fun h => by subst h; rw [hx0] at hx; cases hx; rfl
        unfold s_l2Name_L1
        simp only [hlt, if_true, hc, hg, Option.bind_some, w64_succ (n := i) (by omega)]
        unfold ChOK
        by_cases a1 : (x.toNat : Int) < 97
        · have hi0 : i ≠ 0 := fun h => by have := h0 h; subst this; omega
          by_cases c1 : (x.toNat : Int) < 48
          · right; refine ⟨by simp [a1, c1], by omega⟩
          · by_cases c2 : (57 : Int) < (x.toNat : Int)
            · right; refine ⟨by simp [a1, c1, c2], by omega⟩
            · left; refine ⟨by simp [a1, c1, c2], .inr ⟨hi0, by omega, by omega⟩⟩
        · by_cases a2 : (122 : Int) < (x.toNat : Int)
          · right
            have c1 : ¬ (x.toNat : Int) < 48 := by omega
            have c2 : (57 : Int) < (x.toNat : Int) := by omega
            refine ⟨by simp [a1, a2, c1, c2], by omega⟩
          · left; refine ⟨by simp [a1, a2], .inl ⟨by omega, by omega⟩⟩
      · unfold s_l2Name_L1
        rw [hsz]
        simp
    · have : ¬ NameOK s := fun hn => by
        have := hn.2 0 x0 hx0
        unfold ChOK at this
        omega
      have e : (if (decide ((x0.toNat : Int) < 97)) = true then some true else some (decide ((122 : Int) < (x0.toNat : Int)))) = some true := by
        by_cases h2 : (x0.toNat : Int) < 97
        · simp [h2]
        · have : (122 : Int) < (x0.toNat : Int) := by omega
          simp [h2, this]
      rw [e]
      simp [this]
  · have e1 : decide ((1 : Int) ≤ (s.size : Int) ∧ (s.size : Int) ≤ 8) = false := by simp; omega
    have : ¬ NameOK s := fun h => h1 h.1
    simp [e1, this]

/-! Searches -/
theorem index_str_eq (l : List ByteArray) (hl : l.length ≤ 4000000000) (v : ByteArray) : slices_Index_string l v = some (fixI (fun e => v.toList == e.toList) l) := by
  unfold slices_Index_string
  refine find_val l (fun e => v.toList == e.toList) (fun i x hx => ?_) (by unfold slices_Index_string_L1; simp)
  have hi := (List.getElem?_eq_some_iff.1 hx).1
  unfold slices_Index_string_L1
  have hlt : decide ((i : Int) < (l.length : Int)) = true := by simp; omega
  simp only [hlt, if_true, idx_nat, hx, Option.bind_some, w64_succ (n := i) (by omega)]
  split <;> rfl
theorem index_int_eq (l : List Int) (hl : l.length ≤ 4000000000) (v : Int) : slices_Index_int l v = some (fixI (fun e => v == e) l) := by
  unfold slices_Index_int
  refine find_val l (fun e => v == e) (fun i x hx => ?_) (by unfold slices_Index_int_L1; simp)
  have hi := (List.getElem?_eq_some_iff.1 hx).1
  unfold slices_Index_int_L1
  have hlt : decide ((i : Int) < (l.length : Int)) = true := by simp; omega
  simp only [hlt, if_true, idx_nat, hx, Option.bind_some, w64_succ (n := i) (by omega)]
  split <;> rfl
theorem l2Place_eq (x : Line) (hl : x.Stops.length ≤ 4000000000) (v : Int) : s_l2Place x v = some (fixI (fun e => v == e) x.Stops) := by
  have hc : fixI (fun e => v == e) x.Stops = fixI (fun e => e == v) x.Stops := fixI_congr _ fun e => BEq.comm
  rw [hc]
  unfold s_l2Place
  refine find_val x.Stops (fun e => e == v) (fun i y hx => ?_) (by unfold s_l2Place_L1; simp)
  have hi := (List.getElem?_eq_some_iff.1 hx).1
  unfold s_l2Place_L1
  have hlt : decide ((i : Int) < (x.Stops.length : Int)) = true := by simp; omega
  simp only [hlt, if_true, idx_nat, hx, Option.bind_some, w64_succ (n := i) (by omega)]
  split <;> rfl
theorem bl_comm (a b : List UInt8) : (a == b) = (b == a) := BEq.comm
theorem l2Find_eq (l : List ByteArray) (hl : l.length ≤ 4000000000) (v : ByteArray) : s_l2Find l v = some (fixI (fun e => v.toList == e.toList) l) := by
  rw [fixI_congr l (q := fun e => e.toList == v.toList) fun e => bl_comm _ _]
  unfold s_l2Find
  refine find_val l (fun e => e.toList == v.toList) (fun i x hx => ?_) (by unfold s_l2Find_L1; simp)
  have hi := (List.getElem?_eq_some_iff.1 hx).1
  unfold s_l2Find_L1
  have hlt : decide ((i : Int) < (l.length : Int)) = true := by simp; omega
  simp only [hlt, if_true, idx_nat, hx, Option.bind_some, w64_succ (n := i) (by omega)]
  split <;> rfl
theorem l2LineNamed_eq (n : Network) (hl : n.Lines.length ≤ 4000000000) (v : ByteArray) : s_l2LineNamed n v = some (fixI (fun e => v.toList == e.toList) (n.Lines.map (·.Name))) := by
  rw [fixI_map, fixI_congr n.Lines (q := fun e => e.Name.toList == v.toList) fun e => bl_comm _ _]
  unfold s_l2LineNamed
  refine find_val n.Lines (fun e => e.Name.toList == v.toList) (fun i x hx => ?_) (by unfold s_l2LineNamed_L1; simp)
  have hi := (List.getElem?_eq_some_iff.1 hx).1
  unfold s_l2LineNamed_L1
  have hlt : decide ((i : Int) < (n.Lines.length : Int)) = true := by simp; omega
  simp only [hlt, if_true, idx_nat, hx, Option.bind_some, w64_succ (n := i) (by omega)]
  split <;> rfl
def NamesP (l : List ByteArray) : Prop := ∀ (i : Nat) x, l[i]? = some x → NameOK x ∧ fixI (fun e => x.toList == e.toList) l = (i : Int)
def LineP (st : Nat) (x : Line) : Prop := (2 ≤ x.Stops.length ∧ x.Stops.length ≤ 6) ∧ (x.Runs.length : Int) = (x.Stops.length : Int) - 1 ∧
  (∀ (i : Nat) e, x.Stops[i]? = some e → (0 ≤ e ∧ e < (st : Int)) ∧ fixI (fun y => e == y) x.Stops = (i : Int)) ∧ ∀ (i : Nat) r, x.Runs[i]? = some r → 1 ≤ r ∧ r ≤ 60
def Good (n : Network) : Prop := (2 ≤ n.Stops.length ∧ n.Stops.length ≤ 8) ∧ (1 ≤ n.Lines.length ∧ n.Lines.length ≤ 5) ∧ NamesP n.Stops ∧ NamesP (n.Lines.map (·.Name)) ∧ ∀ (i : Nat) x, n.Lines[i]? = some x → LineP n.Stops.length x
noncomputable instance (l : List ByteArray) : Decidable (NamesP l) := Classical.propDecidable _
noncomputable instance (st : Nat) (x : Line) : Decidable (LineP st x) := Classical.propDecidable _
noncomputable instance (n : Network) : Decidable (Good n) := Classical.propDecidable _
/-- No list is too long. -/
def Bd (n : Network) : Prop := n.Stops.length ≤ 1100000 ∧ n.Lines.length ≤ 1100000 ∧ ∀ x ∈ n.Lines, x.Stops.length ≤ 1100000 ∧ x.Runs.length ≤ 1100000

theorem areNames_eq (l : List ByteArray) (hl : l.length ≤ 1100000) : i_areNames l = some (decide (NamesP l)) := by
  unfold i_areNames
  rw [all_val (hd := Classical.propDecidable _) l (fun i x => NameOK x ∧ fixI (fun e => x.toList == e.toList) l = (i : Int)) (fun i x hx => ?_) (by unfold i_areNames_L1; simp)]
  · by_cases h : NamesP l
    · rw [if_pos (show ∀ (i : Nat) x, l[i]? = some x → NameOK x ∧ fixI (fun e => x.toList == e.toList) l = (i : Int) from h)]; simp [h]
    · rw [if_neg (show ¬ ∀ (i : Nat) x, l[i]? = some x → NameOK x ∧ fixI (fun e => x.toList == e.toList) l = (i : Int) from h)]; simp [h]
  · have hi := (List.getElem?_eq_some_iff.1 hx).1
    unfold i_areNames_L1
    have hlt : decide ((i : Int) < (l.length : Int)) = true := by simp; omega
    simp only [hlt, if_true, idx_nat, hx, Option.bind_some, isName_eq, index_str_eq l (by omega), w64_succ (n := i) (by omega)]
    by_cases h1 : NameOK x
    · by_cases h2 : fixI (fun e => x.toList == e.toList) l = (i : Int)
      · left; simp [h1, h2]
      · right; simp [h1, h2]
    · right; simp [h1]

theorem lineNames_eq (n : Network) (hl : n.Lines.length ≤ 1100000) : i_lineNames n = some (n.Lines.map (·.Name)) := by
  unfold i_lineNames
  rw [chk_of (by omega)]
  simp only [Option.bind_some]
  rw [fill_loop (fun x : Line => x.Name) n.Lines _ (by simp) (fun i a x y ha hy hx => ?_) (fun a ha => ?_)]
  · rfl
  · have hi := (List.getElem?_eq_some_iff.1 hx).1
    unfold i_lineNames_L1
    have hlt : decide ((i : Int) < (n.Lines.length : Int)) = true := by simp; omega
    simp only [hlt, if_true, idx_nat, hx, hy, Option.bind_some, w64_succ (n := i) (by omega), Int.toNat_natCast]
  · unfold i_lineNames_L1; simp

theorem isStop_eq (n : Network) (e : Int) : i_isStop n e = some (decide (0 ≤ e ∧ e < (n.Stops.length : Int))) := by
  unfold i_isStop
  by_cases h : 0 ≤ e <;> simp [h]
theorem isLine_eq (n : Network) (e : Int) : i_isLine n e = some (decide (0 ≤ e ∧ e < (n.Lines.length : Int))) := by
  unfold i_isLine
  by_cases h : 0 ≤ e <;> simp [h]

theorem isValidLine_eq (n : Network) (l : Line) (h1 : l.Stops.length ≤ 1100000) (h2 : l.Runs.length ≤ 1100000) : i_isValidLine n l = some (decide (LineP n.Stops.length l)) := by
  unfold i_isValidLine
  rw [within_eq]
  have e0 : w64 ((l.Stops.length : Int) - 1) = (l.Stops.length : Int) - 1 := w64_id (by omega)
  simp only [Option.bind_some, e0]
  by_cases a1 : 2 ≤ l.Stops.length ∧ l.Stops.length ≤ 6
  · have d1 : decide ((2 : Int) ≤ (l.Stops.length : Int) ∧ (l.Stops.length : Int) ≤ 6) = true := by simp; omega
    simp only [d1, Bool.not_true, Bool.false_eq_true, if_false]
    by_cases a2 : (l.Runs.length : Int) = (l.Stops.length : Int) - 1
    · have d2 : ((l.Runs.length : Int) != (l.Stops.length : Int) - 1) = false := by simp [a2]
      simp only [d2, Option.bind_some, Bool.false_eq_true, if_false]
      rw [all_val (hd := Classical.propDecidable _) l.Stops (fun i e => (0 ≤ e ∧ e < (n.Stops.length : Int)) ∧ fixI (fun y => e == y) l.Stops = (i : Int)) (fun i x hx => ?_) (by unfold i_isValidLine_L1; simp)]
      · rw [all_val (hd := Classical.propDecidable _) l.Runs (fun i r => 1 ≤ r ∧ r ≤ 60) (fun i x hx => ?_) (by unfold i_isValidLine_L2; simp)]
        · by_cases b1 : ∀ (i : Nat) e, l.Stops[i]? = some e → (0 ≤ e ∧ e < (n.Stops.length : Int)) ∧ fixI (fun y => e == y) l.Stops = (i : Int)
          · rw [if_pos b1]
            by_cases b2 : ∀ (i : Nat) r, l.Runs[i]? = some r → 1 ≤ r ∧ r ≤ 60
            · rw [if_pos b2]
              have : LineP n.Stops.length l := ⟨a1, a2, b1, b2⟩
              simp [this]
            · rw [if_neg b2]
              have : ¬ LineP n.Stops.length l := fun h => b2 h.2.2.2
              simp [this]
          · rw [if_neg b1]
            have : ¬ LineP n.Stops.length l := fun h => b1 h.2.2.1
            simp [this]
        · have hi := (List.getElem?_eq_some_iff.1 hx).1
          unfold i_isValidLine_L2
          have hlt : decide ((i : Int) < (l.Runs.length : Int)) = true := by simp; omega
          simp only [hlt, if_true, idx_nat, hx, Option.bind_some, within_eq, w64_succ (n := i) (by omega)]
          by_cases b : 1 ≤ x ∧ x ≤ 60
          · left; simp [b]
          · right; simp [b]
      · have hi := (List.getElem?_eq_some_iff.1 hx).1
        unfold i_isValidLine_L1
        have hlt : decide ((i : Int) < (l.Stops.length : Int)) = true := by simp; omega
        simp only [hlt, if_true, idx_nat, hx, Option.bind_some, isStop_eq, index_int_eq l.Stops (by omega), w64_succ (n := i) (by omega)]
        by_cases b1 : 0 ≤ x ∧ x < (n.Stops.length : Int)
        · by_cases b2 : fixI (fun y => x == y) l.Stops = (i : Int)
          · left; simp [b1, b2]
          · right; simp [b1, b2]
        · right; simp [b1]
    · have d2 : ((l.Runs.length : Int) != (l.Stops.length : Int) - 1) = true := by simp [a2]
      have : ¬ LineP n.Stops.length l := fun h => a2 h.2.1
      simp [d2, this]
  · have d1 : decide ((2 : Int) ≤ (l.Stops.length : Int) ∧ (l.Stops.length : Int) ≤ 6) = false := by simp; omega
    have : ¬ LineP n.Stops.length l := fun h => a1 h.1
    simp [d1, this]

theorem l2Line_eq (l : Line) (st : Nat) (hst : st ≤ 1100000) (h1 : l.Stops.length ≤ 1100000) (h2 : l.Runs.length ≤ 1100000) : s_l2Line l (st : Int) = some (decide (NameOK l.Name ∧ LineP st l)) := by
  unfold s_l2Line
  rw [l2Name_eq]
  have e0 : w64 ((l.Stops.length : Int) - 1) = (l.Stops.length : Int) - 1 := w64_id (by omega)
  have e1 : w64 ((st : Int) - 1) = (st : Int) - 1 := w64_id (by omega)
  simp only [Option.bind_some, e0, l1In_eq]
  by_cases a0 : NameOK l.Name
  · simp only [a0, decide_true, Bool.not_true, Bool.false_eq_true, if_false, true_and]
    by_cases a1 : 2 ≤ l.Stops.length ∧ l.Stops.length ≤ 6
    · have d1 : decide ((2 : Int) ≤ (l.Stops.length : Int) ∧ (l.Stops.length : Int) ≤ 6) = true := by simp; omega
      simp only [d1, Bool.not_true, Bool.false_eq_true, if_false]
      by_cases a2 : (l.Runs.length : Int) = (l.Stops.length : Int) - 1
      · have d2 : ((l.Runs.length : Int) != (l.Stops.length : Int) - 1) = false := by simp [a2]
        simp only [d2, Option.bind_some, Bool.false_eq_true, if_false]
        rw [all_val (hd := Classical.propDecidable _) l.Stops (fun i e => (0 ≤ e ∧ e < (st : Int)) ∧ fixI (fun y => e == y) l.Stops = (i : Int)) (fun i x hx => ?_) (by unfold s_l2Line_L1; simp)]
        · rw [all_val (hd := Classical.propDecidable _) l.Runs (fun i r => 1 ≤ r ∧ r ≤ 60) (fun i x hx => ?_) (by unfold s_l2Line_L2; simp)]
          · by_cases b1 : ∀ (i : Nat) e, l.Stops[i]? = some e → (0 ≤ e ∧ e < (st : Int)) ∧ fixI (fun y => e == y) l.Stops = (i : Int)
            · rw [if_pos b1]
              by_cases b2 : ∀ (i : Nat) r, l.Runs[i]? = some r → 1 ≤ r ∧ r ≤ 60
              · rw [if_pos b2]
                have : LineP st l := ⟨a1, a2, b1, b2⟩
                simp [this]
              · rw [if_neg b2]
                have : ¬ LineP st l := fun h => b2 h.2.2.2
                simp [this]
            · rw [if_neg b1]
              have : ¬ LineP st l := fun h => b1 h.2.2.1
              simp [this]
          · have hi := (List.getElem?_eq_some_iff.1 hx).1
            unfold s_l2Line_L2
            have hlt : decide ((i : Int) < (l.Runs.length : Int)) = true := by simp; omega
            simp only [hlt, if_true, idx_nat, hx, Option.bind_some, l1In_eq, w64_succ (n := i) (by omega)]
            by_cases b : 1 ≤ x ∧ x ≤ 60
            · left; simp [b]
            · right; simp [b]
        · have hi := (List.getElem?_eq_some_iff.1 hx).1
          unfold s_l2Line_L1
          have hlt : decide ((i : Int) < (l.Stops.length : Int)) = true := by simp; omega
          simp only [hlt, if_true, idx_nat, hx, Option.bind_some, l1In_eq, e1, l2Place_eq l (by omega), w64_succ (n := i) (by omega)]
          by_cases b1 : 0 ≤ x ∧ x < (st : Int)
          · have d3 : decide (0 ≤ x ∧ x ≤ (st : Int) - 1) = true := by simp; omega
            by_cases b2 : fixI (fun y => x == y) l.Stops = (i : Int)
            · left; simp only [d3]; simp [b1, b2]
            · right; simp only [d3]; simp [b1, b2]
          · have d3 : decide (0 ≤ x ∧ x ≤ (st : Int) - 1) = false := by simp; omega
            right; simp only [d3]; simp [b1]
      · have d2 : ((l.Runs.length : Int) != (l.Stops.length : Int) - 1) = true := by simp [a2]
        have : ¬ LineP st l := fun h => a2 h.2.1
        simp [d2, this]
    · have d1 : decide ((2 : Int) ≤ (l.Stops.length : Int) ∧ (l.Stops.length : Int) ≤ 6) = false := by simp; omega
      have : ¬ LineP st l := fun h => a1 h.1
      simp [d1, this]
  · simp [a0]

theorem valid_eq (n : Network) (h : Bd n) : i_IsValidNetwork n = some (decide (Good n)) := by
  obtain ⟨h1, h2, h3⟩ := h
  unfold i_IsValidNetwork
  simp only [within_eq, Option.bind_some, areNames_eq n.Stops h1, lineNames_eq n h2, areNames_eq (n.Lines.map (·.Name)) (by simpa using h2)]
  by_cases a1 : 2 ≤ n.Stops.length ∧ n.Stops.length ≤ 8
  · have d1 : decide ((2 : Int) ≤ (n.Stops.length : Int) ∧ (n.Stops.length : Int) ≤ 8) = true := by simp; omega
    simp only [d1, Bool.not_true, Bool.false_eq_true, if_false]
    by_cases a2 : 1 ≤ n.Lines.length ∧ n.Lines.length ≤ 5
    · have d2 : decide ((1 : Int) ≤ (n.Lines.length : Int) ∧ (n.Lines.length : Int) ≤ 5) = true := by simp; omega
      simp only [d2, Bool.not_true, Bool.false_eq_true, if_false]
      by_cases a3 : NamesP n.Stops
      · simp only [a3, decide_true, Bool.not_true, Bool.false_eq_true, if_false]
        by_cases a4 : NamesP (n.Lines.map (·.Name))
        · simp only [a4, decide_true, Bool.not_true, Option.bind_some, Bool.false_eq_true, if_false]
          rw [all_val (hd := Classical.propDecidable _) n.Lines (fun i x => LineP n.Stops.length x) (fun i x hx => ?_) (by unfold i_IsValidNetwork_L1; simp)]
          · by_cases b1 : ∀ (i : Nat) x, n.Lines[i]? = some x → LineP n.Stops.length x
            · rw [if_pos b1]
              have : Good n := ⟨a1, a2, a3, a4, b1⟩
              simp [this]
            · rw [if_neg b1]
              have : ¬ Good n := fun h => b1 h.2.2.2.2
              simp [this]
          · have hi := (List.getElem?_eq_some_iff.1 hx).1
            obtain ⟨g1, g2⟩ := h3 x (List.mem_of_getElem? hx)
            unfold i_IsValidNetwork_L1
            have hlt : decide ((i : Int) < (n.Lines.length : Int)) = true := by simp; omega
            simp only [hlt, if_true, idx_nat, hx, Option.bind_some, isValidLine_eq n x g1 g2, w64_succ (n := i) (by omega)]
            by_cases b : LineP n.Stops.length x
            · left; simp [b]
            · right; simp [b]
        · have : ¬ Good n := fun h => a4 h.2.2.2.1
          simp [a4, this]
      · have : ¬ Good n := fun h => a3 h.2.2.1
        simp [a3, this]
    · have d2 : decide ((1 : Int) ≤ (n.Lines.length : Int) ∧ (n.Lines.length : Int) ≤ 5) = false := by simp; omega
      have : ¬ Good n := fun h => a2 h.2.1
      simp [d2, this]
  · have d1 : decide ((2 : Int) ≤ (n.Stops.length : Int) ∧ (n.Stops.length : Int) ≤ 8) = false := by simp; omega
    have : ¬ Good n := fun h => a1 h.1
    simp [d1, this]

theorem good_eq (n : Network) (h : Bd n) : s_l2Good n = some (decide (Good n)) := by
  obtain ⟨h1, h2, h3⟩ := h
  unfold s_l2Good
  simp only [l1In_eq, Option.bind_some]
  by_cases a1 : 2 ≤ n.Stops.length ∧ n.Stops.length ≤ 8
  · have d1 : decide ((2 : Int) ≤ (n.Stops.length : Int) ∧ (n.Stops.length : Int) ≤ 8) = true := by simp; omega
    simp only [d1, Bool.not_true, Bool.false_eq_true, if_false]
    by_cases a2 : 1 ≤ n.Lines.length ∧ n.Lines.length ≤ 5
    · have d2 : decide ((1 : Int) ≤ (n.Lines.length : Int) ∧ (n.Lines.length : Int) ≤ 5) = true := by simp; omega
      simp only [d2, Bool.not_true, Option.bind_some, Bool.false_eq_true, if_false]
      rw [all_val (hd := Classical.propDecidable _) n.Stops (fun i x => NameOK x ∧ fixI (fun e => x.toList == e.toList) n.Stops = (i : Int)) (fun i x hx => ?_) (by unfold s_l2Good_L1; simp)]
      · rw [all_val (hd := Classical.propDecidable _) n.Lines (fun i x => (NameOK x.Name ∧ LineP n.Stops.length x) ∧ fixI (fun e => x.Name.toList == e.toList) (n.Lines.map (·.Name)) = (i : Int)) (fun i x hx => ?_) (by unfold s_l2Good_L2; simp)]
        · by_cases b1 : NamesP n.Stops
          · rw [if_pos (show ∀ (i : Nat) x, n.Stops[i]? = some x → NameOK x ∧ fixI (fun e => x.toList == e.toList) n.Stops = (i : Int) from b1)]
            by_cases b2 : ∀ (i : Nat) x, n.Lines[i]? = some x → (NameOK x.Name ∧ LineP n.Stops.length x) ∧ fixI (fun e => x.Name.toList == e.toList) (n.Lines.map (·.Name)) = (i : Int)
            · rw [if_pos b2]
              have : Good n := ⟨a1, a2, b1, fun i y hy => by
                rw [List.getElem?_map] at hy
                obtain ⟨x, hx, rfl⟩ := Option.map_eq_some_iff.1 hy
                exact ⟨(b2 i x hx).1.1, (b2 i x hx).2⟩, fun i x hx => (b2 i x hx).1.2⟩
              simp [this]
            · rw [if_neg b2]
              have : ¬ Good n := fun h => b2 fun i x hx => by
                have h4 := h.2.2.2.1 i x.Name (by rw [List.getElem?_map, hx]; rfl)
                exact ⟨⟨h4.1, h.2.2.2.2 i x hx⟩, h4.2⟩
              simp [this]
          · rw [if_neg (show ¬ ∀ (i : Nat) x, n.Stops[i]? = some x → NameOK x ∧ fixI (fun e => x.toList == e.toList) n.Stops = (i : Int) from b1)]
            have : ¬ Good n := fun h => b1 h.2.2.1
            simp [this]
        · have hi := (List.getElem?_eq_some_iff.1 hx).1
          obtain ⟨g1, g2⟩ := h3 x (List.mem_of_getElem? hx)
          unfold s_l2Good_L2
          have hlt : decide ((i : Int) < (n.Lines.length : Int)) = true := by simp; omega
          simp only [hlt, if_true, idx_nat, hx, Option.bind_some, l2Line_eq x n.Stops.length h1 g1 g2, l2LineNamed_eq n (by omega), w64_succ (n := i) (by omega)]
          by_cases b1 : NameOK x.Name ∧ LineP n.Stops.length x
          · by_cases b2 : fixI (fun e => x.Name.toList == e.toList) (n.Lines.map (·.Name)) = (i : Int)
            · left; simp [b1, b2]
            · right; simp [b1, b2]
          · right; simp [b1]
      · have hi := (List.getElem?_eq_some_iff.1 hx).1
        unfold s_l2Good_L1
        have hlt : decide ((i : Int) < (n.Stops.length : Int)) = true := by simp; omega
        simp only [hlt, if_true, idx_nat, hx, Option.bind_some, l2Name_eq, l2Find_eq n.Stops (by omega), w64_succ (n := i) (by omega)]
        by_cases b1 : NameOK x
        · by_cases b2 : fixI (fun e => x.toList == e.toList) n.Stops = (i : Int)
          · left; simp [b1, b2]
          · right; simp [b1, b2]
        · right; simp [b1]
    · have d2 : decide ((1 : Int) ≤ (n.Lines.length : Int) ∧ (n.Lines.length : Int) ≤ 5) = false := by simp; omega
      have : ¬ Good n := fun h => a2 h.2.1
      simp [d2, this]
  · have d1 : decide ((2 : Int) ≤ (n.Stops.length : Int) ∧ (n.Stops.length : Int) ≤ 8) = false := by simp; omega
    have : ¬ Good n := fun h => a1 h.1
    simp [d1, this]
/-! Timetables: when they are valid. -/
def TB (t : Timetable) : Prop := Bd t.Network ∧ t.Trips.length ≤ 1100000
def TripP (n : Network) (x : Trip) : Prop := (1 ≤ x.Id ∧ x.Id ≤ 999) ∧ ∃ l, idx n.Lines x.Line = some l ∧ (0 ≤ x.Start ∧ x.Start ≤ 1799) ∧ 0 ≤ x.Start + l.Runs.sum ∧ x.Start + l.Runs.sum ≤ 1799
def GoodT (t : Timetable) : Prop := Good t.Network ∧ t.Trips.length ≤ 12 ∧ (∀ (i : Nat) x, t.Trips[i]? = some x → TripP t.Network x) ∧ ∀ (i : Nat) a b, t.Trips[i]? = some a → t.Trips[i + 1]? = some b → a.Id < b.Id
noncomputable instance (t : Timetable) : Decidable (GoodT t) := Classical.propDecidable _
noncomputable instance (n : Network) (x : Trip) : Decidable (TripP n x) := Classical.propDecidable _
theorem time_eq (t : Int) : i_IsValidTime t = some (decide (0 ≤ t ∧ t ≤ 1799)) := by
  unfold i_IsValidTime; rw [within_eq]; rfl
theorem l4Time_eq (t : Int) : s_l4Time t = some (decide (0 ≤ t ∧ t ≤ 1799)) := by
  unfold s_l4Time; rw [l1In_eq]; rfl
theorem total_eq (l : List Int) (h1 : l.length ≤ 1000000) (h2 : ∀ x ∈ l, 0 ≤ x ∧ x ≤ 1000000) : i_total l = some l.sum := by
  unfold i_total
  rw [sum_loop (fun x : Int => x) l h1 h2 (fun i s x hx => ?_) (fun s => ?_)]
  · simp
  · have := get_lt hx
    unfold i_total_L1
    simp (disch := omega) only [if_pos, if_neg, decide_eq_true_eq, decide_true, decide_false, Bool.not_true, Bool.not_false, Bool.false_eq_true, Bool.not_eq_true', decide_eq_false_iff_not, if_true, if_false, w64_id, chk_of, idx_nat, Option.bind_some, Option.map_some, Int.toNat_natCast, not_true_eq_false, not_false_eq_true, true_and, and_true, and_self, false_and, and_false, reduceIte, flb_go, flb_ret, beq_self_eq_true, ne_eq, bne_self_eq_false, Int.ofNat_lt.2 this, hx]
  · unfold i_total_L1; simp
theorem l2Run_eq (x : Line) (a b : Nat) (hab : a ≤ b) (hb : b ≤ x.Runs.length) (hl : x.Runs.length ≤ 1100000) (h2 : ∀ r ∈ x.Runs, 0 ≤ r ∧ r ≤ 1000000) : s_l2Run x (a : Int) (b : Int) = some (((x.Runs.take b).drop a).sum) := by
  unfold s_l2Run
  refine Tot.val (.call (P := fun v => v = ((x.Runs.take b).drop a).sum) ?_ fun v h => .ok h)
  refine .iter (fun m s => ∃ k : Nat, s.2 = ((a + k : Nat) : Int) ∧ m + k = b - a ∧ s.1 = (((x.Runs.take b).drop a).take k).sum) (n := b - a) ⟨0, by simp, by omega, by simp⟩ ?_
  rintro m ⟨s, v⟩ ⟨k, hk, hm, hs⟩
  simp only at hk hs
  subst hk
  unfold s_l2Run_L1
  refine .iteP (fun hc => ?_) (fun hc => .dn ?_)
  · obtain ⟨r, hr⟩ := get_ex (l := x.Runs) (i := a + k) (by omega)
    have hr2 : ((x.Runs.take b).drop a)[k]? = some r := by
      rw [List.getElem?_drop, List.getElem?_take_of_lt (by omega)]; exact hr
    have hb1 := h2 r (List.mem_of_getElem? hr)
    have hb2 := sum_bd (l := ((x.Runs.take b).drop a).take k) (M := 1000000) fun y hy => h2 y (List.mem_of_mem_take (List.mem_of_mem_drop (List.mem_of_mem_take hy)))
    have hlen : ((((x.Runs.take b).drop a).take k).length : Int) ≤ 1100000 := by simp; omega
    rw [← hs] at hb2
    refine .eq (by rw [idx_nat]; exact hr) (.nx ⟨m - 1, by omega, k + 1, ?_, by omega, ?_⟩)
    · show w64 (((a + k : Nat) : Int) + 1) = _
      rw [w64_id (by omega)]; omega
    · show w64 (s + r) = _
      rw [w64_id (by omega), sum_take_succ hr2, hs]
  · rw [hs, List.take_of_length_le (by rw [List.length_drop, List.length_take]; omega)]
theorem good_line {n : Network} (h : Good n) {k : Int} {l : Line} (hl : idx n.Lines k = some l) : LineP n.Stops.length l := h.2.2.2.2 _ l (idx_some hl).2.2
theorem line_stop {st : Nat} {l : Line} (h : LineP st l) {j : Nat} {s : Int} (hs : l.Stops[j]? = some s) : 0 ≤ s ∧ s < (st : Int) := (h.2.2.1 j s hs).1
theorem line_runs {st : Nat} {l : Line} (h : LineP st l) : (l.Runs.length + 1 = l.Stops.length ∧ 1 ≤ l.Runs.length ∧ l.Runs.length ≤ 5) ∧ ∀ r ∈ l.Runs, 1 ≤ r ∧ r ≤ 60 := by
  obtain ⟨h1, h2, h3, h4⟩ := h
  refine ⟨by omega, fun r hr => ?_⟩
  obtain ⟨i, hi⟩ := List.getElem?_of_mem hr
  exact h4 i r hi
theorem runs_sum {st : Nat} {l : Line} (h : LineP st l) (k : Nat) : 0 ≤ (l.Runs.take k).sum ∧ (l.Runs.take k).sum ≤ 300 := by
  obtain ⟨⟨h1, h2, h3⟩, h4⟩ := line_runs h
  have := sum_bd (l := l.Runs.take k) (M := 60) fun x hx => by have := h4 x (List.mem_of_mem_take hx); omega
  have hl : ((l.Runs.take k).length : Int) ≤ 5 := by simp; omega
  omega
theorem runs_sum' {st : Nat} {l : Line} (h : LineP st l) : 0 ≤ l.Runs.sum ∧ l.Runs.sum ≤ 300 := by
  have := runs_sum h l.Runs.length
  rwa [List.take_length] at this
theorem endOf_eq {t : Timetable} (hg : Good t.Network) {x : Trip} {l : Line} (hl : idx t.Network.Lines x.Line = some l) (hs : 0 ≤ x.Start ∧ x.Start ≤ 1799) : i_endOf t x = some (x.Start + l.Runs.sum) := by
  have h := good_line hg hl
  obtain ⟨⟨h1, h2, h3⟩, h4⟩ := line_runs h
  have h5 := runs_sum' h
  unfold i_endOf
  rw [hl]
  simp only [Option.bind_some]
  rw [total_eq l.Runs (by omega) (fun x hx => by have := h4 x hx; omega)]
  simp (disch := omega) only [if_pos, if_neg, decide_eq_true_eq, decide_true, decide_false, Bool.not_true, Bool.not_false, Bool.false_eq_true, Bool.not_eq_true', decide_eq_false_iff_not, if_true, if_false, w64_id, chk_of, idx_nat, Option.bind_some, Option.map_some, Int.toNat_natCast, not_true_eq_false, not_false_eq_true, true_and, and_true, and_self, false_and, and_false, reduceIte, flb_go, flb_ret, beq_self_eq_true, ne_eq, bne_self_eq_false]
theorem l5Line_eq {t : Timetable} {i : Nat} {x : Trip} {l : Line} (hx : t.Trips[i]? = some x) (hl : idx t.Network.Lines x.Line = some l) : s_l5Line t (i : Int) = some l := by
  unfold s_l5Line
  simp (disch := omega) only [if_pos, if_neg, decide_eq_true_eq, decide_true, decide_false, Bool.not_true, Bool.not_false, Bool.false_eq_true, Bool.not_eq_true', decide_eq_false_iff_not, if_true, if_false, w64_id, chk_of, idx_nat, Option.bind_some, Option.map_some, Int.toNat_natCast, not_true_eq_false, not_false_eq_true, true_and, and_true, and_self, false_and, and_false, reduceIte, flb_go, flb_ret, beq_self_eq_true, ne_eq, bne_self_eq_false, hx, hl]
theorem l5Stops_eq {t : Timetable} {i : Nat} {x : Trip} {l : Line} (hx : t.Trips[i]? = some x) (hl : idx t.Network.Lines x.Line = some l) : s_l5Stops t (i : Int) = some l.Stops := by
  unfold s_l5Stops
  rw [l5Line_eq hx hl]; rfl
theorem l5At_eq {t : Timetable} (hg : Good t.Network) {i : Nat} {x : Trip} {l : Line} (hx : t.Trips[i]? = some x) (hl : idx t.Network.Lines x.Line = some l) (hs : 0 ≤ x.Start ∧ x.Start ≤ 1799) {k : Nat} (hk : k ≤ l.Runs.length) : s_l5At t (i : Int) (k : Int) = some (x.Start + (l.Runs.take k).sum) := by
  have h := good_line hg hl
  obtain ⟨⟨h1, h2, h3⟩, h4⟩ := line_runs h
  have h5 := runs_sum h k
  have e := l2Run_eq l 0 k (by omega) hk (by omega) (fun x hx => by have := h4 x hx; omega)
  rw [List.drop_zero] at e
  have e' : s_l2Run l 0 (k : Int) = some (l.Runs.take k).sum := e
  unfold s_l5At
  simp (disch := omega) only [if_pos, if_neg, decide_eq_true_eq, decide_true, decide_false, Bool.not_true, Bool.not_false, Bool.false_eq_true, Bool.not_eq_true', decide_eq_false_iff_not, if_true, if_false, w64_id, chk_of, idx_nat, Option.bind_some, Option.map_some, Int.toNat_natCast, not_true_eq_false, not_false_eq_true, true_and, and_true, and_self, false_and, and_false, reduceIte, flb_go, flb_ret, beq_self_eq_true, ne_eq, bne_self_eq_false, hx, l5Line_eq hx hl, e']
theorem l5End_eq {t : Timetable} (hg : Good t.Network) {i : Nat} {x : Trip} {l : Line} (hx : t.Trips[i]? = some x) (hl : idx t.Network.Lines x.Line = some l) (hs : 0 ≤ x.Start ∧ x.Start ≤ 1799) : s_l5End t (i : Int) = some (x.Start + l.Runs.sum) := by
  have h := good_line hg hl
  obtain ⟨⟨h1, h2, h3⟩, h4⟩ := line_runs h
  have e : w64 ((l.Stops.length : Int) - 1) = (l.Runs.length : Int) := by rw [w64_id (by omega)]; omega
  unfold s_l5End
  rw [l5Stops_eq hx hl]
  simp only [Option.bind_some, e, l5At_eq hg hx hl hs (Nat.le_refl _), List.take_length]
def TripsP (t : Timetable) : Prop := (∀ (i : Nat) x, t.Trips[i]? = some x → TripP t.Network x) ∧ ∀ (i : Nat) a b, t.Trips[i]? = some a → t.Trips[i + 1]? = some b → a.Id < b.Id
noncomputable instance (t : Timetable) : Decidable (TripsP t) := Classical.propDecidable _
/-- One trip's check in the program. -/
theorem trip_i {t : Timetable} (hb : TB t) (hg : Good t.Network) (x : Trip) (last : Int) (hlast : 0 ≤ last) : ((if (decide (x.Id ≤ last)) = true then some true else if (decide (999 < x.Id)) = true then some true else (i_isLine t.Network x.Line).bind fun r =>
      if (!r) = true then some true else (i_IsValidTime x.Start).bind fun r1 =>
      if (!r1) = true then some true else (i_endOf t x).bind fun r2 =>
      (i_IsValidTime r2).bind fun r3 =>
      some (!r3))) = some (!decide (last < x.Id ∧ TripP t.Network x)) := by
  by_cases c1 : x.Id ≤ last
  · have : ¬ (last < x.Id ∧ TripP t.Network x) := fun h => by omega
    simp [c1, this]
  · by_cases c2 : 999 < x.Id
    · have : ¬ (last < x.Id ∧ TripP t.Network x) := fun h => by have := h.2.1; omega
      simp [c1, c2, this]
    · simp only [isLine_eq, time_eq, Option.bind_some, c1, c2, decide_false, Bool.false_eq_true, if_false]
      by_cases c3 : 0 ≤ x.Line ∧ x.Line < (t.Network.Lines.length : Int)
      · obtain ⟨l, hl, _⟩ := idx_lt (l := t.Network.Lines) c3.1 c3.2
        by_cases c4 : 0 ≤ x.Start ∧ x.Start ≤ 1799
        · have hT : (last < x.Id ∧ TripP t.Network x) ↔ (0 ≤ x.Start + l.Runs.sum ∧ x.Start + l.Runs.sum ≤ 1799) := by
            constructor
            · rintro ⟨_, _, l', hl', _, h⟩
              rw [hl] at hl'; cases hl'; exact h
            · intro h; exact ⟨by omega, ⟨by omega, by omega⟩, l, hl, c4, h⟩
          simp only [c3, c4, and_self, decide_true, Bool.not_true, Bool.false_eq_true, if_false, endOf_eq hg hl c4, time_eq, Option.bind_some, hT]
        · have : ¬ (last < x.Id ∧ TripP t.Network x) := fun h => by
            obtain ⟨_, _, l', _, h4, _⟩ := h
            exact c4 h4
          simp only [c3, c4, this, and_self, decide_true, decide_false, Bool.not_true, Bool.not_false, Bool.false_eq_true, if_false, if_true]
      · have : ¬ (last < x.Id ∧ TripP t.Network x) := fun h => by
          obtain ⟨_, _, l', hl', _⟩ := h
          have := idx_some hl'
          exact c3 ⟨this.1, this.2.1⟩
        simp only [c3, this, decide_false, Bool.not_false, if_true]
theorem areTrips_eq {t : Timetable} (hb : TB t) (hg : Good t.Network) : i_areTrips t = some (decide (t.Trips.length ≤ 12 ∧ TripsP t)) := by
  unfold i_areTrips
  by_cases h12 : t.Trips.length ≤ 12
  · have d : decide ((12 : Int) < (t.Trips.length : Int)) = false := by simp; omega
    have e : decide (t.Trips.length ≤ 12 ∧ TripsP t) = decide (TripsP t) := by simp [h12]
    rw [d, e]
    simp only [Bool.false_eq_true, if_false]
    refine flb_dec (.iter (fun m a => ∃ i : Nat, a.2 = (i : Int) ∧ m + i = t.Trips.length ∧ 0 ≤ a.1 ∧ (∀ y, 0 < i → t.Trips[i - 1]? = some y → a.1 = y.Id) ∧ (i = 0 → a.1 = 0) ∧ (∀ (j : Nat) x, j < i → t.Trips[j]? = some x → TripP t.Network x) ∧ ∀ (j : Nat) a b, j + 1 < i → t.Trips[j]? = some a → t.Trips[j + 1]? = some b → a.Id < b.Id)
      (n := t.Trips.length) ⟨0, rfl, rfl, by simp, by simp, by simp, fun j x h => by omega, fun j a b h => by omega⟩ ?_)
    rintro m ⟨last, v⟩ ⟨i, hv, hm, h0, h1, h2, h3, h4⟩
    simp only at hv h0 h1 h2
    subst hv
    unfold i_areTrips_L1
    refine .iteP (fun hc => ?_) (fun hc => .dn (.inl ⟨rfl, fun j x hx => h3 j x (by have := get_lt hx; omega) hx, fun j a b ha hb' => h4 j a b (by have := get_lt hb'; omega) ha hb'⟩))
    obtain ⟨x, hx⟩ := get_ex (l := t.Trips) (i := i) (by omega)
    refine .eq (by rw [idx_nat]; exact hx) (.eq (trip_i hb hg x last h0) (.iteN (fun hn => .dn (.inr ⟨rfl, fun hp => hn ⟨?_, hp.1 i x hx⟩⟩)) (fun hp => .nx ⟨m - 1, by omega, i + 1, w64_succ (by omega), by omega, ?_, ?_, by simp, ?_, ?_⟩)))
    · by_cases hi : i = 0
      · rw [h2 hi]; have := (hp.1 i x hx).1; omega
      · obtain ⟨y, hy⟩ := get_ex (l := t.Trips) (i := i - 1) (by omega)
        rw [h1 y (by omega) hy]
        exact hp.2 (i - 1) y x hy (by rw [show i - 1 + 1 = i by omega]; exact hx)
    · show 0 ≤ x.Id
      have := hp.2.1; omega
    · intro y _ hy
      rw [show i + 1 - 1 = i by omega, hx] at hy; cases hy; rfl
    · intro j y hj hy
      by_cases hji : j = i
      · subst hji; rw [hx] at hy; cases hy; exact hp.2
      · exact h3 j y (by omega) hy
    · intro j a b hj ha hb'
      by_cases hji : j + 1 = i
      · subst hji; rw [hx] at hb'; cases hb'
        have := h1 a (by omega) (by simpa using ha)
        omega
      · exact h4 j a b (by omega) ha hb'
  · have d : decide ((12 : Int) < (t.Trips.length : Int)) = true := by simp; omega
    simp [d, h12]
/-- A trip is as it should be, and behind the one before it. -/
def TripQ (t : Timetable) (i : Nat) (x : Trip) : Prop := TripP t.Network x ∧ ∀ y, 0 < i → t.Trips[i - 1]? = some y → y.Id < x.Id
noncomputable instance (t : Timetable) (i : Nat) (x : Trip) : Decidable (TripQ t i x) := Classical.propDecidable _
theorem goodT_iff (t : Timetable) : GoodT t ↔ Good t.Network ∧ t.Trips.length ≤ 12 ∧ TripsP t := Iff.rfl
theorem validT_eq {t : Timetable} (hb : TB t) : i_IsValidTimetable t = some (decide (GoodT t)) := by
  unfold i_IsValidTimetable
  rw [valid_eq _ hb.1]
  by_cases hg : Good t.Network
  · simp only [hg, decide_true, if_true, Option.bind_some, areTrips_eq hb hg, goodT_iff, true_and]
  · have : ¬ GoodT t := fun h => hg h.1
    simp [hg, this]
theorem goodT_eq {t : Timetable} (hb : TB t) : s_l5Good t = some (decide (GoodT t)) := by
  unfold s_l5Good
  rw [good_eq _ hb.1]
  by_cases hg : Good t.Network
  · by_cases h12 : t.Trips.length ≤ 12
    · have d : decide ((12 : Int) < (t.Trips.length : Int)) = false := by simp; omega
      have e : decide (GoodT t) = decide (TripsP t) := by rw [decide_eq_decide, goodT_iff]; simp [hg, h12]
      simp only [hg, decide_true, Bool.not_true, Bool.false_eq_true, if_false, Option.bind_some, d, e]
      refine flb_dec (.iter (fun m a => ∃ i : Nat, a = (i : Int) ∧ m + i = t.Trips.length ∧ (∀ (j : Nat) x, j < i → t.Trips[j]? = some x → TripP t.Network x) ∧ ∀ (j : Nat) a b, j + 1 < i → t.Trips[j]? = some a → t.Trips[j + 1]? = some b → a.Id < b.Id)
        (n := t.Trips.length) ⟨0, rfl, rfl, fun j x h => by omega, fun j a b h => by omega⟩ ?_)
      rintro m v ⟨i, hv, hm, h3, h4⟩
      subst hv
      unfold s_l5Good_L1
      refine .iteP (fun hc => ?_) (fun hc => .dn (.inl ⟨rfl, fun j x hx => h3 j x (by have := get_lt hx; omega) hx, fun j a b ha hb' => h4 j a b (by have := get_lt hb'; omega) ha hb'⟩))
      obtain ⟨x, hx⟩ := get_ex (l := t.Trips) (i := i) (by omega)
      refine .eq (by rw [idx_nat]; exact hx) ?_
      have hll := hg.2.1
      have ew : w64 ((t.Network.Lines.length : Int) - 1) = (t.Network.Lines.length : Int) - 1 := w64_id (by omega)
      have key : ((s_l1In x.Id 1 999).bind fun r6 =>
      (if (!r6) = true then some true else (s_l1In x.Line 0 (w64 ((t.Network.Lines.length : Int) - 1))).bind fun r7 =>
      if (!r7) = true then some true else (s_l4Time x.Start).bind fun r8 =>
      if (!r8) = true then some true else (s_l5End t (i : Int)).bind fun r9 =>
      (s_l4Time r9).bind fun r10 =>
      if (!r10) = true then some true else if (decide (0 < (i : Int))) = true then (idx t.Trips (w64 ((i : Int) - 1))).bind fun e2 =>
      some (decide (x.Id ≤ e2.Id)) else some false)) = some (!decide (TripQ t i x)) := by
        have no : ¬ TripP t.Network x → (!decide (TripQ t i x)) = true := fun h => (by simp [show ¬ TripQ t i x from fun q => h q.1])
        simp only [l1In_eq, l4Time_eq, ew, Option.bind_some]
        by_cases c1 : 1 ≤ x.Id ∧ x.Id ≤ 999
        · by_cases c3 : 0 ≤ x.Line ∧ x.Line ≤ (t.Network.Lines.length : Int) - 1
          · obtain ⟨l, hl, _⟩ := idx_lt (l := t.Network.Lines) c3.1 (by omega)
            by_cases c4 : 0 ≤ x.Start ∧ x.Start ≤ 1799
            · simp only [c1, c3, c4, and_self, decide_true, Bool.not_true, Bool.false_eq_true, if_false, l5End_eq hg hx hl c4, l4Time_eq, Option.bind_some]
              by_cases c5 : 0 ≤ x.Start + l.Runs.sum ∧ x.Start + l.Runs.sum ≤ 1799
              · have hT : TripP t.Network x := ⟨c1, l, hl, c4, c5⟩
                simp only [c5, and_self, decide_true, Bool.not_true, Bool.false_eq_true, if_false, ]
                by_cases c6 : 0 < i
                · obtain ⟨y, hy⟩ := get_ex (l := t.Trips) (i := i - 1) (by omega)
                  have e1 : w64 ((i : Int) - 1) = ((i - 1 : Nat) : Int) := by rw [w64_id (by omega)]; omega
                  have c6' : (0 : Int) < (i : Int) := by omega
                  simp only [c6', decide_true, if_true, e1, idx_nat, hy, Option.bind_some, Option.some.injEq]
                  by_cases c7 : x.Id ≤ y.Id
                  · have : ¬ TripQ t i x := fun h => by have := h.2 y c6 hy; omega
                    simp only [c7, decide_true, this, decide_false, Bool.not_false]
                  · have : TripQ t i x := ⟨hT, fun z _ hz => by rw [hy] at hz; cases hz; omega⟩
                    simp only [c7, decide_false, this, decide_true, Bool.not_true]
                · have c6' : ¬ (0 : Int) < (i : Int) := by omega
                  have : TripQ t i x := ⟨hT, fun z h0 _ => absurd h0 c6⟩
                  simp only [c6', decide_false, Bool.false_eq_true, if_false, this, decide_true, Bool.not_true]
              · rw [no (fun hT => by
                  obtain ⟨_, l', hl', _, h⟩ := hT
                  rw [hl] at hl'; cases hl'; exact c5 h)]
                simp only [c5, decide_false, Bool.not_false, if_true]
            · rw [no (fun hT => by obtain ⟨_, l', _, h, _⟩ := hT; exact c4 h)]
              simp only [c1, c3, c4, and_self, decide_true, decide_false, Bool.not_true, Bool.not_false, Bool.false_eq_true, if_false, if_true]
          · rw [no (fun hT => by
              obtain ⟨_, l', hl', _⟩ := hT
              have := idx_some hl'
              exact c3 ⟨this.1, by omega⟩)]
            simp only [c1, c3, and_self, decide_true, decide_false, Bool.not_true, Bool.not_false, Bool.false_eq_true, if_false, if_true]
        · rw [no (fun hT => c1 hT.1)]
          simp only [c1, decide_false, Bool.not_false, if_true]
      rw [bind_assoc', key]
      refine .iteN (fun hn => .dn (.inr ⟨rfl, fun hp => hn ⟨hp.1 i x hx, fun y hi hy => hp.2 (i - 1) y x hy (by rw [show i - 1 + 1 = i by omega]; exact hx)⟩⟩)) (fun hp => .nx ⟨m - 1, by omega, i + 1, w64_succ (by omega), by omega, ?_, ?_⟩)
      · intro j y hj hy
        by_cases hji : j = i
        · subst hji; rw [hx] at hy; cases hy; exact hp.1
        · exact h3 j y (by omega) hy
      · intro j a b hj ha hb'
        by_cases hji : j + 1 = i
        · subst hji; rw [hx] at hb'; cases hb'
          exact hp.2 a (by omega) (by simpa using ha)
        · exact h4 j a b (by omega) ha hb'
    · have d : decide ((12 : Int) < (t.Trips.length : Int)) = true := by simp; omega
      have : ¬ GoodT t := fun h => h12 h.2.1
      simp [hg, d, this]
  · have : ¬ GoodT t := fun h => hg h.1
    simp [hg, this]
/-! Items of other law texts, picked (pick.py). -/
def wch (x : UInt8) : Prop := (97 ≤ x.toNat ∧ x.toNat ≤ 122) ∨ (48 ≤ x.toNat ∧ x.toNat ≤ 57)
instance (x : UInt8) : Decidable (wch x) := by unfold wch; infer_instance
def clk (n : Nat) : List UInt8 := [UInt8.ofNat (48 + n / 60 / 10), UInt8.ofNat (48 + n / 60 % 10), 58, UInt8.ofNat (48 + n % 60 / 10), UInt8.ofNat (48 + n % 60 % 10)]
theorem lTwo_ok {n : Int} (h0 : 0 ≤ n) (h1 : n < 100) : s_l4Two n = some (str [UInt8.ofNat (48 + (n / 10).toNat), UInt8.ofNat (48 + (n % 10).toNat)]) := by
  have em : n.tmod 10 = n % 10 := Int.tmod_eq_emod_of_nonneg h0
  have ew : w64 (n.tdiv 10) = n / 10 := by rw [Int.tdiv_eq_ediv_of_nonneg h0, w64_id (by omega)]
  have c10 : chk ((10 : Int) ≠ 0) = some () := chk_of (by decide)
  have ca : ∀ x : Int, 0 ≤ x → x < 10 → chk ((0 : Int) ≤ x ∧ (x : Int) ≤ w64 (x + 1) ∧ w64 (x + 1) ≤ ((str [48, 49, 50, 51, 52, 53, 54, 55, 56, 57]).size : Int)) = some () := fun x hx hy => chk_of (by rw [w64_id (by omega)]; exact ⟨hx, by omega, by show x + 1 ≤ 10; omega⟩)
  unfold s_l4Two
  simp only [c10, Option.bind_some, ew, em]
  rw [ca _ (by omega) (by omega), Option.bind_some, ca _ (by omega) (by omega), Option.bind_some, dig_ext (by omega) (by omega), dig_ext (by omega) (by omega), str_app]
  rfl
theorem clk_parts {n : Int} (h0 : 0 ≤ n) (h1 : n < 3600) : str [UInt8.ofNat (48 + (n / 60 / 10).toNat), UInt8.ofNat (48 + (n / 60 % 10).toNat)] ++ str [58] ++ str [UInt8.ofNat (48 + (n % 60 / 10).toNat), UInt8.ofNat (48 + (n % 60 % 10).toNat)] = str (clk n.toNat) := by
  rw [str_app, str_app]
  unfold clk
  have e1 : (n / 60 / 10).toNat = n.toNat / 60 / 10 := by omega
  have e2 : (n / 60 % 10).toNat = n.toNat / 60 % 10 := by omega
  have e3 : (n % 60 / 10).toNat = n.toNat % 60 / 10 := by omega
  have e4 : (n % 60 % 10).toNat = n.toNat % 60 % 10 := by omega
  rw [e1, e2, e3, e4]
  rfl
theorem lText_ok {n : Int} (h0 : 0 ≤ n) (h1 : n < 3600) : s_l4Text n = some (str (clk n.toNat)) := by
  have em : n.tmod 60 = n % 60 := Int.tmod_eq_emod_of_nonneg h0
  have ew : w64 (n.tdiv 60) = n / 60 := by rw [Int.tdiv_eq_ediv_of_nonneg h0, w64_id (by omega)]
  have c60 : chk ((60 : Int) ≠ 0) = some () := chk_of (by decide)
  unfold s_l4Text
  simp only [c60, Option.bind_some, ew, em]
  rw [lTwo_ok (by omega) (by omega), Option.bind_some, chk_of (by rw [str_s, str_s]; simp), Option.bind_some, lTwo_ok (by omega) (by omega), Option.bind_some, chk_of (by rw [str_app, str_s, str_s]; simp), Option.bind_some, clk_parts h0 h1]
theorem mk8 {n : Nat} (h : n < 256) : mkU8 (IntKind.u8.wrap (n : Int)) = UInt8.ofNat n := by
  unfold mkU8
  rw [IntKind.wrap_u8]
  congr 1; omega
theorem iTwo_ok {n : Int} (h0 : 0 ≤ n) (h1 : n < 100) : i_clockText_1 n = some (str [UInt8.ofNat (48 + (n / 10).toNat), UInt8.ofNat (48 + (n % 10).toNat)]) := by
  have em : w64 (48 + n.tmod 10) = ((48 + (n % 10).toNat : Nat) : Int) := by rw [Int.tmod_eq_emod_of_nonneg h0, w64_id (by omega)]; omega
  have ew : w64 (48 + w64 (n.tdiv 10)) = ((48 + (n / 10).toNat : Nat) : Int) := by rw [Int.tdiv_eq_ediv_of_nonneg h0, w64_id (x := n / 10) (by omega), w64_id (by omega)]; omega
  have c10 : chk ((10 : Int) ≠ 0) = some () := chk_of (by decide)
  unfold i_clockText_1
  simp only [c10, Option.bind_some]
  rw [ew, em, mk8 (by omega), mk8 (by omega)]
  rfl
theorem iText_ok {n : Int} (h0 : 0 ≤ n) (h1 : n < 3600) : i_clockText n = some (str (clk n.toNat)) := by
  have em : n.tmod 60 = n % 60 := Int.tmod_eq_emod_of_nonneg h0
  have ew : w64 (n.tdiv 60) = n / 60 := by rw [Int.tdiv_eq_ediv_of_nonneg h0, w64_id (by omega)]
  have c60 : chk ((60 : Int) ≠ 0) = some () := chk_of (by decide)
  unfold i_clockText
  simp only [c60, Option.bind_some, ew, em]
  rw [iTwo_ok (by omega) (by omega), Option.bind_some, chk_of (by rw [str_s, str_s]; simp), Option.bind_some, iTwo_ok (by omega) (by omega), Option.bind_some, chk_of (by rw [str_app, str_s, str_s]; simp), Option.bind_some, clk_parts h0 h1]
theorem five {w : List UInt8} (h : w.length = 5) : ∃ a b c d e, w = [a, b, c, d, e] := by
  match w, h with
  | [a, b, c, d, e], _ => exact ⟨a, b, c, d, e, rfl⟩
theorem time24_eq (t : Int) : s_l4Time t = some (decide (0 ≤ t ∧ t ≤ 1799)) := by
  unfold s_l4Time
  rw [lin_eq]; rfl
theorem itime24_eq (t : Int) : i_IsValidTime t = some (decide (0 ≤ t ∧ t ≤ 1799)) := by
  unfold i_IsValidTime
  rw [within_eq]; rfl
theorem clk_len (n : Nat) : (clk n).length = 5 := rfl
def TmOK (t : Int) : Prop := 0 ≤ t ∧ t ≤ 1799
instance (t : Int) : Decidable (TmOK t) := by unfold TmOK; infer_instance
def NmL (l : List UInt8) : Prop := (∀ x ∈ l, wch x) ∧ l.length ≤ 8
theorem nm_of {s : ByteArray} (h : NameOK s) : NmL s.data.toList := by
  refine ⟨fun x hx => ?_, ?_⟩
  · obtain ⟨i, hi⟩ := List.mem_iff_getElem?.1 hx
    have := h.2 i x hi
    unfold ChOK at this
    unfold wch
    omega
  · have h2 := h.1.2
    rw [← bsize] at h2
    exact h2
theorem nm_no {l : List UInt8} (h : NmL l) {c : UInt8} (hc : ¬ wch c) : c ∉ l := fun hm => hc (h.1 c hm)
theorem beq_e (x : ByteArray) : (x.toList == (str []).toList) = decide (x = str []) := by
  have h := beq_str x.data.toList []
  rw [← str_of x] at h
  rw [h]
  congr 1
  apply propext
  constructor
  · intro h2; rw [str_of x, h2]
  · intro h2; rw [h2]; rfl
theorem clk_no {c : UInt8} (n : Nat) (hn : n ≤ 1799) (hc : c.toNat < 48) : c ∉ clk n := by
  intro h
  unfold clk at h
  simp only [List.mem_cons, List.not_mem_nil, or_false] at h
  rcases h with h | h | h | h | h
  · have h2 := congrArg UInt8.toNat h; rw [UInt8.toNat_ofNat'] at h2; omega
  · have h2 := congrArg UInt8.toNat h; rw [UInt8.toNat_ofNat'] at h2; omega
  · subst h; exact absurd hc (by decide)
  · have h2 := congrArg UInt8.toNat h; rw [UInt8.toNat_ofNat'] at h2; omega
  · have h2 := congrArg UInt8.toNat h; rw [UInt8.toNat_ofNat'] at h2; omega
theorem spl1_len (c : UInt8) : ∀ (l : List UInt8) (w : List UInt8), w ∈ spl1 c l → w.length ≤ l.length
  | [], w, h => by simp [spl1] at h; subst h; simp
  | x :: r, w, h => by
    by_cases hx : x = c
    · rw [spl1, if_pos hx] at h
      rcases List.mem_cons.1 h with rfl | h
      · simp
      · have := spl1_len c r w h; simp; omega
    · obtain ⟨a, t, h1, h2⟩ := spl1_cons (r := r) hx
      rw [h2] at h
      rcases List.mem_cons.1 h with rfl | h
      · have := spl1_len c r a (by rw [h1]; simp); simp; omega
      · have := spl1_len c r w (by rw [h1]; simp [h]); simp; omega
theorem suf_one (w : List UInt8) (c : UInt8) : [c].isSuffixOf (w ++ [c]) = true := List.isSuffixOf_iff_suffix.2 (List.suffix_append w [c])
theorem take_one (w : List UInt8) (c : UInt8) : (w ++ [c]).take ((w ++ [c]).length - [c].length) = w := by simp
instance (x : UInt8) : Decidable (Dig x) := by unfold Dig; infer_instance
def pv (a b d e : UInt8) : Int := (((a.toNat : Int) - 48) * 10 + ((b.toNat : Int) - 48)) * 60 + ((d.toNat : Int) - 48) * 10 + ((e.toNat : Int) - 48)
theorem get_nat {α : Type} {l : List α} {i : Nat} {x : α} (h : l[(i : Int).toNat]? = some x) : l[i]? = some x := by rwa [Int.toNat_natCast] at h
theorem mem_take_succ {α : Type} {P : α → Prop} {l : List α} {i : Nat} {x : α} (hx : l[i]? = some x) (h : ∀ m ∈ l.take i, P m) (hp : P x) : ∀ m ∈ l.take (i + 1), P m := by
  intro m hm
  rw [take_succ hx] at hm
  rcases List.mem_append.1 hm with hm | hm
  · exact h m hm
  · simp at hm; subst hm; exact hp
theorem beq_ba (x y : ByteArray) : (x.toList == y.toList) = decide (x = y) := by
  have h := beq_str x.data.toList y.data.toList
  rw [← str_of x, ← str_of y] at h
  rw [h]
  congr 1
  apply propext
  constructor
  · intro h2; rw [str_of x, h2, ← str_of y]
  · intro h2; rw [h2]
/-! Texts of networks and timetables, no program in sight. -/
/-- One of the first, one of the second, and so on. -/
def inter {α : Type} : List α → List α → List α
  | [], _ => []
  | a :: as', bs => a :: inter bs as'
  termination_by a b => a.length + b.length
theorem inter_nil {α : Type} (b : List α) : inter [] b = [] := by rw [inter]
theorem inter_cons {α : Type} (x : α) (a b : List α) : inter (x :: a) b = x :: inter b a := by rw [inter]
theorem inter_snoc1 {α : Type} (x : α) : ∀ (k : Nat) (a b : List α), a.length = k → b.length = k → inter (a ++ [x]) b = inter a b ++ [x]
  | 0, a, b, ha, hb => by
    have := List.eq_nil_of_length_eq_zero ha
    have := List.eq_nil_of_length_eq_zero hb
    subst a; subst b
    rw [List.nil_append, inter_cons, inter_nil]; rfl
  | k + 1, a :: a', b :: b', ha, hb => by
    have ih := inter_snoc1 x k a' b' (by simpa using ha) (by simpa using hb)
    rw [List.cons_append, inter_cons, inter_cons, ih, inter_cons, inter_cons]; rfl
theorem inter_snoc2 {α : Type} (x : α) (a b : List α) (h : a.length = b.length + 1) : inter a (b ++ [x]) = inter a b ++ [x] := by
  cases a with
  | nil => simp at h
  | cons y a =>
    rw [inter_cons, inter_cons, inter_snoc1 x b.length b a rfl (by simp at h; omega)]; rfl
theorem inter_len {α : Type} : ∀ (k : Nat) (a b : List α), a.length = b.length + 1 → b.length = k → (inter a b).length = a.length + b.length
  | 0, a, b, h, hk => by
    have := List.eq_nil_of_length_eq_zero hk
    subst b
    match a, h with
    | [x], _ => rw [inter_cons, inter_nil]; rfl
  | k + 1, x :: a, y :: b, h, hk => by
    have ih := inter_len k a b (by simpa using h) (by simpa using hk)
    rw [inter_cons, inter_cons]
    simp only [List.length_cons, ih]; omega
theorem inter_mem {α : Type} : ∀ (k : Nat) (a b : List α) (x : α), a.length + b.length = k → x ∈ inter a b → x ∈ a ∨ x ∈ b
  | k, [], b, x, _, h => by rw [inter_nil] at h; cases h
  | 0, y :: a, b, x, hk, h => by simp at hk
  | k + 1, y :: a, b, x, hk, h => by
    rw [inter_cons] at h
    rcases List.mem_cons.1 h with rfl | h
    · exact .inl (by simp)
    · rcases inter_mem k b a x (by simp at hk; omega) h with h | h
      · exact .inr h
      · exact .inl (by simp [h])
/-- The element at a place, of two lists that alternate. -/
theorem inter_get {α : Type} : ∀ (k : Nat) (a b : List α) (j : Nat), a.length = b.length + 1 → b.length = k → (inter a b)[2 * j]? = a[j]? ∧ (inter a b)[2 * j + 1]? = b[j]?
  | 0, a, b, j, h, hk => by
    have := List.eq_nil_of_length_eq_zero hk
    subst b
    match a, h with
    | [x], _ =>
      rw [inter_cons, inter_nil]
      cases j with
      | zero => simp
      | succ j => simp
  | k + 1, x :: a, y :: b, j, h, hk => by
    rw [inter_cons, inter_cons]
    cases j with
    | zero => simp
    | succ j =>
      have ih := inter_get k a b j (by simpa using h) (by simpa using hk)
      rw [show 2 * (j + 1) = 2 * j + 1 + 1 by omega]
      simp only [List.getElem?_cons_succ]
      exact ih
theorem join_flat (c : UInt8) (a : List UInt8) : ∀ ws : List (List UInt8), Lib.join (a :: ws) [c] = a ++ ws.flatMap (c :: ·)
  | [] => by simp [Lib.join, List.intercalate]
  | w :: ws => by
    have ih := join_flat c w ws
    have e : Lib.join (a :: w :: ws) [c] = a ++ c :: Lib.join (w :: ws) [c] := by simp [Lib.join, List.intercalate]
    rw [e, ih]; simp
theorem join_end (c : UInt8) : ∀ ws : List (List UInt8), ws ≠ [] → ws.flatMap (· ++ [c]) = Lib.join ws [c] ++ [c]
  | [w], _ => by simp [Lib.join, List.intercalate]
  | w :: v :: ws, _ => by
    have ih := join_end c (v :: ws) (by simp)
    have e : Lib.join (w :: v :: ws) [c] = w ++ c :: Lib.join (v :: ws) [c] := by simp [Lib.join, List.intercalate]
    rw [List.flatMap_cons, ih, e]; simp
def wStop : List UInt8 := [115, 116, 111, 112]
def wLine : List UInt8 := [108, 105, 110, 101]
def wTrip : List UInt8 := [116, 114, 105, 112]
def nmS (n : Network) (s : Int) : List UInt8 := (n.Stops.getD s.toNat ByteArray.empty).data.toList
def lnW (n : Network) (l : Line) : List (List UInt8) := wLine :: l.Name.data.toList :: inter (l.Stops.map (nmS n)) (l.Runs.map Lib.itoa)
def stW (s : ByteArray) : List (List UInt8) := [wStop, s.data.toList]
def trW (n : Network) (x : Trip) : List (List UInt8) := [wTrip, Lib.itoa x.Id, ((n.Lines.map (·.Name)).getD x.Line.toNat ByteArray.empty).data.toList, clk x.Start.toNat]
def netW (n : Network) : List (List (List UInt8)) := n.Stops.map stW ++ n.Lines.map (lnW n)
def ttW (t : Timetable) : List (List (List UInt8)) := netW t.Network ++ t.Trips.map (trW t.Network)
def ofW (ws : List (List (List UInt8))) : List UInt8 := ws.flatMap fun w => Lib.join w [32] ++ [10]
theorem ofW_app (a b : List (List (List UInt8))) : ofW (a ++ b) = ofW a ++ ofW b := by unfold ofW; rw [List.flatMap_append]
theorem ofW_one (w : List (List UInt8)) : ofW [w] = Lib.join w [32] ++ [10] := by simp [ofW]
theorem ofW_join (ws : List (List (List UInt8))) (h : ws ≠ []) : ofW ws = Lib.join (ws.map fun w => Lib.join w [32]) [10] ++ [10] := by
  rw [← join_end 10 _ (by simpa using h)]
  unfold ofW
  rw [List.flatMap_map]
/-! The words of a valid timetable. -/
def WOK (w : List UInt8) : Prop := 32 ∉ w ∧ 10 ∉ w ∧ w.length ≤ 12
theorem name_wok {s : ByteArray} (h : NameOK s) : WOK s.data.toList := ⟨nm_no (nm_of h) (by decide), nm_no (nm_of h) (by decide), by have := (nm_of h).2; omega⟩
theorem itoa_wok {n : Int} (h0 : 0 ≤ n) (h1 : n < 1000000) : WOK (Lib.itoa n) := by
  rw [itoa_n h0]
  exact ⟨num_no (by decide) _, num_no (by decide) _, by have := num_len (n := n.toNat) (by omega); omega⟩
theorem clk_wok {a : Int} (h : TmOK a) : WOK (clk a.toNat) := ⟨clk_no _ (by have := h.2; omega) (by decide), clk_no _ (by have := h.2; omega) (by decide), by rw [clk_len]; omega⟩
theorem join_no {c : UInt8} (hc : c ≠ 32) : ∀ {ws : List (List UInt8)}, (∀ w ∈ ws, c ∉ w) → c ∉ Lib.join ws [32]
  | [], _ => by simp [Lib.join, List.intercalate]
  | w :: ws, h => by
    rw [join_flat]
    simp only [List.mem_append, List.mem_flatMap, List.mem_cons, not_or, not_exists, not_and]
    exact ⟨h w (by simp), fun x hx => ⟨hc, h x (by simp [hx])⟩⟩
theorem join_le {k : Nat} : ∀ {ws : List (List UInt8)}, (∀ w ∈ ws, w.length ≤ k) → (Lib.join ws [32]).length ≤ (k + 1) * ws.length
  | [], _ => by simp [Lib.join, List.intercalate]
  | [w], h => by
    have := h w (by simp)
    simp [Lib.join, List.intercalate]; omega
  | w :: v :: ws, h => by
    have ih := join_le (k := k) (ws := v :: ws) (fun x hx => h x (by simp [hx]))
    have := h w (by simp)
    have e : Lib.join (w :: v :: ws) [32] = w ++ 32 :: Lib.join (v :: ws) [32] := by simp [Lib.join, List.intercalate]
    rw [e, List.length_append, List.length_cons]
    simp only [List.length_cons] at ih ⊢
    have e2 : (k + 1) * (ws.length + 1 + 1) = (k + 1) * (ws.length + 1) + (k + 1) := by rw [Nat.mul_succ]
    omega
theorem split_w {ws : List (List UInt8)} (h0 : ws ≠ []) (h : ∀ w ∈ ws, WOK w) : spl1 32 (Lib.join ws [32]) = ws := spl1_join h0 fun w hw => (h w hw).1
theorem getD_at {α : Type} {l : List α} {i : Int} {x d : α} (h : l[i.toNat]? = some x) : l.getD i.toNat d = x := by rw [List.getD_eq_getElem?_getD, h]; rfl
theorem stop_name {n : Network} (hn : Good n) {s : Int} (h0 : 0 ≤ s) (h1 : s < n.Stops.length) : ∃ x, n.Stops[s.toNat]? = some x ∧ nmS n s = x.data.toList ∧ NameOK x := by
  obtain ⟨x, hx⟩ := get_ex (l := n.Stops) (i := s.toNat) (by omega)
  exact ⟨x, hx, by unfold nmS; rw [getD_at hx], (hn.2.2.1 _ x hx).1⟩
theorem stW_wok {n : Network} (hn : Good n) {s : ByteArray} (hs : s ∈ n.Stops) : ∀ w ∈ stW s, WOK w := by
  obtain ⟨i, hi⟩ := List.mem_iff_getElem?.1 hs
  have h1 := name_wok (hn.2.2.1 i s hi).1
  have h2 : WOK wStop := by unfold WOK wStop; decide
  intro w hw
  simp only [stW, List.mem_cons, List.not_mem_nil, or_false] at hw
  rcases hw with rfl | rfl
  · exact h2
  · exact h1
theorem line_at {n : Network} (hn : Good n) {i : Nat} {l : Line} (hl : n.Lines[i]? = some l) : LineP n.Stops.length l ∧ NameOK l.Name := by
  refine ⟨hn.2.2.2.2 i l hl, ?_⟩
  exact (hn.2.2.2.1 i l.Name (by rw [List.getElem?_map, hl]; rfl)).1
theorem lnW_wok {n : Network} (hn : Good n) {i : Nat} {l : Line} (hl : n.Lines[i]? = some l) : ∀ w ∈ lnW n l, WOK w := by
  obtain ⟨hp, hname⟩ := line_at hn hl
  intro w hw
  simp only [lnW, List.mem_cons] at hw
  rcases hw with rfl | rfl | hw
  · unfold WOK wLine; decide
  · exact name_wok hname
  · rcases inter_mem _ _ _ w rfl hw with hw | hw
    · obtain ⟨s, hs, rfl⟩ := List.mem_map.1 hw
      obtain ⟨j, hj⟩ := List.mem_iff_getElem?.1 hs
      have hr := (hp.2.2.1 j s hj).1
      obtain ⟨x, _, h2, h3⟩ := stop_name hn hr.1 hr.2
      rw [h2]
      exact name_wok h3
    · obtain ⟨r, hr, rfl⟩ := List.mem_map.1 hw
      obtain ⟨j, hj⟩ := List.mem_iff_getElem?.1 hr
      have := hp.2.2.2 j r hj
      exact itoa_wok (by omega) (by omega)
theorem lnW_len {n : Network} {l : Line} (hp : LineP n.Stops.length l) : (lnW n l).length = 2 * l.Stops.length + 1 ∧ l.Stops.length = l.Runs.length + 1 := by
  have h2 := hp.2.1
  have h3 := hp.1.1
  have e : l.Stops.length = l.Runs.length + 1 := by omega
  unfold lnW
  rw [List.length_cons, List.length_cons, inter_len l.Runs.length _ _ (by simp; omega) (by simp)]
  simp only [List.length_map]
  omega
theorem trip_at {t : Timetable} (h : GoodT t) {i : Nat} {x : Trip} (hx : t.Trips[i]? = some x) : ∃ l, t.Network.Lines[x.Line.toNat]? = some l ∧ (0 ≤ x.Line ∧ x.Line < t.Network.Lines.length) ∧ (1 ≤ x.Id ∧ x.Id ≤ 999) ∧ TmOK x.Start ∧ (t.Network.Lines.map (·.Name)).getD x.Line.toNat ByteArray.empty = l.Name := by
  obtain ⟨hid, l, hl, hs, _⟩ := h.2.2.1 i x hx
  obtain ⟨h0, h1, h2⟩ := idx_some hl
  refine ⟨l, h2, ⟨h0, h1⟩, hid, hs, ?_⟩
  exact getD_at (by rw [List.getElem?_map, h2]; rfl)
theorem trW_wok {t : Timetable} (h : GoodT t) {i : Nat} {x : Trip} (hx : t.Trips[i]? = some x) : ∀ w ∈ trW t.Network x, WOK w := by
  obtain ⟨l, hl, hr, hid, hs, hnm⟩ := trip_at h hx
  intro w hw
  simp only [trW, List.mem_cons, List.not_mem_nil, or_false] at hw
  rcases hw with rfl | rfl | rfl | rfl
  · unfold WOK wTrip; decide
  · exact itoa_wok (by omega) (by omega)
  · rw [hnm]; exact name_wok (line_at h.1 hl).2
  · exact clk_wok hs
theorem ttW_wok {t : Timetable} (h : GoodT t) : ∀ ws ∈ ttW t, ws ≠ [] ∧ ∀ w ∈ ws, WOK w := by
  intro ws hws
  unfold ttW netW at hws
  rcases List.mem_append.1 hws with hws | hws
  · rcases List.mem_append.1 hws with hws | hws
    · obtain ⟨s, hs, rfl⟩ := List.mem_map.1 hws
      exact ⟨by simp [stW], stW_wok h.1 hs⟩
    · obtain ⟨l, hl, rfl⟩ := List.mem_map.1 hws
      obtain ⟨i, hi⟩ := List.mem_iff_getElem?.1 hl
      exact ⟨by simp [lnW], lnW_wok h.1 hi⟩
  · obtain ⟨x, hx, rfl⟩ := List.mem_map.1 hws
    obtain ⟨i, hi⟩ := List.mem_iff_getElem?.1 hx
    exact ⟨by simp [trW], trW_wok h hi⟩
theorem ofW_le {k : Nat} : ∀ {ws : List (List (List UInt8))}, (∀ w ∈ ws, (Lib.join w [32]).length ≤ k) → (ofW ws).length ≤ (k + 1) * ws.length
  | [], _ => by simp [ofW]
  | w :: ws, h => by
    have ih := ofW_le (k := k) (ws := ws) (fun x hx => h x (by simp [hx]))
    have := h w (by simp)
    have e : ofW (w :: ws) = (Lib.join w [32] ++ [10]) ++ ofW ws := rfl
    have e2 : (k + 1) * (w :: ws).length = (k + 1) * ws.length + (k + 1) := by rw [List.length_cons, Nat.mul_succ]
    rw [e, e2, List.length_append, List.length_append]
    simp only [List.length_cons, List.length_nil]
    omega
theorem txt_len {t : Timetable} (h : GoodT t) : (ofW (ttW t)).length ≤ 3000 := by
  have hw := ttW_wok h
  have e : ofW (ttW t) = ofW (t.Network.Stops.map stW) ++ ofW (t.Network.Lines.map (lnW t.Network)) ++ ofW (t.Trips.map (trW t.Network)) := by
    unfold ttW netW
    rw [ofW_app, ofW_app]
  have l1 := ofW_le (k := 26) (ws := t.Network.Stops.map stW) (fun ws hws => by
    have h1 := (hw ws (by unfold ttW netW; simp only [List.mem_append]; exact .inl (.inl hws))).2
    have h2 := join_le (k := 12) (ws := ws) (fun w hw => (h1 w hw).2.2)
    obtain ⟨s, _, rfl⟩ := List.mem_map.1 hws
    exact h2)
  have l2 := ofW_le (k := 169) (ws := t.Network.Lines.map (lnW t.Network)) (fun ws hws => by
    have h1 := (hw ws (by unfold ttW netW; simp only [List.mem_append]; exact .inl (.inr hws))).2
    have h2 := join_le (k := 12) (ws := ws) (fun w hw => (h1 w hw).2.2)
    obtain ⟨l, hl, rfl⟩ := List.mem_map.1 hws
    obtain ⟨i, hi⟩ := List.mem_iff_getElem?.1 hl
    have hp := (line_at h.1 hi).1
    have := (lnW_len hp).1
    have := hp.1.2
    omega)
  have l3 := ofW_le (k := 52) (ws := t.Trips.map (trW t.Network)) (fun ws hws => by
    have h1 := (hw ws (by unfold ttW; simp only [List.mem_append]; exact .inr hws)).2
    have h2 := join_le (k := 12) (ws := ws) (fun w hw => (h1 w hw).2.2)
    obtain ⟨s, _, rfl⟩ := List.mem_map.1 hws
    exact h2)
  have b1 := h.1.1.2
  have b2 := h.1.2.1.2
  have b3 := h.2.1
  simp only [List.length_map] at l1 l2 l3
  rw [e, List.length_append, List.length_append]
  omega
/-! Networks and timetables are written. -/
theorem ws_ok (l s : List UInt8) (h : l.length + s.length ≤ 4294967296) : strings_Builder_WriteString l (str s) = some ((s.length : Int), .mk, l ++ s) := by
  unfold strings_Builder_WriteString writeStringM
  rw [if_pos (by rw [str_s]; exact h), str_s, str_l]
theorem wb_ok (l : List UInt8) (c : UInt8) (h : l.length + 1 ≤ 4294967296) : strings_Builder_WriteByte l c = some (.mk, l ++ [c]) := by
  unfold strings_Builder_WriteByte writeByteM
  rw [if_pos h]
theorem inter_le {α : Type} : ∀ (k : Nat) (a b : List α), a.length + b.length = k → (inter a b).length ≤ k
  | k, [], b, h => by rw [inter_nil]; simp
  | 0, x :: a, b, h => by simp at h
  | k + 1, x :: a, b, h => by
    have ih := inter_le k b a (by simp at h; omega)
    rw [inter_cons]
    simp only [List.length_cons]; omega
theorem flat_le {k : Nat} : ∀ {ws : List (List UInt8)}, (∀ w ∈ ws, w.length ≤ k) → (ws.flatMap (32 :: ·)).length ≤ (k + 1) * ws.length
  | [], _ => by simp
  | w :: ws, h => by
    have ih := flat_le (k := k) (ws := ws) (fun x hx => h x (by simp [hx]))
    have := h w (by simp)
    have e2 : (k + 1) * (w :: ws).length = (k + 1) * ws.length + (k + 1) := by rw [List.length_cons, Nat.mul_succ]
    rw [e2, List.flatMap_cons, List.length_append, List.length_cons]
    omega
theorem ofW_take {α : Type} (f : α → List (List UInt8)) (l : List α) (i : Nat) : (ofW ((l.take i).map f)).length ≤ (ofW (l.map f)).length := by
  have e : l.map f = (l.take i).map f ++ (l.drop i).map f := by rw [← List.map_append, List.take_append_drop]
  rw [e, ofW_app, List.length_append]
  omega
theorem ofW_snoc {α : Type} (f : α → List (List UInt8)) {l : List α} {i : Nat} {x : α} (h : l[i]? = some x) : ofW ((l.take (i + 1)).map f) = ofW ((l.take i).map f) ++ (Lib.join (f x) [32] ++ [10]) := by
  rw [take_succ h, List.map_append, ofW_app, List.map_cons, List.map_nil, ofW_one]
theorem good0 {n : Network} (h : Good n) : GoodT ⟨n, []⟩ := ⟨h, by simp, fun i x hx => by simp at hx, fun i a b hx => by simp at hx⟩
theorem net_len {n : Network} (h : Good n) : (ofW (n.Stops.map stW)).length + (ofW (n.Lines.map (lnW n))).length ≤ 3000 := by
  have := txt_len (good0 h)
  unfold ttW netW at this
  simp only [List.map_nil, List.append_nil] at this
  rw [ofW_app, List.length_append] at this
  exact this
theorem stop_txt (s : ByteArray) : Lib.join (stW s) [32] ++ [10] = [115, 116, 111, 112, 32] ++ s.data.toList ++ [10] := by
  unfold stW
  rw [join_flat]
  simp [wStop]
theorem fnet1 {n : Network} (hn : Good n) : Tot (iter (i_formatNetwork_L1 n) ((0 : Int), ([] : List UInt8))) fun r => r = ofW (n.Stops.map stW) := by
  have hb := net_len hn
  refine Tot.iter (fun k (s : Int × List UInt8) => ∃ i : Nat, k + i = n.Stops.length ∧ s = ((i : Int), ofW ((n.Stops.take i).map stW))) (n := n.Stops.length) ⟨0, by omega, rfl⟩ ?_
  rintro k _ ⟨i, hk, rfl⟩
  have hl := ofW_take stW n.Stops i
  have h8 := hn.1.2
  unfold i_formatNetwork_L1
  dsimp only
  refine .iteP (fun hlt => .idx (by omega) hlt fun e he => ?_) (fun hge => .dn (by rw [show i = n.Stops.length by omega, List.take_length]))
  have he := get_nat he
  have hnm := (hn.2.2.1 i e he).1
  have hsz := hnm.1.2
  have hsz2 : e.data.toList.length ≤ 8 := hsz
  obtain ⟨s, rfl⟩ : ∃ s, e = str s := ⟨e.data.toList, str_of e⟩
  rw [str_l] at hsz2
  refine .chk (by rw [str_s, str_s]; simp only [List.length_append, List.length_cons, List.length_nil]; omega) (.chk (by rw [str_app, str_s, str_s]; simp only [List.length_append, List.length_cons, List.length_nil]; omega) ?_)
  rw [str_app, str_app, ws_ok _ _ (by simp only [List.length_append, List.length_cons, List.length_nil]; omega)]
  refine .nx ⟨k - 1, by omega, i + 1, by omega, ?_⟩
  rw [w64_succ (by omega), ofW_snoc stW he, stop_txt, str_l]
/-- The words of a line that are written so far. -/
def Tj (n : Network) (l : Line) (j : Nat) : List (List UInt8) := inter ((l.Stops.map (nmS n)).take j) ((l.Runs.map Lib.itoa).take (j - 1))
theorem tj_len (n : Network) (l : Line) (j : Nat) : (Tj n l j).length ≤ 2 * j := by
  have := inter_le _ ((l.Stops.map (nmS n)).take j) ((l.Runs.map Lib.itoa).take (j - 1)) rfl
  simp only [List.length_take, List.length_map] at this
  unfold Tj
  omega
theorem tj_wok {n : Network} (hn : Good n) {k : Nat} {l : Line} (hl : n.Lines[k]? = some l) (j : Nat) : ∀ w ∈ Tj n l j, w.length ≤ 12 := by
  intro w hw
  have hW := lnW_wok hn hl
  obtain ⟨hp, _⟩ := line_at hn hl
  rcases inter_mem _ _ _ w rfl hw with h | h
  · have h := List.mem_of_mem_take h
    obtain ⟨s, hs, rfl⟩ := List.mem_map.1 h
    obtain ⟨q, hq⟩ := List.mem_iff_getElem?.1 hs
    have hr := (hp.2.2.1 q s hq).1
    obtain ⟨x, _, h2, h3⟩ := stop_name hn hr.1 hr.2
    rw [h2]
    exact (name_wok h3).2.2
  · have h := List.mem_of_mem_take h
    obtain ⟨r, hr, rfl⟩ := List.mem_map.1 h
    obtain ⟨q, hq⟩ := List.mem_iff_getElem?.1 hr
    have := hp.2.2.2 q r hq
    exact (itoa_wok (by omega) (by omega)).2.2
theorem tj_0 {n : Network} {l : Line} {s : Int} (hs : l.Stops[0]? = some s) : Tj n l 1 = [nmS n s] := by
  unfold Tj
  have : (l.Stops.map (nmS n)).take 1 = [nmS n s] := by
    rw [take_succ (x := nmS n s) (by rw [List.getElem?_map, hs]; rfl)]; simp
  rw [this, show (1 : Nat) - 1 = 0 from rfl, List.take_zero, inter_cons, inter_nil]
theorem tj_s {n : Network} {l : Line} {j : Nat} {s r : Int} (hlen : l.Stops.length = l.Runs.length + 1) (hs : l.Stops[j + 1]? = some s) (hr : l.Runs[j]? = some r) : Tj n l (j + 2) = Tj n l (j + 1) ++ [Lib.itoa r] ++ [nmS n s] := by
  unfold Tj
  have hj := get_lt hs
  have hj2 := get_lt hr
  have e1 : (l.Stops.map (nmS n)).take (j + 2) = (l.Stops.map (nmS n)).take (j + 1) ++ [nmS n s] := take_succ (by rw [List.getElem?_map, hs]; rfl)
  have e2 : (l.Runs.map Lib.itoa).take (j + 1) = (l.Runs.map Lib.itoa).take j ++ [Lib.itoa r] := take_succ (by rw [List.getElem?_map, hr]; rfl)
  rw [show j + 2 - 1 = j + 1 by omega, show j + 1 - 1 = j by omega, e1, inter_snoc1 (nmS n s) (j + 1) _ _ (by simp; omega) (by simp; omega), e2, inter_snoc2 _ _ _ (by simp; omega)]
theorem fnet2 {n : Network} (hn : Good n) {k : Nat} {l : Line} (hl : n.Lines[k]? = some l) (B : List UInt8) (hB : B.length ≤ 10000) : Tot (iter (i_formatNetwork_L2 n l) ((0 : Int), B)) fun r => r = B ++ (inter (l.Stops.map (nmS n)) (l.Runs.map Lib.itoa)).flatMap (32 :: ·) := by
  obtain ⟨hp, _⟩ := line_at hn hl
  have hlen := (lnW_len hp).2
  have h6 := hp.1.2
  refine Tot.iter (fun q (s : Int × List UInt8) => ∃ i : Nat, q + i = l.Stops.length ∧ s = ((i : Int), B ++ (Tj n l i).flatMap (32 :: ·))) (n := l.Stops.length) ⟨0, by omega, by simp [Tj, inter_nil]⟩ ?_
  rintro q _ ⟨i, hq, rfl⟩
  have hfl := flat_le (k := 12) (tj_wok hn hl i)
  have htl := tj_len n l i
  unfold i_formatNetwork_L2
  dsimp only
  refine .iteP (fun hlt => .idx (by omega) hlt fun e2 he2 => ?_) (fun hge => .dn ?_)
  · have he2 := get_nat he2
    have hr2 := (hp.2.2.1 i e2 he2).1
    obtain ⟨x, hx, hnm, hxn⟩ := stop_name hn hr2.1 hr2.2
    have hxl : x.data.toList.length ≤ 8 := hxn.1.2
    have hix : idx n.Stops e2 = some x := by
      have := ixs hx
      rwa [show ((e2.toNat : Nat) : Int) = e2 by omega] at this
    have key : ∀ (T : List UInt8), T.length ≤ 20000 → Tot ((idx n.Stops e2).bind fun e4 =>
        (chk ((str [32]).size + e4.size ≤ 4294967296)).bind fun u4 =>
        (strings_Builder_WriteString T ((str [32]) ++ e4)).bind fun r4 =>
        some (Lp.nx ((w64 ((i : Int) + 1)), r4.2.2) : Lp (Int × List UInt8) (List UInt8))) fun r => r = .nx (((i + 1 : Nat) : Int), T ++ 32 :: nmS n e2) := by
      intro T hT
      obtain ⟨s, rfl⟩ : ∃ s, x = str s := ⟨x.data.toList, str_of x⟩
      rw [str_l] at hxl hnm
      refine .eq hix (.chk (by rw [str_s, str_s]; simp only [List.length_append, List.length_cons, List.length_nil]; omega) ?_)
      rw [str_app, ws_ok _ _ (by simp only [List.length_append, List.length_cons, List.length_nil]; omega), w64_succ (by omega), hnm]
      exact .ok rfl
    have nxt : ∀ T, T = B ++ (Tj n l (i + 1)).flatMap (32 :: ·) → ∀ r, r = (Lp.nx (((i + 1 : Nat) : Int), T) : Lp (Int × List UInt8) (List UInt8)) → (∀ a', r = .nx a' → ∃ k', k' < q ∧ ∃ j : Nat, k' + j = l.Stops.length ∧ a' = ((j : Int), B ++ (Tj n l j).flatMap (32 :: ·))) ∧ ∀ b, r = .dn b → b = B ++ (inter (l.Stops.map (nmS n)) (l.Runs.map Lib.itoa)).flatMap (32 :: ·) := by
      intro T hT r hr
      subst hr
      exact ⟨fun a' e => by cases e; exact ⟨q - 1, by omega, i + 1, by omega, by rw [hT]⟩, fun b e => by cases e⟩
    by_cases h0 : i = 0
    · subst h0
      have hz : Tj n l 0 = [] := by simp [Tj, inter_nil]
      rw [if_neg (by simp), Option.bind_some]
      refine (key _ (by rw [hz]; simp; omega)).mono (nxt _ ?_)
      rw [hz, tj_0 he2]
      simp
    · obtain ⟨j, rfl⟩ : ∃ j, i = j + 1 := ⟨i - 1, by omega⟩
      obtain ⟨r, hr⟩ := get_ex (l := l.Runs) (i := j) (by omega)
      have hrr := hp.2.2.2 j r hr
      have hil := (itoa_wok (n := r) (by omega) (by omega)).2.2
      have ew : w64 (((j + 1 : Nat) : Int) - 1) = (j : Int) := w64_pred (by omega)
      rw [if_pos (by simp only [decide_eq_true_eq]; omega), ew, ixs hr, Option.bind_some, iItoa (by omega) (by omega), Option.bind_some, chk_of (by rw [str_s, str_s]; simp only [List.length_append, List.length_cons, List.length_nil]; omega), Option.bind_some, str_app, ws_ok _ _ (by simp only [List.length_append, List.length_cons, List.length_nil]; omega), Option.bind_some, Option.bind_some]
      refine (key _ (by simp only [List.length_append, List.length_cons, List.length_nil]; omega)).mono (nxt _ ?_)
      rw [tj_s hlen he2 hr]
      simp
  · have : i = l.Stops.length := by omega
    subst this
    unfold Tj
    rw [List.take_of_length_le (by simp), List.take_of_length_le (by simp; omega)]
theorem line_txt (n : Network) (l : Line) : Lib.join (lnW n l) [32] ++ [10] = [108, 105, 110, 101, 32] ++ l.Name.data.toList ++ (inter (l.Stops.map (nmS n)) (l.Runs.map Lib.itoa)).flatMap (32 :: ·) ++ [10] := by
  unfold lnW
  rw [join_flat, List.flatMap_cons]
  simp [wLine]
theorem fnet_ok {n : Network} (hn : Good n) : i_formatNetwork n = some (str (ofW (netW n))) := by
  have hb := net_len hn
  have h5 := hn.2.1.2
  unfold i_formatNetwork
  refine Tot.val (.call (fnet1 hn) fun v2 h2 => .call (P := fun r => r = ofW (netW n)) ?_ fun r hr => ?_)
  · subst h2
    refine Tot.iter (fun k (s : Int × List UInt8) => ∃ i : Nat, k + i = n.Lines.length ∧ s = ((i : Int), ofW (n.Stops.map stW) ++ ofW ((n.Lines.take i).map (lnW n)))) (n := n.Lines.length) ⟨0, by omega, by simp [ofW]⟩ ?_
    rintro k _ ⟨i, hk, rfl⟩
    have hl := ofW_take (lnW n) n.Lines i
    unfold i_formatNetwork_L3
    dsimp only
    refine .iteP (fun hlt => .idx (by omega) hlt fun e he => ?_) (fun hge => .dn (by rw [show i = n.Lines.length by omega, List.take_length]; unfold netW; rw [ofW_app]))
    have he := get_nat he
    obtain ⟨hp, hname⟩ := line_at hn he
    have hnl : e.Name.data.toList.length ≤ 8 := hname.1.2
    have hen : e.Name = str e.Name.data.toList := str_of _
    rw [hen, str_s, str_s, chk_of (by simp only [List.length_append, List.length_cons, List.length_nil]; omega), Option.bind_some, str_app, ws_ok _ _ (by simp only [List.length_append, List.length_cons, List.length_nil]; omega), Option.bind_some]
    refine .call (fnet2 hn he _ (by simp only [List.length_append, List.length_cons, List.length_nil]; omega)) fun v8 h8 => ?_
    have hfl := flat_le (k := 12) (tj_wok hn he e.Stops.length)
    have htl := tj_len n e e.Stops.length
    have h6 := hp.1.2
    have hlen := (lnW_len hp).2
    have hTj : Tj n e e.Stops.length = inter (e.Stops.map (nmS n)) (e.Runs.map Lib.itoa) := by
      unfold Tj
      rw [List.take_of_length_le (by simp), List.take_of_length_le (by simp; omega)]
    rw [hTj] at hfl htl
    have h10 : mkU8 10 = 10 := by decide
    subst h8
    rw [h10, wb_ok _ _ (by simp only [List.length_append, List.length_cons, List.length_nil]; omega), Option.bind_some]
    refine .nx ⟨k - 1, by omega, i + 1, by omega, ?_⟩
    rw [w64_succ (by omega), ofW_snoc (lnW n) he, line_txt]
    simp
  · subst hr
    exact .ok rfl
theorem trip_txt {t : Timetable} (h : GoodT t) {i : Nat} {x : Trip} (hx : t.Trips[i]? = some x) : ∃ l, idx t.Network.Lines x.Line = some l ∧ l.Name.data.toList.length ≤ 8 ∧ Lib.join (trW t.Network x) [32] ++ [10] = [116, 114, 105, 112, 32] ++ Lib.itoa x.Id ++ [32] ++ l.Name.data.toList ++ [32] ++ clk x.Start.toNat ++ [10] := by
  obtain ⟨l, hl, hr, _, _, hnm⟩ := trip_at h hx
  refine ⟨l, ?_, (line_at h.1 hl).2.1.2, ?_⟩
  · have := ixs hl
    rwa [show ((x.Line.toNat : Nat) : Int) = x.Line by omega] at this
  · unfold trW
    rw [hnm, join_flat]
    simp [wTrip]
theorem ftt_ok {t : Timetable} (h : GoodT t) : i_formatTimetable t = some (str (ofW (ttW t))) := by
  have htx := txt_len h
  have e0 : ofW (ttW t) = ofW (netW t.Network) ++ ofW (t.Trips.map (trW t.Network)) := by unfold ttW; rw [ofW_app]
  rw [e0, List.length_append] at htx
  have h12 := h.2.1
  unfold i_formatTimetable
  rw [fnet_ok h.1, Option.bind_some, ws_ok _ _ (by simp only [List.length_append, List.length_cons, List.length_nil]; omega), Option.bind_some]
  refine Tot.val (.call (P := fun r => r = ofW (ttW t)) ?_ fun r hr => ?_)
  · refine Tot.iter (fun k (s : Int × List UInt8) => ∃ i : Nat, k + i = t.Trips.length ∧ s = ((i : Int), ofW (netW t.Network) ++ ofW ((t.Trips.take i).map (trW t.Network)))) (n := t.Trips.length) ⟨0, by omega, by simp [ofW]⟩ ?_
    rintro k _ ⟨i, hk, rfl⟩
    have hl := ofW_take (trW t.Network) t.Trips i
    unfold i_formatTimetable_L1
    dsimp only
    refine .iteP (fun hlt => .idx (by omega) hlt fun x hx => ?_) (fun hge => .dn (by rw [show i = t.Trips.length by omega, List.take_length, e0]))
    have hx := get_nat hx
    obtain ⟨l, hil, hll, htxt⟩ := trip_txt h hx
    obtain ⟨_, _, _, hid, hst, _⟩ := trip_at h hx
    have hidl := (itoa_wok (n := x.Id) (by omega) (by omega)).2.2
    have hcl := clk_len x.Start.toNat
    have hlo : i_lineOf t x = some l := by unfold i_lineOf; rw [hil]; rfl
    have hen : l.Name = str l.Name.data.toList := str_of _
    rw [iItoa (by omega) (by omega), Option.bind_some, hlo, iText_ok hst.1 (by have := hst.2; omega)]
    simp only [Option.bind_some]
    rw [hen]
    simp only [str_app]
    simp (disch := (simp only [str_s, List.length_append, List.length_cons, List.length_nil]; omega)) only [chk_of, Option.bind_some]
    rw [ws_ok _ _ (by simp only [List.length_append, List.length_cons, List.length_nil]; omega), Option.bind_some]
    refine .nx ⟨k - 1, by omega, i + 1, by omega, ?_⟩
    rw [w64_succ (by omega), ofW_snoc (trW t.Network) hx, htxt]
    simp
  · subst hr
    exact .ok rfl
/-! The reference's text of a network and of a timetable. -/
def Sj (n : Network) (l : Line) (j : Nat) : List (List UInt8) := inter ((l.Stops.map (nmS n)).take j) ((l.Runs.map Lib.itoa).take j)
theorem sj_len (n : Network) (l : Line) (j : Nat) : (Sj n l j).length ≤ 2 * j := by
  have := inter_le _ ((l.Stops.map (nmS n)).take j) ((l.Runs.map Lib.itoa).take j) rfl
  simp only [List.length_take, List.length_map] at this
  unfold Sj
  omega
theorem sj_wok {n : Network} (hn : Good n) {k : Nat} {l : Line} (hl : n.Lines[k]? = some l) (j : Nat) : ∀ w ∈ Sj n l j, w.length ≤ 12 := by
  intro w hw
  obtain ⟨hp, _⟩ := line_at hn hl
  rcases inter_mem _ _ _ w rfl hw with h | h
  · have h := List.mem_of_mem_take h
    obtain ⟨s, hs, rfl⟩ := List.mem_map.1 h
    obtain ⟨q, hq⟩ := List.mem_iff_getElem?.1 hs
    have hr := (hp.2.2.1 q s hq).1
    obtain ⟨x, _, h2, h3⟩ := stop_name hn hr.1 hr.2
    rw [h2]
    exact (name_wok h3).2.2
  · have h := List.mem_of_mem_take h
    obtain ⟨r, hr, rfl⟩ := List.mem_map.1 h
    obtain ⟨q, hq⟩ := List.mem_iff_getElem?.1 hr
    have := hp.2.2.2 q r hq
    exact (itoa_wok (by omega) (by omega)).2.2
theorem sj_s {n : Network} {l : Line} {j : Nat} {s r : Int} (hlen : l.Stops.length = l.Runs.length + 1) (hs : l.Stops[j]? = some s) (hr : l.Runs[j]? = some r) : Sj n l (j + 1) = Sj n l j ++ [nmS n s] ++ [Lib.itoa r] := by
  unfold Sj
  have hj := get_lt hs
  have hj2 := get_lt hr
  have e1 : (l.Stops.map (nmS n)).take (j + 1) = (l.Stops.map (nmS n)).take j ++ [nmS n s] := take_succ (by rw [List.getElem?_map, hs]; rfl)
  have e2 : (l.Runs.map Lib.itoa).take (j + 1) = (l.Runs.map Lib.itoa).take j ++ [Lib.itoa r] := take_succ (by rw [List.getElem?_map, hr]; rfl)
  rw [e1, e2, inter_snoc2 _ _ _ (by simp; omega), inter_snoc1 (nmS n s) j _ _ (by simp; omega) (by simp; omega)]
theorem sj_z {n : Network} {l : Line} {j : Nat} {s : Int} (hs : l.Stops[j]? = some s) (hr : l.Runs.length = j) : Sj n l (j + 1) = Sj n l j ++ [nmS n s] := by
  unfold Sj
  have hj := get_lt hs
  have e1 : (l.Stops.map (nmS n)).take (j + 1) = (l.Stops.map (nmS n)).take j ++ [nmS n s] := take_succ (by rw [List.getElem?_map, hs]; rfl)
  have e2 : (l.Runs.map Lib.itoa).take (j + 1) = (l.Runs.map Lib.itoa).take j := by rw [List.take_of_length_le (by simp; omega), List.take_of_length_le (by simp; omega)]
  rw [e1, e2, inter_snoc1 (nmS n s) j _ _ (by simp; omega) (by simp; omega)]
theorem snet2 {n : Network} (hn : Good n) {k : Nat} {l : Line} (hl : n.Lines[k]? = some l) (B : List UInt8) (hB : B.length ≤ 10000) : Tot (iter (s_l6Network_L2 n l) (str B, (0 : Int))) fun r => r = str (B ++ (inter (l.Stops.map (nmS n)) (l.Runs.map Lib.itoa)).flatMap (32 :: ·)) := by
  obtain ⟨hp, _⟩ := line_at hn hl
  have hlen := (lnW_len hp).2
  have h6 := hp.1.2
  refine Tot.iter (fun q (s : ByteArray × Int) => ∃ i : Nat, q + i = l.Stops.length ∧ s = (str (B ++ (Sj n l i).flatMap (32 :: ·)), (i : Int))) (n := l.Stops.length) ⟨0, by omega, by simp [Sj, inter_nil]⟩ ?_
  rintro q _ ⟨i, hq, rfl⟩
  have hfl := flat_le (k := 12) (sj_wok hn hl i)
  have htl := sj_len n l i
  unfold s_l6Network_L2
  dsimp only
  refine .iteP (fun hlt => ?_) (fun hge => .dn ?_)
  · obtain ⟨e4, he4⟩ := get_ex (l := l.Stops) (i := i) (by omega)
    have hr2 := (hp.2.2.1 i e4 he4).1
    obtain ⟨x, hx, hnm, hxn⟩ := stop_name hn hr2.1 hr2.2
    have hxl : x.data.toList.length ≤ 8 := hxn.1.2
    have hix : idx n.Stops e4 = some x := by
      have := ixs hx
      rwa [show ((e4.toNat : Nat) : Int) = e4 by omega] at this
    obtain ⟨s, rfl⟩ : ∃ s, x = str s := ⟨x.data.toList, str_of x⟩
    rw [str_l] at hxl hnm
    rw [chk_of (by rw [str_s, str_s]; simp only [List.length_append, List.length_cons, List.length_nil]; omega), Option.bind_some, ixs he4, Option.bind_some, hix, Option.bind_some, str_app, chk_of (by rw [str_s, str_s]; simp only [List.length_append, List.length_cons, List.length_nil]; omega), Option.bind_some, str_app]
    by_cases hR : i < l.Runs.length
    · obtain ⟨r, hr⟩ := get_ex (l := l.Runs) (i := i) hR
      have hrr := hp.2.2.2 i r hr
      have hil := (itoa_wok (n := r) (by omega) (by omega)).2.2
      rw [if_pos (by simp only [decide_eq_true_eq]; omega), chk_of (by rw [str_s, str_s]; simp only [List.length_append, List.length_cons, List.length_nil]; omega), Option.bind_some, ixs hr, Option.bind_some, lnumI (by omega) (by omega), Option.bind_some, str_app, chk_of (by rw [str_s, str_s]; simp only [List.length_append, List.length_cons, List.length_nil]; omega), Option.bind_some, str_app, Option.bind_some]
      refine .nx ⟨q - 1, by omega, i + 1, by omega, ?_⟩
      rw [w64_succ (by omega), sj_s hlen he4 hr, hnm]
      simp
    · rw [if_neg (by simp only [decide_eq_true_eq]; omega), Option.bind_some]
      refine .nx ⟨q - 1, by omega, i + 1, by omega, ?_⟩
      rw [w64_succ (by omega), sj_z he4 (by omega), hnm]
      simp
  · have : i = l.Stops.length := by omega
    subst this
    unfold Sj
    rw [List.take_of_length_le (by simp), List.take_of_length_le (by simp; omega)]
theorem snet_ok {n : Network} (hn : Good n) : s_l6Network n = some (str (ofW (netW n))) := by
  have hb := net_len hn
  have h5 := hn.2.1.2
  have h8 := hn.1.2
  unfold s_l6Network
  refine Tot.val (.call (P := fun r => r = str (ofW (n.Stops.map stW))) ?_ fun v2 h2 => .call (P := fun r => r = str (ofW (netW n))) ?_ fun r hr => ?_)
  · refine Tot.iter (fun k (s : ByteArray × Int) => ∃ i : Nat, k + i = n.Stops.length ∧ s = (str (ofW ((n.Stops.take i).map stW)), (i : Int))) (n := n.Stops.length) ⟨0, by omega, by simp [ofW]⟩ ?_
    rintro k _ ⟨i, hk, rfl⟩
    have hl := ofW_take stW n.Stops i
    unfold s_l6Network_L1
    dsimp only
    refine .iteP (fun hlt => ?_) (fun hge => .dn (by rw [show i = n.Stops.length by omega, List.take_length]))
    obtain ⟨e, he⟩ := get_ex (l := n.Stops) (i := i) (by omega)
    have hnm := (hn.2.2.1 i e he).1
    have hsz : e.data.toList.length ≤ 8 := hnm.1.2
    obtain ⟨s, rfl⟩ : ∃ s, e = str s := ⟨e.data.toList, str_of e⟩
    rw [str_l] at hsz
    rw [chk_of (by rw [str_s, str_s]; simp only [List.length_append, List.length_cons, List.length_nil]; omega), Option.bind_some, ixs he, Option.bind_some, str_app, chk_of (by rw [str_s, str_s]; simp only [List.length_append, List.length_cons, List.length_nil]; omega), Option.bind_some, str_app, chk_of (by rw [str_s, str_s]; simp only [List.length_append, List.length_cons, List.length_nil]; omega), Option.bind_some, str_app]
    refine .nx ⟨k - 1, by omega, i + 1, by omega, ?_⟩
    rw [w64_succ (by omega), ofW_snoc stW he, stop_txt, str_l]
    simp
  · subst h2
    refine Tot.iter (fun k (s : ByteArray × Int) => ∃ i : Nat, k + i = n.Lines.length ∧ s = (str (ofW (n.Stops.map stW) ++ ofW ((n.Lines.take i).map (lnW n))), (i : Int))) (n := n.Lines.length) ⟨0, by omega, by simp [ofW]⟩ ?_
    rintro k _ ⟨i, hk, rfl⟩
    have hl := ofW_take (lnW n) n.Lines i
    unfold s_l6Network_L3
    dsimp only
    refine .iteP (fun hlt => ?_) (fun hge => .dn (by rw [show i = n.Lines.length by omega, List.take_length]; unfold netW; rw [ofW_app]))
    obtain ⟨e, he⟩ := get_ex (l := n.Lines) (i := i) (by omega)
    obtain ⟨hp, hname⟩ := line_at hn he
    have hnl : e.Name.data.toList.length ≤ 8 := hname.1.2
    have hen : e.Name = str e.Name.data.toList := str_of _
    rw [ixs he, Option.bind_some, hen, chk_of (by rw [str_s, str_s]; simp only [List.length_append, List.length_cons, List.length_nil]; omega), Option.bind_some, str_app, chk_of (by rw [str_s, str_s]; simp only [List.length_append, List.length_cons, List.length_nil]; omega), Option.bind_some, str_app]
    refine .call (snet2 hn he _ (by simp only [List.length_append, List.length_cons, List.length_nil]; omega)) fun v8 h8 => ?_
    have hfl := flat_le (k := 12) (tj_wok hn he e.Stops.length)
    have htl := tj_len n e e.Stops.length
    have h6 := hp.1.2
    have hlen := (lnW_len hp).2
    have hTj : Tj n e e.Stops.length = inter (e.Stops.map (nmS n)) (e.Runs.map Lib.itoa) := by
      unfold Tj
      rw [List.take_of_length_le (by simp), List.take_of_length_le (by simp; omega)]
    rw [hTj] at hfl htl
    subst h8
    rw [chk_of (by rw [str_s, str_s]; simp only [List.length_append, List.length_cons, List.length_nil]; omega), Option.bind_some, str_app]
    refine .nx ⟨k - 1, by omega, i + 1, by omega, ?_⟩
    rw [w64_succ (by omega), ofW_snoc (lnW n) he, line_txt]
    simp
  · subst hr
    exact .ok rfl
theorem stt_ok {t : Timetable} (h : GoodT t) : s_l6Timetable t = some (str (ofW (ttW t))) := by
  have htx := txt_len h
  have e0 : ofW (ttW t) = ofW (netW t.Network) ++ ofW (t.Trips.map (trW t.Network)) := by unfold ttW; rw [ofW_app]
  rw [e0, List.length_append] at htx
  have h12 := h.2.1
  unfold s_l6Timetable
  rw [snet_ok h.1, Option.bind_some]
  refine Tot.val (.call (P := fun r => r = str (ofW (ttW t))) ?_ fun r hr => ?_)
  · refine Tot.iter (fun k (s : ByteArray × Int) => ∃ i : Nat, k + i = t.Trips.length ∧ s = (str (ofW (netW t.Network) ++ ofW ((t.Trips.take i).map (trW t.Network))), (i : Int))) (n := t.Trips.length) ⟨0, by omega, by simp [ofW]⟩ ?_
    rintro k _ ⟨i, hk, rfl⟩
    have hl := ofW_take (trW t.Network) t.Trips i
    unfold s_l6Timetable_L1
    dsimp only
    refine .iteP (fun hlt => ?_) (fun hge => .dn (by rw [show i = t.Trips.length by omega, List.take_length, e0]))
    obtain ⟨x, hx⟩ := get_ex (l := t.Trips) (i := i) (by omega)
    obtain ⟨l, hil, hll, htxt⟩ := trip_txt h hx
    obtain ⟨_, _, _, hid, hst, _⟩ := trip_at h hx
    have hidl := (itoa_wok (n := x.Id) (by omega) (by omega)).2.2
    have hcl := clk_len x.Start.toNat
    have hlo := l5Line_eq hx hil
    have hen : l.Name = str l.Name.data.toList := str_of _
    have hx2 := ixs hx
    rw [chk_of (by rw [str_s, str_s]; simp only [List.length_append, List.length_cons, List.length_nil]; omega), Option.bind_some, hx2, Option.bind_some, lnumI (by omega) (by omega), Option.bind_some, str_app, chk_of (by rw [str_s, str_s]; simp only [List.length_append, List.length_cons, List.length_nil]; omega), Option.bind_some, str_app, chk_of (by rw [str_s, str_s]; simp only [List.length_append, List.length_cons, List.length_nil]; omega), Option.bind_some, str_app, hlo, Option.bind_some, hen, chk_of (by rw [str_s, str_s]; simp only [List.length_append, List.length_cons, List.length_nil]; omega), Option.bind_some, str_app, chk_of (by rw [str_s, str_s]; simp only [List.length_append, List.length_cons, List.length_nil]; omega), Option.bind_some, str_app, Option.bind_some, lText_ok hst.1 (by have := hst.2; omega), Option.bind_some, chk_of (by rw [str_s, str_s]; simp only [List.length_append, List.length_cons, List.length_nil]; omega), Option.bind_some, str_app, chk_of (by rw [str_s, str_s]; simp only [List.length_append, List.length_cons, List.length_nil]; omega), Option.bind_some, str_app]
    refine .nx ⟨k - 1, by omega, i + 1, by omega, ?_⟩
    rw [w64_succ (by omega), ofW_snoc (trW t.Network) hx, htxt]
    simp
  · subst hr
    exact .ok rfl
/-! Log lines. -/
def PlainB (l : List UInt8) : Prop := ∀ b ∈ l, 32 ≤ b.toNat ∧ b.toNat ≤ 126 ∧ b ≠ 35
def cmd (e : LogRecord) : List UInt8 := e.Command.data.toList
def rep (e : LogRecord) : List UInt8 := e.Reply.data.toList
def GoodR (e : LogRecord) : Prop := cmd e ≠ [] ∧ PlainB (cmd e) ∧ (cmd e).length ≤ 160 ∧ 64 ∉ cmd e ∧ PlainB (rep e) ∧ (rep e).length ≤ 200
noncomputable instance (l : List UInt8) : Decidable (PlainB l) := Classical.propDecidable _
noncomputable instance (e : LogRecord) : Decidable (GoodR e) := Classical.propDecidable _
theorem plain_t (x : UInt8) : (32 ≤ x.toNat ∧ x.toNat ≤ 126 ∧ x ≠ 35) ↔ ¬ (¬ ((32 : Int) ≤ (x.toNat : Int) ∧ (x.toNat : Int) ≤ 126) ∨ x = 35) := by
  constructor
  · intro ⟨h1, h2, h3⟩ h
    rcases h with h | h
    · exact h ⟨by omega, by omega⟩
    · exact h3 h
  · intro h
    refine ⟨?_, ?_, fun e => h (.inr e)⟩
    · apply Classical.byContradiction; intro hn; exact h (.inl fun hh => hn (by omega))
    · apply Classical.byContradiction; intro hn; exact h (.inl fun hh => hn (by omega))
theorem u8_35 (x : UInt8) : (((x.toNat : Nat) : Int) == 35) = decide (x = 35) := u8_eq x 35
theorem plain_s (l : List UInt8) (m : Int) (hl : l.length ≤ 9000000) : s_l27Plain (str l) m = some (decide (PlainB l ∧ (l.length : Int) ≤ m)) := by
  unfold s_l27Plain
  have e1 : ∀ (i : Nat) x, l[i]? = some x → s_l27Plain_L1 (str l) (i : Int) = if (32 ≤ x.toNat ∧ x.toNat ≤ 126 ∧ x ≠ 35) then some (.nx (w64 ((i : Int) + 1))) else some (.dn (.ret false)) := by
    intro i x hx
    have hlt := get_lt hx
    have hb := x.toNat_lt
    unfold s_l27Plain_L1
    dsimp only
    rw [str_s, if_pos (by simpa using hlt), chk_of ⟨by omega, by omega⟩, Option.bind_some, str_l, show (i : Int).toNat = i by omega, getD_some hx, w64_id (by omega), lin_eq]
    simp only [Option.bind_some, u8_35]
    by_cases hp : 32 ≤ x.toNat ∧ x.toNat ≤ 126 ∧ x ≠ 35
    · have h1 : ((32 : Int) ≤ (x.toNat : Int) ∧ (x.toNat : Int) ≤ 126) := ⟨by omega, by omega⟩
      rw [if_pos hp]
      simp [h1, hp.2.2]
    · rw [if_neg hp]
      by_cases h1 : ((32 : Int) ≤ (x.toNat : Int) ∧ (x.toNat : Int) ≤ 126)
      · have h2 : x = 35 := Classical.byContradiction fun h2 => hp ⟨by omega, by omega, h2⟩
        simp [h1, h2]
      · simp [h1]
  rw [all_loop l (fun x => 32 ≤ x.toNat ∧ x.toNat ≤ 126 ∧ x ≠ 35) (by omega) false (fun i x hx hp => by rw [e1 i x hx, if_pos hp]) (fun i x hx hp => by rw [e1 i x hx, if_neg hp]) (by unfold s_l27Plain_L1; simp [str_s])]
  rw [str_s]
  by_cases hp : PlainB l
  · have : ∀ x ∈ l, 32 ≤ x.toNat ∧ x.toNat ≤ 126 ∧ x ≠ 35 := hp
    rw [if_pos this]
    simp [flb, hp]
  · have : ¬ ∀ x ∈ l, 32 ≤ x.toNat ∧ x.toNat ≤ 126 ∧ x ≠ 35 := hp
    rw [if_neg this]
    simp [flb, hp]
theorem plain_i (l : List UInt8) (hl : l.length ≤ 9000000) : i_isPrintable (str l) = some (decide (PlainB l)) := by
  unfold i_isPrintable
  have e1 : ∀ (i : Nat) x, l[i]? = some x → i_isPrintable_L1 (str l) (i : Int) = if (32 ≤ x.toNat ∧ x.toNat ≤ 126 ∧ x ≠ 35) then some (.nx (w64 ((i : Int) + 1))) else some (.dn (.ret false)) := by
    intro i x hx
    have hlt := get_lt hx
    have hb := x.toNat_lt
    unfold i_isPrintable_L1
    dsimp only
    rw [str_s, if_pos (by simpa using hlt), chk_of ⟨by omega, by omega⟩, Option.bind_some, str_l, show (i : Int).toNat = i by omega, getD_some hx]
    simp only [Option.bind_some, u8_35]
    by_cases h1 : (x.toNat : Int) < 32
    · have hp : ¬ (32 ≤ x.toNat ∧ x.toNat ≤ 126 ∧ x ≠ 35) := fun h => by omega
      simp [h1, hp]
    · by_cases h2 : (126 : Int) < x.toNat
      · have hp : ¬ (32 ≤ x.toNat ∧ x.toNat ≤ 126 ∧ x ≠ 35) := fun h => by omega
        simp [h1, h2, hp]
      · by_cases h3 : x = 35
        · have hp : ¬ (32 ≤ x.toNat ∧ x.toNat ≤ 126 ∧ x ≠ 35) := fun h => h.2.2 h3
          rw [if_neg hp]
          simp [h1, h2, h3]
        · have hp : (32 ≤ x.toNat ∧ x.toNat ≤ 126 ∧ x ≠ 35) := ⟨by omega, by omega, h3⟩
          rw [if_pos hp]
          simp [h1, h2, h3]
  rw [all_loop l (fun x => 32 ≤ x.toNat ∧ x.toNat ≤ 126 ∧ x ≠ 35) (by omega) false (fun i x hx hp => by rw [e1 i x hx, if_pos hp]) (fun i x hx hp => by rw [e1 i x hx, if_neg hp]) (by unfold i_isPrintable_L1; simp [str_s])]
  by_cases hp : PlainB l
  · have : ∀ x ∈ l, 32 ≤ x.toNat ∧ x.toNat ≤ 126 ∧ x ≠ 35 := hp
    rw [if_pos this]
    simp [flb, hp]
  · have : ¬ ∀ x ∈ l, 32 ≤ x.toNat ∧ x.toNat ≤ 126 ∧ x ≠ 35 := hp
    rw [if_neg this]
    simp [flb, hp]
def RB (e : LogRecord) : Prop := (cmd e).length ≤ 1600000 ∧ (rep e).length ≤ 1600000
theorem cmd_str (e : LogRecord) : e.Command = str (cmd e) := rfl
theorem rep_str (e : LogRecord) : e.Reply = str (rep e) := rfl
theorem good_s (e : LogRecord) (h : RB e) : s_l27Good e = some (decide (GoodR e)) := by
  unfold s_l27Good
  have h1 := h.1; have h2 := h.2
  rw [cmd_str, rep_str, beq_str, plain_s _ _ (by omega), plain_s _ _ (by omega), stands_ok _ _ (by omega)]
  have e64 : mkU8 64 = 64 := rfl
  simp only [Option.bind_some, e64]
  unfold GoodR
  by_cases a1 : cmd e = [] <;> by_cases a2 : PlainB (cmd e) <;> by_cases a3 : (cmd e).length ≤ 160 <;> by_cases a4 : (64 : UInt8) ∈ cmd e <;> by_cases a5 : PlainB (rep e) <;> by_cases a6 : (rep e).length ≤ 200 <;>
    simp [a1, a2, a3, a4, a5, a6, show ((cmd e).length : Int) ≤ 160 ↔ (cmd e).length ≤ 160 by omega, show ((rep e).length : Int) ≤ 200 ↔ (rep e).length ≤ 200 by omega]
theorem valid_i (e : LogRecord) (h : RB e) : i_IsValidRecord e = some (decide (GoodR e)) := by
  unfold i_IsValidRecord i_isCommand
  have h1 := h.1; have h2 := h.2
  rw [cmd_str, rep_str, plain_i _ (by omega), plain_i _ (by omega), contains_ok _ _ (by omega), within_eq, str_s, str_s]
  simp only [Option.bind_some]
  unfold GoodR
  have e0 : ((1 : Int) ≤ ((cmd e).length : Int)) ↔ cmd e ≠ [] := by rw [← List.length_pos_iff]; omega
  by_cases a1 : cmd e = [] <;> by_cases a2 : PlainB (cmd e) <;> by_cases a3 : (cmd e).length ≤ 160 <;> by_cases a4 : (64 : UInt8) ∈ cmd e <;> by_cases a5 : PlainB (rep e) <;> by_cases a6 : (rep e).length ≤ 200 <;>
    simp [e0, a1, a2, a3, a4, a5, a6, show ((cmd e).length : Int) ≤ 160 ↔ (cmd e).length ≤ 160 by omega, show ((rep e).length : Int) ≤ 200 ↔ (rep e).length ≤ 200 by omega]
/-- The sum of a text's bytes. -/
def bodyL (k : Nat) (e : LogRecord) : List UInt8 := num k ++ 32 :: (cmd e ++ 64 :: rep e)
def lineT (k : Nat) (e : LogRecord) : List UInt8 := tail (bodyL k e)
def lineL (k : Nat) (e : LogRecord) : List UInt8 := lineT k e ++ [10]
theorem body_len (k : Nat) (e : LogRecord) (hk : k < 1000000) : (cmd e).length + (rep e).length + 3 ≤ (bodyL k e).length ∧ (bodyL k e).length ≤ (cmd e).length + (rep e).length + 8 := by
  have := num_len hk
  unfold bodyL; simp; omega
theorem line_s {k : Int} (e : LogRecord) (h0 : 0 ≤ k) (hk : k < 1000000) (h : RB e) : s_l27Line k e = some (str (lineL k.toNat e)) := by
  have h1 := h.1; have h2 := h.2
  have hn := num_len (n := k.toNat) (by omega)
  have hbl := body_len k.toNat e (by omega)
  have htl := tail_len (bodyL k.toNat e)
  unfold s_l27Line
  rw [lnum_ok h0 hk, Option.bind_some, cmd_str, rep_str]
  simp only [str_app]
  rw [chk_of (by rw [str_s, str_s]; simp; omega), Option.bind_some, chk_of (by rw [str_s, str_s]; simp; omega), Option.bind_some, chk_of (by rw [str_s, str_s]; simp; omega), Option.bind_some, chk_of (by rw [str_s, str_s]; simp; omega), Option.bind_some]
  have e1 : num k.toNat ++ [32] ++ cmd e ++ [64] ++ rep e = bodyL k.toNat e := by unfold bodyL; simp
  rw [e1, seal_ok _ (by omega), Option.bind_some, chk_of (by rw [str_s, str_s]; simp; omega), Option.bind_some, str_app]
  rfl
theorem body_no35 {k : Nat} {e : LogRecord} (h : GoodR e) : 35 ∉ bodyL k e := by
  unfold bodyL
  simp only [List.mem_append, List.mem_cons, not_or]
  exact ⟨num_no (.inl (by decide)) k, by decide, fun hh => (h.2.1 _ hh).2.2 rfl, by decide, fun hh => (h.2.2.2.2.1 _ hh).2.2 rfl⟩
theorem body_no10 {k : Nat} {e : LogRecord} (h : GoodR e) : 10 ∉ bodyL k e := by
  unfold bodyL
  simp only [List.mem_append, List.mem_cons, not_or]
  refine ⟨num_no (.inl (by decide)) k, by decide, fun hh => ?_, by decide, fun hh => ?_⟩
  · have := (h.2.1 _ hh).1; simp at this
  · have := (h.2.2.2.2.1 _ hh).1; simp at this
theorem line_no10 {k : Nat} {e : LogRecord} (h : GoodR e) : 10 ∉ lineT k e := by
  unfold lineT tail
  simp only [List.mem_append, List.mem_cons, not_or]
  exact ⟨body_no10 h, by decide, num_no (.inl (by decide)) _⟩
theorem good_rb {e : LogRecord} (h : GoodR e) : RB e := ⟨by have := h.2.2.1; omega, by have := h.2.2.2.2.2; omega⟩
theorem good_body {k : Nat} {e : LogRecord} (h : GoodR e) (hk : k < 1000000) : (bodyL k e).length ≤ 370 := by
  have := body_len k e hk
  have := h.2.2.1; have := h.2.2.2.2.2; omega
theorem line_len {k : Nat} {e : LogRecord} (h : GoodR e) (hk : k < 1000000) : 6 ≤ (lineL k e).length ∧ (lineL k e).length ≤ 378 := by
  have h1 := good_body h hk
  have h2 := tail_len (bodyL k e)
  have h3 := body_len k e hk
  unfold lineL lineT; simp; omega
theorem iline_ok {k : Int} (e : LogRecord) (h0 : 0 ≤ k) (hk : k < 1000000) (h : GoodR e) : i_encoded k e = some (str (lineL k.toNat e)) := by
  have h1 := (good_rb h).1; have h2 := (good_rb h).2
  have hn := num_len (n := k.toNat) (by omega)
  have hbl := good_body (k := k.toNat) h (by omega)
  have htl := tail_len (bodyL k.toNat e)
  unfold i_encoded
  rw [itoa_num h0 hk, Option.bind_some, cmd_str, rep_str]
  simp only [str_app]
  rw [chk_of (by rw [str_s, str_s]; simp; omega), Option.bind_some, chk_of (by rw [str_s, str_s]; simp; omega), Option.bind_some, chk_of (by rw [str_s, str_s]; simp; omega), Option.bind_some, chk_of (by rw [str_s, str_s]; simp; omega), Option.bind_some]
  have e1 : num k.toNat ++ [32] ++ cmd e ++ [64] ++ rep e = bodyL k.toNat e := by unfold bodyL; simp
  have ac : i_AppendChecksum (str (bodyL k.toNat e)) = some (str (tail (bodyL k.toNat e)), true) := by
    have hs := sumN (bodyL k.toNat e)
    have := num_len (n := (sumL (bodyL k.toNat e)).toNat) (by omega)
    unfold i_AppendChecksum
    rw [str_s, decide_eq_false (by omega : ¬ (4000 : Int) < ((bodyL k.toNat e).length : Int)), contains_ok _ _ (by omega), decide_eq_false (body_no35 h)]
    simp only [Bool.false_eq_true, if_false, Option.bind_some]
    rw [chk_of (by rw [str_s]; simp; omega), Option.bind_some, csum_eq, lsum_ok _ (by omega), Option.bind_some, itoa_num hs.1 hs.2, Option.bind_some, str_app, chk_of (by rw [str_s, str_s]; simp; omega), Option.bind_some, str_app, str_s, decide_eq_false (by simp; omega)]
    simp only [Bool.false_eq_true, if_false]
    unfold tail; simp
  rw [e1, ac, Option.bind_some]
  dsimp only
  rw [chk_of (by rw [str_s, str_s]; simp; omega), Option.bind_some, str_app]
  rfl
/-- The first part. -/
theorem spl1_head (c : UInt8) (l : List UInt8) : ∃ p rest, spl1 c l = p :: rest ∧ c ∉ p ∧ ((l = p ∧ rest = []) ∨ ∃ q, l = p ++ c :: q ∧ rest = spl1 c q) := by
  by_cases h : c ∈ l
  · obtain ⟨p, q, rfl, hp⟩ := List.eq_append_cons_of_mem h
    exact ⟨p, spl1 c q, spl1_app hp q, hp, .inr ⟨q, rfl, rfl⟩⟩
  · exact ⟨l, [], spl1_self h, h, .inl ⟨rfl, rfl⟩⟩
theorem line_pre {k : Nat} {e : LogRecord} {s : List UInt8} : lineL k e <+: s ↔ ∃ r, s = lineT k e ++ 10 :: r := by
  unfold lineL
  constructor
  · rintro ⟨r, rfl⟩; exact ⟨r, by simp⟩
  · rintro ⟨r, rfl⟩; exact ⟨r, by simp⟩
theorem line_inj {k : Nat} {e e' : LogRecord} (h : GoodR e) (h' : GoodR e') (he : lineT k e = lineT k e') : e = e' := by
  unfold lineT tail at he
  have h1 := (sep_inj (body_no35 h) (body_no35 h') he).1
  unfold bodyL at h1
  have h2 := (sep_inj (num_no (.inl (by decide)) k) (num_no (.inl (by decide)) k) h1).2
  obtain ⟨h3, h4⟩ := sep_inj h.2.2.2.1 h'.2.2.2.1 h2
  obtain ⟨a, b⟩ := e
  obtain ⟨a', b'⟩ := e'
  have h5 : a = a' := str_inj.2 h3
  have h6 : b = b' := str_inj.2 h4
  rw [h5, h6]
theorem pre_uniq {k : Nat} {e e' : LogRecord} {s : List UInt8} (h : GoodR e) (h' : GoodR e') (hp : lineL k e <+: s) (hp' : lineL k e' <+: s) : e = e' := by
  obtain ⟨r, hr⟩ := line_pre.1 hp
  obtain ⟨r', hr'⟩ := line_pre.1 hp'
  rw [hr] at hr'
  exact line_inj h h' (sep_inj (line_no10 h) (line_no10 h') hr').1
/-! Reading a log's lines. -/
theorem parts_eq {c : UInt8} {l p : List UInt8} {rest : List (List UInt8)} (h : spl1 c l = p :: rest) : idx ((spl1 c l).map str) 0 = some (str p) := by
  rw [h]; rfl
theorem ext_from (l : List UInt8) (n : Int) : (str l).extract n.toNat (str l).size = str (l.drop n.toNat) := by
  rw [str_ext, str_s, List.take_length]
theorem rec_eq {r e : LogRecord} (h1 : cmd r = cmd e) (h2 : rep r = rep e) : r = e := by
  obtain ⟨a, b⟩ := r
  obtain ⟨a', b'⟩ := e
  have h5 : a = a' := str_inj.2 h1
  have h6 : b = b' := str_inj.2 h2
  rw [h5, h6]
theorem lread_ok (t : List UInt8) (k : Nat) (hk : k < 60) (ht : t.length ≤ 1600000) :
    Tot (s_l27Read (str t) (k : Int)) fun r => (r.2 = true → GoodR r.1 ∧ lineT k r.1 = t) ∧ ∀ e, GoodR e → lineT k e = t → r = (e, true) := by
  unfold s_l27Read
  have e35 : mkU8 35 = 35 := rfl
  have e64 : mkU8 64 = 64 := rfl
  have hn := num_len (n := k) (by omega)
  rw [e35, e64, lnum_ok (by omega) (by omega), Option.bind_some, show ((k : Int)).toNat = k by omega, chk_of (by rw [str_s, str_s]; simp; omega), Option.bind_some, lsplit_ok t 35 (by omega), Option.bind_some, str_app]
  obtain ⟨p, rest, hsp, hp35, hcase⟩ := spl1_head 35 t
  have hpl : p.length ≤ t.length := by
    rcases hcase with ⟨rfl, _⟩ | ⟨q, rfl, _⟩
    · omega
    · simp
  have hbody : ∀ e, GoodR e → lineT k e = t → p = bodyL k e := by
    intro e he hl
    unfold lineT tail at hl
    rcases hcase with ⟨rfl, _⟩ | ⟨q, rfl, _⟩
    · exact absurd (by rw [← hl]; simp) hp35
    · exact (sep_inj (body_no35 he) hp35 hl).1.symm
  rw [parts_eq hsp, Option.bind_some]
  obtain ⟨pre, hpre⟩ : ∃ pre, pre = num k ++ [32] := ⟨_, rfl⟩
  rw [← hpre, str_s, str_s]
  have hno : (∀ d, p ≠ pre ++ d) → ∀ e, GoodR e → lineT k e = t → False := by
    intro h e he hl
    have := hbody e he hl
    refine h (cmd e ++ 64 :: rep e) ?_
    rw [this, hpre]; unfold bodyL; simp
  refine .call (P := fun v => v = true ↔ ∀ d, p ≠ pre ++ d) (.iteP (fun hlt => .ok ?_) (fun hge => .chk ⟨by omega, by omega, by omega⟩ (.ok ?_))) fun v hv => ?_
  · simp only [true_iff]
    intro d e
    have := congrArg List.length e
    simp at this; omega
  · have ee : (str p).extract (0 : Int).toNat ((pre.length : Int)).toNat = str (p.take pre.length) := by
      rw [str_ext]; simp
    rw [ee, beq_str]
    simp only [Bool.not_eq_true', decide_eq_false_iff_not]
    constructor
    · intro h d e
      exact h (by rw [e, List.take_left])
    · intro h e
      exact h (p.drop pre.length) (by have h2 := List.take_append_drop pre.length p; rw [e] at h2; exact h2.symm)
  refine .ite (fun h => .ok ⟨fun h => by simp at h, fun e he hl => absurd hl (fun hl => hno (hv.1 h) e he hl)⟩) (fun h => ?_)
  obtain ⟨q, rfl⟩ : ∃ q, p = pre ++ q := Classical.byContradiction fun hn => by
    have := hv.2 (fun d e => hn ⟨d, e⟩)
    rw [h] at this; cases this
  have hlp : (pre ++ q).length = pre.length + q.length := List.length_append
  refine .chk ⟨by omega, by omega⟩ ?_
  have eq0 : (str (pre ++ q)).extract ((pre.length : Int)).toNat (str (pre ++ q)).size = str q := by
    rw [ext_from]; simp
  have eq1 : (str (pre ++ q)).extract ((pre.length : Int)).toNat (pre ++ q).length = str q := eq0
  simp only [eq0, eq1]
  rw [lsplit_ok q 64 (by omega), Option.bind_some]
  obtain ⟨c, rest2, hsp2, hc64, hcase2⟩ := spl1_head 64 q
  rw [parts_eq hsp2, Option.bind_some, str_s, str_s]
  have hce : ∀ e, GoodR e → lineT k e = t → q = cmd e ++ 64 :: rep e := by
    intro e he hl
    have := hbody e he hl
    rw [hpre] at this
    unfold bodyL at this
    have h2 : num k ++ 32 :: q = num k ++ 32 :: (cmd e ++ 64 :: rep e) := by simpa using this
    exact (sep_inj (num_no (.inl (by decide)) k) (num_no (.inl (by decide)) k) h2).2
  refine .ite (fun h => .ok ⟨fun h => by simp at h, fun e he hl => ?_⟩) (fun h => ?_)
  · have h1 := hce e he hl
    have h0 : c.length = q.length := by have := eq_of_beq h; omega
    rcases hcase2 with ⟨rfl, _⟩ | ⟨z, rfl, _⟩
    · exact absurd (by rw [h1]; simp) hc64
    · simp at h0
  obtain ⟨z, rfl⟩ : ∃ z, q = c ++ 64 :: z := by
    rcases hcase2 with ⟨rfl, _⟩ | ⟨z, e, _⟩
    · simp at h
    · exact ⟨z, e⟩
  have hlq : (c ++ 64 :: z).length = c.length + 1 + z.length := by simp; omega
  have ew : w64 ((c.length : Int) + 1) = ((c.length + 1 : Nat) : Int) := w64_succ (by omega)
  rw [ew]
  refine .chk ⟨by omega, by omega⟩ ?_
  have ez : (str (c ++ 64 :: z)).extract (((c.length + 1 : Nat) : Int)).toNat (str (c ++ 64 :: z)).size = str z := by
    rw [ext_from, show (((c.length + 1 : Nat) : Int)).toNat = c.length + 1 by omega]
    congr 1
    rw [← List.drop_drop]; simp
  have ez2 : (str (c ++ 64 :: z)).extract (((c.length + 1 : Nat) : Int)).toNat (c ++ 64 :: z).length = str z := ez
  simp only [ez, ez2]
  obtain ⟨r, hr⟩ : ∃ r : LogRecord, r = ⟨str c, str z⟩ := ⟨_, rfl⟩
  have hrc : cmd r = c := by rw [hr]; rfl
  have hrz : rep r = z := by rw [hr]; rfl
  have hrb : RB r := ⟨by rw [hrc]; omega, by rw [hrz]; omega⟩
  rw [← hr, good_s r hrb, Option.bind_some]
  have huniq : ∀ e, GoodR e → lineT k e = t → r = e := by
    intro e he hl
    have h1 := hce e he hl
    obtain ⟨h3, h4⟩ := sep_inj hc64 he.2.2.2.1 h1
    exact rec_eq (hrc.trans h3) (hrz.trans h4)
  by_cases hg : GoodR r
  · rw [decide_eq_true hg]
    simp only [if_true]
    have hl := line_len (k := k) hg (by omega)
    rw [line_s r (by omega) (by omega) hrb, Option.bind_some, show ((k : Int)).toNat = k by omega, chk_of (by rw [str_s, str_s]; simp; omega), Option.bind_some, Option.bind_some, str_app, beq_str]
    refine .ok ⟨fun h => ⟨hg, ?_⟩, fun e he hl => ?_⟩
    · have h2 : lineL k r = t ++ [10] := by simpa using h
      unfold lineL at h2
      exact List.append_cancel_right h2
    · have := huniq e he hl
      subst this
      have : lineL k r = t ++ [10] := by unfold lineL; rw [hl]
      simp [this]
  · rw [decide_eq_false hg]
    simp only [Bool.false_eq_true, if_false, Option.bind_some]
    refine .ok ⟨fun h => (by cases h), fun e he hl => ?_⟩
    exact absurd (huniq e he hl ▸ he) hg
theorem cut_ok (l : List UInt8) (c : UInt8) (hl : l.length ≤ 9000000) : ∃ p q b, strings_Cut (str l) (str [c]) = some (str p, str q, b) ∧ c ∉ p ∧ ((b = false ∧ p = l ∧ q = []) ∨ (b = true ∧ l = p ++ c :: q)) := by
  unfold strings_Cut cutM
  rw [if_pos (by rw [str_s]; omega), str_l, str_l]
  rcases cut1 c l with ⟨h, e⟩ | ⟨p, q, h, e1, e⟩
  · rw [e]; exact ⟨l, [], false, rfl, h, .inl ⟨rfl, rfl, rfl⟩⟩
  · rw [e]; exact ⟨p, q, true, rfl, h, .inr ⟨rfl, e1⟩⟩
theorem iread_ok (s : List UInt8) (k : Nat) (hk : k ≤ 60) (hs : s.length ≤ 1600000) :
    Tot (i_decoded (k : Int) (str s)) fun r => (r.2.2 = true → k < 60 ∧ GoodR r.1 ∧ lineL k r.1 <+: s ∧ r.2.1 = ((lineL k r.1).length : Int)) ∧ ∀ e, k < 60 → GoodR e → lineL k e <+: s → r = (e, ((lineL k e).length : Int), true) := by
  unfold i_decoded
  obtain ⟨t, s', b, h1, h10, hc⟩ := cut_ok s 10 (by omega)
  rw [h1, Option.bind_some]
  dsimp only
  have htl : t.length ≤ s.length := by
    rcases hc with ⟨_, rfl, _⟩ | ⟨_, rfl⟩
    · omega
    · simp
  refine .call (P := fun v => v = true ↔ (b = false ∨ 60 ≤ k)) (.ite (fun h => .ok (by simp_all)) (fun h => .ok (by simp at h; subst h; simp; omega))) fun v hv => ?_
  refine .ite (fun h => .ok ⟨fun h => (by simp at h), fun e hk' he hp => ?_⟩) (fun h => ?_)
  · exfalso
    rcases hv.1 h with hb | hb
    · obtain ⟨r, hr⟩ := line_pre.1 hp
      rcases hc with ⟨_, ht, _⟩ | ⟨hb', _⟩
      · exact h10 (by rw [ht, hr]; simp)
      · rw [hb] at hb'; cases hb'
    · omega
  have hb : b = true ∧ k < 60 := by
    constructor
    · cases b
      · have := hv.2 (.inl rfl); rw [h] at this; cases this
      · rfl
    · apply Classical.byContradiction
      intro hn
      have := hv.2 (.inr (by omega)); rw [h] at this; cases this
  obtain ⟨rfl, hk'⟩ := hb
  obtain ⟨_, hst⟩ : True ∧ s = t ++ 10 :: s' := by
    rcases hc with ⟨hb, _⟩ | ⟨_, h⟩
    · cases hb
    · exact ⟨trivial, h⟩
  have hlt : ∀ e, GoodR e → lineL k e <+: s → lineT k e = t := by
    intro e he hp
    obtain ⟨r, hr⟩ := line_pre.1 hp
    rw [hst] at hr
    exact (sep_inj h10 (line_no10 he) hr).1.symm
  obtain ⟨p, p', b1, h2, h35, hc1⟩ := cut_ok t 35 (by omega)
  have hptl : p.length ≤ t.length := by
    rcases hc1 with ⟨_, h, _⟩ | ⟨_, h⟩
    · rw [h]; omega
    · rw [h]; simp
  obtain ⟨u, u', b2, h3, h32, hc2⟩ := cut_ok p 32 (by omega)
  have hu' : u'.length ≤ 1600000 := by
    rcases hc2 with ⟨_, _, h⟩ | ⟨_, h⟩
    · rw [h]; simp
    · have := congrArg List.length h
      simp at this; omega
  obtain ⟨c, z, b3, h4, h64, hc3⟩ := cut_ok u' 64 (by omega)
  rw [h2, Option.bind_some, h3, Option.bind_some, h4, Option.bind_some]
  dsimp only
  obtain ⟨r, hr⟩ : ∃ r : LogRecord, r = ⟨str c, str z⟩ := ⟨_, rfl⟩
  have hrc : cmd r = c := by rw [hr]; rfl
  have hrz : rep r = z := by rw [hr]; rfl
  have hrb : RB r := by
    constructor
    · rw [hrc]; rcases hc3 with ⟨_, rfl, _⟩ | ⟨_, rfl⟩
      · omega
      · simp at hu'; omega
    · rw [hrz]; rcases hc3 with ⟨_, _, rfl⟩ | ⟨_, rfl⟩
      · simp
      · simp at hu'; omega
  have huniq : ∀ e, GoodR e → lineT k e = t → r = e := by
    intro e he hl
    have hp : p = bodyL k e := by
      unfold lineT tail at hl
      rcases hc1 with ⟨_, hpt, _⟩ | ⟨_, ht⟩
      · exact absurd (by rw [hpt, ← hl]; simp) h35
      · rw [ht] at hl; exact (sep_inj (body_no35 he) h35 hl).1.symm
    have hu : u' = cmd e ++ 64 :: rep e := by
      unfold bodyL at hp
      rcases hc2 with ⟨_, hpt, _⟩ | ⟨_, ht⟩
      · exact absurd (by rw [hpt, hp]; simp) h32
      · rw [ht] at hp; exact (sep_inj h32 (num_no (.inl (by decide)) k) hp).2
    rcases hc3 with ⟨_, hpt, _⟩ | ⟨_, ht⟩
    · exact absurd (by rw [hpt, hu]; simp) h64
    · rw [ht] at hu
      obtain ⟨h5, h6⟩ := sep_inj h64 he.2.2.2.1 hu
      exact rec_eq (hrc.trans h5) (hrz.trans h6)
  rw [← hr, valid_i r hrb, Option.bind_some]
  refine .call (P := fun v => v = true ↔ ¬ (GoodR r ∧ lineT k r = t)) ?_ fun v hv => .ite (fun h => .ok ⟨fun h => (by simp at h), fun e _ he hp => ?_⟩) (fun h => .ok ⟨fun _ => ?_, fun e _ he hp => ?_⟩)
  · by_cases hg : GoodR r
    · rw [decide_eq_true hg]
      simp only [Bool.not_true, Bool.false_eq_true, if_false]
      rw [iline_ok r (by omega) (by omega) hg, Option.bind_some, show ((k : Int)).toNat = k by omega, chk_of (by rw [str_s, str_s]; simp; omega), Option.bind_some, str_app, beq_str]
      refine .ok ?_
      have : lineL k r = t ++ [10] ↔ lineT k r = t := ⟨fun h => by unfold lineL at h; exact List.append_cancel_right h, fun h => by unfold lineL; rw [h]⟩
      simp [hg, this]
    · rw [decide_eq_false hg]
      simp only [Bool.not_false, if_true]
      exact .ok (by simp [hg])
  · have := huniq e he (hlt e he hp)
    subst this
    exact absurd ⟨he, hlt r he hp⟩ (hv.1 h)
  · have hgl : GoodR r ∧ lineT k r = t := Classical.byContradiction fun hn => by
      have := hv.2 hn; rw [h] at this; cases this
    refine ⟨hk', hgl.1, line_pre.2 ⟨s', by rw [hgl.2]; exact hst⟩, ?_⟩
    rw [str_s, w64_succ (by omega)]
    unfold lineL; rw [hgl.2]; simp
  · have := huniq e he (hlt e he hp)
    subst this
    have hl2 := hlt r he hp
    rw [str_s, w64_succ (by omega)]
    unfold lineL; rw [hl2]; simp
/-- Lines one after another. -/
def LL : Nat → List LogRecord → List UInt8
  | _, [] => []
  | k, e :: r => lineL k e ++ LL (k + 1) r
theorem LL_app : ∀ (k : Nat) (a b : List LogRecord), LL k (a ++ b) = LL k a ++ LL (k + a.length) b
  | k, [], b => by simp [LL]
  | k, e :: a, b => by
    rw [List.cons_append, LL, LL, LL_app (k + 1) a b, List.append_assoc, List.length_cons, show k + 1 + a.length = k + (a.length + 1) by omega]
theorem LL_snoc (k : Nat) (a : List LogRecord) (e : LogRecord) : LL k (a ++ [e]) = LL k a ++ lineL (k + a.length) e := by
  rw [LL_app]; simp [LL]
theorem LL_len : ∀ (k : Nat) (a : List LogRecord), (∀ e ∈ a, GoodR e) → k + a.length ≤ 100 → (LL k a).length ≤ 378 * a.length
  | _, [], _, _ => by simp [LL]
  | k, e :: a, h, hk => by
    have := LL_len (k + 1) a (fun x hx => h x (List.mem_cons_of_mem _ hx)) (by simp at hk; omega)
    have := line_len (k := k) (h e (List.mem_cons_self ..)) (by simp at hk; omega)
    simp [LL]; omega
theorem LL_comp : ∀ (a b : List LogRecord) (k : Nat) (s : List UInt8), (∀ e ∈ a, GoodR e) → (∀ e ∈ b, GoodR e) → LL k a <+: s → LL k b <+: s → a <+: b ∨ b <+: a
  | [], b, _, _, _, _, _, _ => .inl (List.nil_prefix)
  | _ :: _, [], _, _, _, _, _, _ => .inr (List.nil_prefix)
  | e :: a, f :: b, k, s, ha, hb, h1, h2 => by
    simp only [LL] at h1 h2
    have p1 : lineL k e <+: s := (List.prefix_append _ _).trans h1
    have p2 : lineL k f <+: s := (List.prefix_append _ _).trans h2
    have := pre_uniq (ha e (List.mem_cons_self ..)) (hb f (List.mem_cons_self ..)) p1 p2
    subst this
    obtain ⟨s', rfl⟩ := p1
    have q1 := (List.prefix_append_right_inj _).1 h1
    have q2 := (List.prefix_append_right_inj _).1 h2
    rcases LL_comp a b (k + 1) s' (fun x hx => ha x (List.mem_cons_of_mem _ hx)) (fun x hx => hb x (List.mem_cons_of_mem _ hx)) q1 q2 with h | h
    · exact .inl (List.prefix_cons_inj _ |>.2 h)
    · exact .inr (List.prefix_cons_inj _ |>.2 h)
def Chain (s : List UInt8) (es : List LogRecord) : Prop := (∀ e ∈ es, GoodR e) ∧ LL 0 es <+: s ∧ es.length ≤ 60
def Full (s : List UInt8) (es : List LogRecord) : Prop := Chain s es ∧ (es.length = 60 ∨ ∀ e, GoodR e → ¬ lineL es.length e <+: s.drop (LL 0 es).length)
theorem chain_len {s : List UInt8} {es : List LogRecord} (h : Chain s es) : (LL 0 es).length ≤ 22680 := by
  have := LL_len 0 es h.1 (by have := h.2.2; omega)
  have := h.2.2
  omega
theorem full_max {s : List UInt8} {es fs : List LogRecord} (h : Full s es) (hf : Chain s fs) : fs <+: es := by
  rcases LL_comp es fs 0 s h.1.1 hf.1 h.1.2.1 hf.2.1 with hc | hc
  · obtain ⟨d, rfl⟩ := hc
    cases d with
    | nil => simp
    | cons e d =>
      exfalso
      have hl := hf.2.2
      simp at hl
      rcases h.2 with h60 | hno
      · omega
      · refine hno e (hf.1 e (by simp)) ?_
        have hp := hf.2.1
        rw [show es ++ e :: d = (es ++ [e]) ++ d by simp, LL_app, LL_snoc, Nat.zero_add] at hp
        obtain ⟨r, hr⟩ := hp
        refine ⟨LL (0 + (es ++ [e]).length) d ++ r, ?_⟩
        rw [← hr]
        simp [List.append_assoc]
  · exact hc
theorem full_uniq {s : List UInt8} {es fs : List LogRecord} (h : Full s es) (hf : Full s fs) : es = fs := by
  have h1 := full_max h hf.1
  have h2 := full_max hf h.1
  exact List.IsPrefix.eq_of_length_le h2 h1.length_le
theorem chain_snoc {s : List UInt8} {es : List LogRecord} {e : LogRecord} (h : Chain s es) (hl : es.length < 60) (he : GoodR e) (hp : lineL es.length e <+: s.drop (LL 0 es).length) : Chain s (es ++ [e]) := by
  refine ⟨fun x hx => ?_, ?_, by simp; omega⟩
  · rcases List.mem_append.1 hx with hx | hx
    · exact h.1 x hx
    · simp at hx; subst hx; exact he
  · rw [LL_snoc, Nat.zero_add]
    obtain ⟨r, rfl⟩ := h.2.1
    simp only [List.drop_left] at hp
    exact (List.prefix_append_right_inj _).2 hp
theorem chain_nil (s : List UInt8) : Chain s [] := ⟨by simp, by simp [LL], by simp⟩
/-- The specification's reader. -/
theorem lopen_ok (s : List UInt8) (hs : s.length ≤ 1600000) : Tot (s_l27Open (str s)) fun r => Full s r.1 ∧ r.2 = ((LL 0 r.1).length : Int) := by
  unfold s_l27Open
  refine .call (P := fun r => Full s r.2 ∧ r.1 = ((LL 0 r.2).length : Int)) (Tot.iter (fun k a => k + a.2.length = 60 ∧ Chain s a.2 ∧ a.1 = ((LL 0 a.2).length : Int)) (n := 60) ⟨rfl, chain_nil s, rfl⟩ ?_) fun ⟨a, b⟩ h => .ok h
  rintro k ⟨v, es⟩ ⟨hk, hc, hv⟩
  dsimp only at hk hc hv
  subst hv
  have hcl := chain_len hc
  unfold s_l27Open_L1
  dsimp only
  rw [str_s]
  have hle : (LL 0 es).length ≤ s.length := hc.2.1.length_le
  refine .call (P := fun b => b = true ↔ (LL 0 es).length < s.length ∧ es.length < 60) (.iteP (fun h => .ok ?_) (fun h => .ok ?_)) fun b hb => .ite (fun h => ?_) (fun h => ?_)
  · rw [decide_eq_true_eq]
    constructor
    · intro h'; exact ⟨by omega, by omega⟩
    · intro h'; omega
  · constructor
    · intro h; cases h
    · intro h'; omega
  · obtain ⟨h1, h2⟩ := hb.1 h
    refine .chk ⟨by omega, by omega⟩ ?_
    have e10 : mkU8 10 = 10 := rfl
    obtain ⟨d, hd⟩ : ∃ d, d = s.drop (LL 0 es).length := ⟨_, rfl⟩
    have ee : (str s).extract (((LL 0 es).length : Int)).toNat s.length = str d := by
      have := ext_from s ((LL 0 es).length : Int)
      rw [str_s] at this
      rw [this, hd]; simp
    have hdl : d.length ≤ s.length := by rw [hd]; simp
    rw [ee, e10, lsplit_ok d 10 (by omega), Option.bind_some]
    obtain ⟨t, rest, hsp, ht10, hcase⟩ := spl1_head 10 d
    have htd : t.length ≤ d.length := by
      rcases hcase with ⟨rfl, _⟩ | ⟨q, rfl, _⟩
      · omega
      · simp
    rw [parts_eq hsp, Option.bind_some]
    refine .call (lread_ok t es.length h2 (by omega)) fun ⟨r, b⟩ ⟨r1, r2⟩ => ?_
    dsimp only at r1 r2 ⊢
    rw [hsp]
    have hlen : ((((t :: rest).map str).length : Int)) = (rest.length : Int) + 1 := by simp
    rw [hlen]
    refine .call (P := fun v => v = true ↔ (rest = [] ∨ b = false)) (.iteP (fun h => .ok ?_) (fun h => .ok ?_)) fun v hv => .ite (fun h => .dn ⟨⟨hc, .inr fun e he hp => ?_⟩, rfl⟩) (fun h => ?_)
    · have : rest = [] := List.length_eq_zero_iff.1 (by omega)
      simp [this]
    · have : rest ≠ [] := fun e => h (by rw [e]; simp)
      simp [this]
    · rw [← hd] at hp
      obtain ⟨w, hw⟩ := line_pre.1 hp
      have hin : (10 : UInt8) ∈ d := by rw [hw]; simp
      rcases hcase with ⟨rfl, _⟩ | ⟨q, hq, hrest⟩
      · exact ht10 hin
      · have ht : lineT es.length e = t := by
          rw [hq] at hw
          exact ((sep_inj ht10 (line_no10 he) hw).1).symm
        have := r2 e he ht
        rcases hv.1 h with h3 | h3
        · rw [hrest] at h3; exact spl1_ne _ _ h3
        · rw [h3] at this; cases this
    · have hb2 : rest ≠ [] ∧ b = true := by
        constructor
        · intro e; have := hv.2 (.inl e); rw [h] at this; cases this
        · cases b
          · have := hv.2 (.inr rfl); rw [h] at this; cases this
          · rfl
      obtain ⟨hne, rfl⟩ := hb2
      obtain ⟨g1, g2⟩ := r1 rfl
      obtain ⟨q, hq⟩ : ∃ q, d = t ++ 10 :: q := by
        rcases hcase with ⟨_, e⟩ | ⟨q, hq, _⟩
        · exact absurd e hne
        · exact ⟨q, hq⟩
      have hp : lineL es.length r <+: s.drop (LL 0 es).length := by
        rw [← hd]; exact line_pre.2 ⟨q, by rw [g2]; exact hq⟩
      have ei : idx ((t :: rest).map str) 0 = some (str t) := rfl
      refine .chk (by simp; omega) (.eq ei (.nx ⟨k - 1, by omega, by simp; omega, chain_snoc hc h2 g1 hp, ?_⟩))
      show w64 (w64 (((LL 0 es).length : Int) + ((str t).size : Int)) + 1) = _
      rw [str_s, w64_id (x := ((LL 0 es).length : Int) + (t.length : Int)) (by omega), w64_id (by omega), LL_snoc, Nat.zero_add]
      unfold lineL
      rw [g2]; simp; omega
  · refine .dn ⟨⟨hc, ?_⟩, rfl⟩
    by_cases h6 : es.length < 60
    · right
      intro e he hp
      have h0 : ¬ (LL 0 es).length < s.length := fun hh => by
        have := hb.2 ⟨hh, h6⟩; rw [h] at this; cases this
      have hl := hp.length_le
      have := line_len (k := es.length) he (by omega)
      simp at hl; omega
    · left
      have := hc.2.2
      show es.length = 60
      omega
/-- The implementation's reader. -/
def EndsOf (es : List LogRecord) (ends : List Int) : Prop := ends.length = es.length + 1 ∧ ∀ j, j ≤ es.length → ends[j]? = some ((LL 0 (es.take j)).length : Int)
theorem iall_ok (s : List UInt8) (hs : s.length ≤ 1600000) : Tot (i_readLog (str s)) fun r => Full s r.1 ∧ EndsOf r.1 r.2 := by
  unfold i_readLog
  refine Tot.iter (fun k a => k + a.1.length = 60 ∧ Chain s a.1 ∧ EndsOf a.1 a.2) (n := 60) ⟨rfl, chain_nil s, rfl, fun j hj => ?_⟩ ?_
  · have : j = 0 := by simpa using hj
    subst this; rfl
  rintro k ⟨es, ends⟩ ⟨hk, hc, he1, he2⟩
  dsimp only at hk hc he1 he2
  have hcl := chain_len hc
  have hle : (LL 0 es).length ≤ s.length := hc.2.1.length_le
  unfold i_readLog_L1
  dsimp only
  have hend := he2 es.length (Nat.le_refl _)
  rw [List.take_length] at hend
  rw [ixs hend, Option.bind_some, str_s, chk_of ⟨by omega, by omega⟩, Option.bind_some]
  have ee : (str s).extract (((LL 0 es).length : Int)).toNat s.length = str (s.drop (LL 0 es).length) := by
    have := ext_from s ((LL 0 es).length : Int)
    rw [str_s] at this
    rw [this]; simp
  rw [ee]
  refine .call (iread_ok (s.drop (LL 0 es).length) es.length (by omega) (by simp; omega)) fun ⟨r, n, b⟩ ⟨r1, r2⟩ => ?_
  dsimp only at r1 r2 ⊢
  refine .ite (fun h => .dn ⟨⟨hc, ?_⟩, he1, he2⟩) (fun h => ?_)
  · by_cases h6 : es.length < 60
    · right
      intro e he hp
      have := r2 e h6 he hp
      simp only [Prod.mk.injEq] at this
      rw [this.2.2] at h
      simp at h
    · left; have := hc.2.2; show es.length = 60; omega
  · have hb : b = true := by cases b <;> simp_all
    subst hb
    obtain ⟨h6, g1, g2, g3⟩ := r1 rfl
    have hl := line_len (k := es.length) g1 (by omega)
    refine .chk (by simp; omega) (.chk (by simp; omega) (.nx ⟨k - 1, by omega, by simp; omega, chain_snoc hc h6 g1 g2, by simp; omega, fun j hj => ?_⟩))
    show (ends ++ [w64 (((LL 0 es).length : Int) + n)])[j]? = some (((LL 0 ((es ++ [r]).take j)).length : Nat) : Int)
    rw [g3, w64_id (by omega)]
    by_cases hj2 : j ≤ es.length
    · rw [List.getElem?_append_left (by omega), he2 j hj2, List.take_append_of_le_length hj2]
    · have : j = es.length + 1 := by simp at hj; omega
      subst this
      rw [List.getElem?_append_right (by omega), he1, Nat.sub_self]
      rw [List.take_of_length_le (by simp), LL_snoc, Nat.zero_add]
      simp
/-! Logs: what is valid; append, recover, sync; the draws. -/
def durL (l : Log) : List UInt8 := l.Durable.data.toList
def penL (l : Log) : List UInt8 := l.Pending.data.toList
theorem dur_str (l : Log) : l.Durable = str (durL l) := rfl
theorem pen_str (l : Log) : l.Pending = str (penL l) := rfl
def allL (l : Log) : List UInt8 := durL l ++ penL l
def LogB (l : Log) (n : Nat) : Prop := (durL l).length + (penL l).length ≤ n
def ValidL (l : Log) : Prop := ∃ es, Full (allL l) es ∧ (LL 0 es).length = (allL l).length ∧ l.Count = (es.length : Int) ∧ ∃ j, j ≤ es.length ∧ (LL 0 (es.take j)).length = (durL l).length
noncomputable instance (l : Log) : Decidable (ValidL l) := Classical.propDecidable _
theorem all_len (l : Log) : (allL l).length = (durL l).length + (penL l).length := by unfold allL; simp
theorem pre_len {a b : List UInt8} (h : a <+: b) (hl : a.length = b.length) : a = b := List.IsPrefix.eq_of_length h hl
theorem LL_pre {a b : List LogRecord} (h : a <+: b) : LL 0 a <+: LL 0 b := by
  obtain ⟨d, rfl⟩ := h
  rw [LL_app]
  exact List.prefix_append _ _
theorem valid_iff {l : Log} {es : List LogRecord} (h : Full (allL l) es) : ValidL l ↔ (LL 0 es).length = (allL l).length ∧ l.Count = (es.length : Int) ∧ ∃ j, j ≤ es.length ∧ (LL 0 (es.take j)).length = (durL l).length := by
  constructor
  · rintro ⟨fs, hf, h1, h2, h3⟩
    have := full_uniq h hf
    subst this
    exact ⟨h1, h2, h3⟩
  · intro ⟨h1, h2, h3⟩
    exact ⟨es, h, h1, h2, h3⟩
theorem ivalid_ok (l : Log) (hb : LogB l 1300000) : i_IsValidLog l = some (decide (ValidL l)) := by
  have hal := all_len l
  unfold LogB at hb
  unfold i_IsValidLog
  rw [dur_str, pen_str, str_s, str_s, chk_of (by omega), Option.bind_some, str_app]
  obtain ⟨⟨es, ends⟩, hr, hf, he1, he2⟩ := iall_ok (allL l) (by omega)
  have hr' : i_readLog (str (durL l ++ penL l)) = some (es, ends) := hr
  dsimp only at hf he1 he2
  have hend := he2 es.length (Nat.le_refl _)
  rw [List.take_length] at hend
  have hlc := chain_len hf.1
  have hll := hf.1.2.2
  rw [hr', Option.bind_some]
  dsimp only
  rw [ixs hend, Option.bind_some, w64_id (x := ((durL l).length : Int) + ((penL l).length : Int)) (by omega)]
  have hv := valid_iff hf
  by_cases c1 : (LL 0 es).length = (allL l).length
  · have d1 : ((((LL 0 es).length : Int)) != ((durL l).length : Int) + ((penL l).length : Int)) = false := by
      simp; omega
    rw [d1]
    simp only [Bool.false_eq_true, if_false, Option.bind_some]
    by_cases c2 : l.Count = (es.length : Int)
    · have d2 : (l.Count != (es.length : Int)) = false := by simp [c2]
      rw [d2]
      simp only [Bool.false_eq_true, if_false]
      have hlp : Tot (iter (i_IsValidLog_L1 l (es, ends)) (0 : Int)) fun r => (r = .go () ∧ ¬ ∃ j, j ≤ es.length ∧ (LL 0 (es.take j)).length = (durL l).length) ∨ (r = .ret true ∧ ∃ j, j ≤ es.length ∧ (LL 0 (es.take j)).length = (durL l).length) := by
        refine Tot.iter (fun k a => ∃ i : Nat, k + i = es.length + 1 ∧ a = (i : Int) ∧ ∀ j, j < i → ¬ (LL 0 (es.take j)).length = (durL l).length) (n := es.length + 1) ⟨0, rfl, rfl, fun j hj => by omega⟩ ?_
        rintro k _ ⟨i, hk, rfl, hno⟩
        unfold i_IsValidLog_L1
        dsimp only
        refine .iteP (fun h => ?_) (fun h => .dn (.inl ⟨rfl, fun ⟨j, hj, e⟩ => hno j (by omega) e⟩))
        refine .eq (ixs (he2 i (by omega))) ?_
        rw [dur_str, str_s]
        refine .ite (fun h => .dn (.inr ⟨rfl, i, by omega, by have := eq_of_beq h; omega⟩)) (fun h => .nx ⟨k - 1, by omega, i + 1, by omega, w64_succ (by omega), fun j hj e => ?_⟩)
        by_cases hji : j < i
        · exact hno j hji e
        · have : j = i := by omega
          subst this
          rw [e] at h
          simp at h
      obtain ⟨r, hr2, ⟨rfl, hx⟩ | ⟨rfl, hx⟩⟩ := hlp
      · rw [hr2, decide_eq_false (fun hh => hx (hv.1 hh).2.2)]; rfl
      · rw [hr2, decide_eq_true (hv.2 ⟨c1, c2, hx⟩)]; rfl
    · have d2 : (l.Count != (es.length : Int)) = true := by simp [c2]
      rw [d2]
      simp only [if_true]
      rw [decide_eq_false (fun hh => c2 (hv.1 hh).2.1)]
  · have d1 : ((((LL 0 es).length : Int)) != ((durL l).length : Int) + ((penL l).length : Int)) = true := by
      simp; omega
    rw [d1]
    simp only [if_true, Option.bind_some]
    rw [decide_eq_false (fun hh => c1 (hv.1 hh).1)]
theorem dur_iff {l : Log} {es fs : List LogRecord} (h : Full (allL l) es) (hf : Full (durL l) fs) : (LL 0 fs).length = (durL l).length ↔ ∃ j, j ≤ es.length ∧ (LL 0 (es.take j)).length = (durL l).length := by
  have hda : durL l <+: allL l := List.prefix_append _ _
  constructor
  · intro e
    have e1 := pre_len hf.1.2.1 e
    have hc : Chain (allL l) fs := ⟨hf.1.1, by rw [e1]; exact hda, hf.1.2.2⟩
    have := full_max h hc
    refine ⟨fs.length, this.length_le, ?_⟩
    rw [← List.prefix_iff_eq_take.1 this]; exact e
  · rintro ⟨j, hj, e⟩
    have h1 : LL 0 (es.take j) <+: allL l := (LL_pre (List.take_prefix j es)).trans h.1.2.1
    have h2 : LL 0 (es.take j) <+: durL l := List.prefix_of_prefix_length_le h1 hda (by omega)
    have hc : Chain (durL l) (es.take j) := ⟨fun x hx => h.1.1 x (List.mem_of_mem_take hx), h2, by have := h.1.2.2; simp; omega⟩
    have h3 := (LL_pre (full_max hf hc)).length_le
    have h4 := hf.1.2.1.length_le
    omega
theorem lvalid_ok (l : Log) (hb : LogB l 1300000) : s_l27Log l = some (decide (ValidL l)) := by
  have hal := all_len l
  unfold LogB at hb
  unfold s_l27Log
  rw [dur_str, pen_str, str_s, str_s, w64_id (x := ((durL l).length : Int) + ((penL l).length : Int)) (by omega)]
  obtain ⟨⟨es, n⟩, hr, hf, hn⟩ := lopen_ok (allL l) (by omega)
  obtain ⟨⟨fs, m⟩, hr2, hf2, hm⟩ := lopen_ok (durL l) (by omega)
  have hr' : s_l27Open (str (durL l ++ penL l)) = some (es, n) := hr
  dsimp only at hf hn hf2 hm
  have hlc := chain_len hf.1
  have hv := valid_iff hf
  by_cases c0 : (30000 : Int) < ((durL l).length : Int) + ((penL l).length : Int)
  · rw [decide_eq_true c0]
    simp only [if_true]
    rw [decide_eq_false (fun hh => by have := (hv.1 hh).1; omega)]
  · rw [decide_eq_false c0]
    simp only [Bool.false_eq_true, if_false]
    rw [chk_of (by omega), Option.bind_some, str_app, hr', Option.bind_some, hr2, Option.bind_some]
    dsimp only
    subst hn; subst hm
    have hd := dur_iff hf hf2
    by_cases c1 : (LL 0 es).length = (allL l).length
    · have d1 : ((((LL 0 es).length : Int)) == ((durL l).length : Int) + ((penL l).length : Int)) = true := by
        simp; omega
      rw [d1]
      simp only [if_true]
      by_cases c3 : (LL 0 fs).length = (durL l).length
      · have d3 : (((LL 0 fs).length : Int) == ((durL l).length : Int)) = true := by simp [c3]
        rw [d3]
        simp only [if_true, Option.bind_some]
        by_cases c2 : l.Count = (es.length : Int)
        · rw [decide_eq_true (hv.2 ⟨c1, c2, hd.1 c3⟩)]; simp [c2]
        · rw [decide_eq_false (fun hh => c2 (hv.1 hh).2.1)]; simp; exact fun e => c2 e.symm
      · have d3 : (((LL 0 fs).length : Int) == ((durL l).length : Int)) = false := by simp; omega
        rw [d3]
        simp only [Bool.false_eq_true, if_false, Option.bind_some]
        rw [decide_eq_false (fun hh => c3 (hd.2 (hv.1 hh).2.2))]
    · have d1 : ((((LL 0 es).length : Int)) == ((durL l).length : Int) + ((penL l).length : Int)) = false := by
        simp; omega
      rw [d1]
      simp only [Bool.false_eq_true, if_false, Option.bind_some]
      rw [decide_eq_false (fun hh => c1 (hv.1 hh).1)]
/-- Recovery. -/
def recOf (s : List UInt8) (es : List LogRecord) : Log × Int × Bool := (⟨str (s.take (LL 0 es).length), str [], (es.length : Int)⟩, ((LL 0 es).length : Int), true)
theorem rec_valid {s : List UInt8} {es : List LogRecord} (hf : Full s es) : ValidL (recOf s es).1 ∧ allL (recOf s es).1 = LL 0 es := by
  have hp := hf.1.2.1
  have e1 : s.take (LL 0 es).length = LL 0 es := (List.prefix_iff_eq_take.1 hp).symm
  have ea : allL (recOf s es).1 = LL 0 es := by
    show s.take (LL 0 es).length ++ [] = _
    rw [e1, List.append_nil]
  have hc : Full (LL 0 es) es := by
    refine ⟨⟨hf.1.1, List.prefix_rfl, hf.1.2.2⟩, ?_⟩
    by_cases h6 : es.length = 60
    · exact .inl h6
    · right
      intro e he hpe
      have := line_len (k := es.length) he (by have := hf.1.2.2; omega)
      have h9 := hpe.length_le
      rw [List.length_drop] at h9; omega
  refine ⟨⟨es, by rw [ea]; exact hc, by rw [ea], rfl, es.length, Nat.le_refl _, ?_⟩, ea⟩
  rw [List.take_length]
  show _ = (s.take (LL 0 es).length).length
  rw [e1]
/-! Arguments of struct types: measured, taken over, compared. -/
def ArI (z : Int) : Prop := -9223372036854775808 ≤ z ∧ z ≤ 9223372036854775807
def ArS (s : ByteArray) : Prop := s.size ≤ maxLen
def ArL {α : Type} (Q : α → Prop) (l : List α) : Prop := l.length ≤ maxLen ∧ ∀ x ∈ l, Q x
theorem fill_ok {α : Type} (a : List α) (d : α) {step : Int × List α → Option (Lp (Int × List α) (List α))} (hl : a.length ≤ 4000000)
    (hs : ∀ (i : Nat) (x : α) (l : List α), a[i]? = some x → l.length = a.length → step ((i : Int), l) = some (.nx (((i + 1 : Nat) : Int), l.set i x)))
    (he : ∀ l : List α, step ((a.length : Int), l) = some (.dn l)) : iter step ((0 : Int), List.replicate a.length d) = some a := by
  refine Tot.val (Tot.iter (fun n (s : Int × List α) => ∃ i : Nat, n + i = a.length ∧ s.1 = (i : Int) ∧ s.2.length = a.length ∧ ∀ j, j < i → s.2[j]? = a[j]?) (n := a.length) ⟨0, by omega, rfl, by simp, fun j hj => by omega⟩ ?_)
  rintro n ⟨v, l⟩ ⟨i, hn, hv, hl2, hj⟩
  dsimp only at hv hl2 hj
  subst hv
  rcases Nat.lt_or_ge i a.length with h | h
  · obtain ⟨x, hx⟩ := get_ex h
    rw [hs i x l hx hl2]
    refine .nx ⟨n - 1, by omega, i + 1, by omega, rfl, by simp [hl2], fun j hj' => ?_⟩
    show (l.set i x)[j]? = a[j]?
    rcases Nat.lt_or_ge j i with h2 | h2
    · rw [List.getElem?_set_ne (by omega), hj j h2]
    · have : j = i := by omega
      subst this
      rw [List.getElem?_set_self (by omega), hx]
  · have : i = a.length := by omega
    subst this
    rw [he l]
    refine .dn (List.ext_getElem? fun j => ?_)
    rcases Nat.lt_or_ge j a.length with h2 | h2
    · exact hj j h2
    · rw [List.getElem?_eq_none (by omega), List.getElem?_eq_none (by omega)]
def SzR (left r : Int) (P : Prop) : Prop := r < 0 ∨ ((0 ≤ r ∧ r ≤ left) ∧ P)
theorem w64_sub {a : Int} {n : Nat} (h0 : 0 ≤ a) (h1 : a ≤ 1048576) (hn : n ≤ maxLen) : w64 (a - (n : Int)) = a - (n : Int) := by
  unfold maxLen at hn
  exact w64_id (by omega)
theorem szI_ok (a : List Int) {left : Int} (hq : a.length ≤ maxLen) (h0 : 0 ≤ left) (h1 : left ≤ 1048576) : Tot (v_szIntS a left) fun r => SzR left r ((a.length : Int) ≤ left) := by
  unfold v_szIntS
  rw [w64_sub h0 h1 hq]
  exact .iteP (fun _ => .ok (.inl (by decide))) (fun h => .ok (.inr ⟨⟨by omega, by omega⟩, by omega⟩))
theorem szT_ok (a : List Trip) {left : Int} (hq : a.length ≤ maxLen) (h0 : 0 ≤ left) (h1 : left ≤ 1048576) : Tot (v_szTripS a left) fun r => SzR left r ((a.length : Int) ≤ left) := by
  unfold v_szTripS
  rw [w64_sub h0 h1 hq]
  exact .iteP (fun _ => .ok (.inl (by decide))) (fun h => .ok (.inr ⟨⟨by omega, by omega⟩, by omega⟩))
theorem szB_ok (a : List ByteArray) {left : Int} (hq : a.length ≤ maxLen ∧ ∀ x ∈ a, x.size ≤ maxLen) (h0 : 0 ≤ left) (h1 : left ≤ 1048576) : Tot (v_szStringS a left) fun r => SzR left r ((a.length : Int) ≤ left) := by
  unfold v_szStringS
  rw [w64_sub h0 h1 hq.1]
  refine .iteP (fun _ => .ok (.inl (by decide))) (fun h => Tot.flb (Tot.iter (fun n (s : Int × Int) => ∃ i : Nat, n + i = a.length ∧ s.2 = (i : Int) ∧ 0 ≤ s.1 ∧ s.1 ≤ left) (n := a.length) ⟨0, by omega, rfl, by show 0 ≤ left - (a.length : Int); omega, by show left - (a.length : Int) ≤ left; omega⟩ ?_))
  rintro n ⟨v1, v2⟩ ⟨i, hn, hv, k0, k1⟩
  dsimp only at hv k0 k1
  subst hv
  unfold v_szStringS_L1
  dsimp only
  refine .iteP (fun hlt => .idx (by omega) hlt fun e he => ?_) (fun hge => .dn ⟨fun r hr => (by cases hr), fun u hu => (by cases hu; exact .ok (.inr ⟨⟨k0, k1⟩, by omega⟩))⟩)
  have hs := hq.2 e (List.mem_of_getElem? he)
  rw [w64_sub k0 (by omega) hs]
  refine .iteP (fun _ => .dn ⟨fun r hr => (by cases hr; exact .inl (by decide)), fun u hu => (by cases hu)⟩) (fun hge => .nx ⟨n - 1, by omega, i + 1, by omega, w64_succ (by omega), by show 0 ≤ v1 - (e.size : Int); omega, by show v1 - (e.size : Int) ≤ left; omega⟩)
def BdL (x : Line) : Prop := x.Stops.length ≤ 1048576 ∧ x.Runs.length ≤ 1048576
theorem szLn_ok (a : Line) {left : Int} (hq : ArS a.Name ∧ ArL ArI a.Stops ∧ ArL ArI a.Runs) (h0 : 0 ≤ left) (h1 : left ≤ 1048576) : Tot (v_szLine a left) fun r => SzR left r (BdL a) := by
  unfold v_szLine
  rw [w64_sub h0 h1 hq.1]
  refine .iteP (fun _ => .ok (.inl (by decide))) (fun h => .call (szI_ok _ hq.2.1.1 (by omega) (by omega)) fun r hr => .iteP (fun _ => .ok (.inl (by decide))) (fun k => ?_))
  obtain ⟨k1, k2⟩ := hr.resolve_left k
  refine .call (szI_ok _ hq.2.2.1 (by omega) (by omega)) fun r1 hr1 => .iteP (fun _ => .ok (.inl (by decide))) (fun k' => ?_)
  obtain ⟨k3, k4⟩ := hr1.resolve_left k'
  exact .ok (.inr ⟨⟨by omega, by omega⟩, by omega, by omega⟩)
theorem szLs_ok (a : List Line) {left : Int} (hq : a.length ≤ maxLen ∧ ∀ x ∈ a, ArS x.Name ∧ ArL ArI x.Stops ∧ ArL ArI x.Runs) (h0 : 0 ≤ left) (h1 : left ≤ 1048576) : Tot (v_szLineS a left) fun r => SzR left r ((a.length : Int) ≤ left ∧ ∀ x ∈ a, BdL x) := by
  unfold v_szLineS
  rw [w64_sub h0 h1 hq.1]
  refine .iteP (fun _ => .ok (.inl (by decide))) (fun h => Tot.flb (Tot.iter (fun n (s : Int × Int) => ∃ i : Nat, n + i = a.length ∧ s.2 = (i : Int) ∧ (0 ≤ s.1 ∧ s.1 ≤ left) ∧ ∀ x ∈ a.take i, BdL x) (n := a.length) ⟨0, by omega, rfl, ⟨by show 0 ≤ left - (a.length : Int); omega, by show left - (a.length : Int) ≤ left; omega⟩, by simp⟩ ?_))
  rintro n ⟨v1, v2⟩ ⟨i, hn, hv, ⟨k0, k1⟩, hb⟩
  dsimp only at hv k0 k1
  subst hv
  unfold v_szLineS_L1
  dsimp only
  refine .iteP (fun hlt => .idx (by omega) hlt fun e he => ?_) (fun hge => .dn ⟨fun r hr => (by cases hr), fun u hu => (by cases hu; exact .ok (.inr ⟨⟨k0, k1⟩, by omega, by rw [show i = a.length by omega, List.take_length] at hb; exact hb⟩))⟩)
  have hs := hq.2 e (List.mem_of_getElem? he)
  refine .call (szLn_ok e hs k0 (by omega)) fun r hr => .iteP (fun _ => .dn ⟨fun r hr => (by cases hr; exact .inl (by decide)), fun u hu => (by cases hu)⟩) (fun k => ?_)
  obtain ⟨k3, k4⟩ := hr.resolve_left k
  refine .nx ⟨n - 1, by omega, i + 1, by omega, w64_succ (by omega), ⟨k3.1, by show r ≤ left; omega⟩, fun x hx => ?_⟩
  have he := get_nat he
  rw [take_succ he, List.mem_append, List.mem_singleton] at hx
  rcases hx with hx | rfl
  · exact hb x hx
  · exact k4
def QLn (x : Line) : Prop := ArS x.Name ∧ ArL ArI x.Stops ∧ ArL ArI x.Runs
def QNet (n : Network) : Prop := ArL ArS n.Stops ∧ ArL QLn n.Lines
theorem szN_ok (a : Network) {left : Int} (hq : QNet a) (h0 : 0 ≤ left) (h1 : left ≤ 1048576) : Tot (v_szNetwork a left) fun r => SzR left r (Bd a) := by
  unfold v_szNetwork
  refine .call (szB_ok _ hq.1 h0 h1) fun r hr => .iteP (fun _ => .ok (.inl (by decide))) (fun k => ?_)
  obtain ⟨k1, k2⟩ := hr.resolve_left k
  refine .call (szLs_ok _ hq.2 (by omega) (by omega)) fun r1 hr1 => .iteP (fun _ => .ok (.inl (by decide))) (fun k' => ?_)
  obtain ⟨k3, k4, k5⟩ := hr1.resolve_left k'
  exact .ok (.inr ⟨⟨by omega, by omega⟩, by omega, by omega, fun x hx => by have := k5 x hx; unfold BdL at this; omega⟩)
theorem szTt_ok (a : Timetable) {left : Int} (hq : QNet a.Network ∧ a.Trips.length ≤ maxLen) (h0 : 0 ≤ left) (h1 : left ≤ 1048576) : Tot (v_szTimetable a left) fun r => SzR left r (TB a) := by
  unfold v_szTimetable
  refine .call (szN_ok _ hq.1 h0 h1) fun r hr => .iteP (fun _ => .ok (.inl (by decide))) (fun k => ?_)
  obtain ⟨k1, k2⟩ := hr.resolve_left k
  refine .call (szT_ok _ hq.2 (by omega) (by omega)) fun r1 hr1 => .iteP (fun _ => .ok (.inl (by decide))) (fun k' => ?_)
  obtain ⟨k3, k4⟩ := hr1.resolve_left k'
  exact .ok (.inr ⟨⟨by omega, by omega⟩, k2, by omega⟩)
theorem szLg_ok (a : Log) {left : Int} (hq : ArS a.Durable ∧ ArS a.Pending) (h0 : 0 ≤ left) (h1 : left ≤ 1048576) : Tot (v_szLog a left) fun r => SzR left r ((a.Durable.size : Int) + a.Pending.size ≤ left) := by
  unfold v_szLog
  rw [w64_sub h0 h1 hq.1]
  refine .iteP (fun _ => .ok (.inl (by decide))) (fun h => ?_)
  rw [w64_sub (by omega) (by omega) hq.2]
  exact .iteP (fun _ => .ok (.inl (by decide))) (fun h => .ok (.inr ⟨⟨by omega, by omega⟩, by omega⟩))
theorem toI_eq (a : List Int) (h : a.length ≤ 2000000) : v_toIntS a = some a := by
  unfold v_toIntS
  have e : iter (v_toIntS_L1 a) ((0 : Int), List.replicate (a.length : Int).toNat (0 : Int)) = some a := by
    rw [Int.toNat_natCast]
    refine fill_ok a 0 (by omega) (fun i x l hx hl => ?_) (fun l => ?_)
    · have hi := get_lt hx
      obtain ⟨y, hy⟩ := get_ex (l := l) (i := i) (by omega)
      unfold v_toIntS_L1
      dsimp only
      rw [if_pos (by simp only [decide_eq_true_eq]; omega), ixs hx, Option.bind_some, ixs hy, Option.bind_some, w64_succ (by omega), Int.toNat_natCast]
    · unfold v_toIntS_L1
      dsimp only
      rw [if_neg (by simp)]
  rw [chk_of ⟨by omega, by omega⟩, Option.bind_some, e]; rfl
theorem toB_eq (a : List ByteArray) (h : a.length ≤ 2000000) : v_toStringS a = some a := by
  unfold v_toStringS
  have e : iter (v_toStringS_L1 a) ((0 : Int), List.replicate (a.length : Int).toNat ByteArray.empty) = some a := by
    rw [Int.toNat_natCast]
    refine fill_ok a ByteArray.empty (by omega) (fun i x l hx hl => ?_) (fun l => ?_)
    · have hi := get_lt hx
      obtain ⟨y, hy⟩ := get_ex (l := l) (i := i) (by omega)
      unfold v_toStringS_L1
      dsimp only
      rw [if_pos (by simp only [decide_eq_true_eq]; omega), ixs hx, Option.bind_some, ixs hy, Option.bind_some, w64_succ (by omega), Int.toNat_natCast]
    · unfold v_toStringS_L1
      dsimp only
      rw [if_neg (by simp)]
  rw [chk_of ⟨by omega, by omega⟩, Option.bind_some, e]; rfl
theorem toT_eq (a : List Trip) (h : a.length ≤ 2000000) : v_toTripS a = some a := by
  unfold v_toTripS
  have e : iter (v_toTripS_L1 a) ((0 : Int), List.replicate (a.length : Int).toNat (⟨0, 0, 0⟩ : Trip)) = some a := by
    rw [Int.toNat_natCast]
    refine fill_ok a _ (by omega) (fun i x l hx hl => ?_) (fun l => ?_)
    · have hi := get_lt hx
      obtain ⟨y, hy⟩ := get_ex (l := l) (i := i) (by omega)
      unfold v_toTripS_L1 v_toTrip
      dsimp only
      rw [if_pos (by simp only [decide_eq_true_eq]; omega), ixs hx, Option.bind_some, Option.bind_some, ixs hy, Option.bind_some, w64_succ (by omega), Int.toNat_natCast]
    · unfold v_toTripS_L1
      dsimp only
      rw [if_neg (by simp)]
  rw [chk_of ⟨by omega, by omega⟩, Option.bind_some, e]; rfl
theorem toL_eq (a : List Line) (h : a.length ≤ 2000000) (hb : ∀ x ∈ a, x.Stops.length ≤ 2000000 ∧ x.Runs.length ≤ 2000000) : v_toLineS a = some a := by
  unfold v_toLineS
  have e : iter (v_toLineS_L1 a) ((0 : Int), List.replicate (a.length : Int).toNat (⟨ByteArray.empty, ([] : List Int), ([] : List Int)⟩ : Line)) = some a := by
    rw [Int.toNat_natCast]
    refine fill_ok a _ (by omega) (fun i x l hx hl => ?_) (fun l => ?_)
    · have hi := get_lt hx
      obtain ⟨y, hy⟩ := get_ex (l := l) (i := i) (by omega)
      have hx2 := hb x (List.mem_of_getElem? hx)
      have e1 : v_toLine x = some x := by
        unfold v_toLine
        rw [toI_eq _ hx2.1, Option.bind_some, toI_eq _ hx2.2, Option.bind_some]
      unfold v_toLineS_L1
      dsimp only
      rw [if_pos (by simp only [decide_eq_true_eq]; omega), ixs hx, Option.bind_some, e1, Option.bind_some, ixs hy, Option.bind_some, w64_succ (by omega), Int.toNat_natCast]
    · unfold v_toLineS_L1
      dsimp only
      rw [if_neg (by simp)]
  rw [chk_of ⟨by omega, by omega⟩, Option.bind_some, e]; rfl
theorem toN_eq (a : Network) (h : Bd a) : v_toNetwork a = some a := by
  unfold v_toNetwork
  rw [toB_eq _ (by have := h.1; omega), Option.bind_some, toL_eq _ (by have := h.2.1; omega) (fun x hx => by have := h.2.2 x hx; omega), Option.bind_some]
theorem toTt_eq (a : Timetable) (h : TB a) : v_toTimetable a = some a := by
  unfold v_toTimetable
  rw [toN_eq _ h.1, Option.bind_some, toT_eq _ (by have := h.2; omega), Option.bind_some]
theorem sameI (l : List Int) (hl : l.length ≤ 2000000) : v_eqIntS l l = some true := by
  unfold v_eqIntS
  rw [if_neg (by simp)]
  refine Tot.val (Tot.flb (Tot.iter (fun n (v : Int) => ∃ i : Nat, n + i = l.length ∧ v = (i : Int)) (n := l.length) ⟨0, by omega, rfl⟩ ?_))
  rintro n _ ⟨i, hn, rfl⟩
  unfold v_eqIntS_L1
  dsimp only
  refine .iteP (fun hlt => .idx (by omega) hlt fun x hx => ?_) (fun hge => .dn ⟨fun r hr => (by cases hr), fun u _ => .ok rfl⟩)
  have hx2 := ixs (get_nat hx)
  rw [hx2, Option.bind_some, if_neg (by simp)]
  exact .nx ⟨n - 1, by omega, i + 1, by omega, w64_succ (by omega)⟩
theorem sameB (l : List ByteArray) (hl : l.length ≤ 2000000) : v_eqStringS l l = some true := by
  unfold v_eqStringS
  rw [if_neg (by simp)]
  refine Tot.val (Tot.flb (Tot.iter (fun n (v : Int) => ∃ i : Nat, n + i = l.length ∧ v = (i : Int)) (n := l.length) ⟨0, by omega, rfl⟩ ?_))
  rintro n _ ⟨i, hn, rfl⟩
  unfold v_eqStringS_L1
  dsimp only
  refine .iteP (fun hlt => .idx (by omega) hlt fun x hx => ?_) (fun hge => .dn ⟨fun r hr => (by cases hr), fun u _ => .ok rfl⟩)
  have hx2 := ixs (get_nat hx)
  rw [hx2, Option.bind_some, if_neg (by simp)]
  exact .nx ⟨n - 1, by omega, i + 1, by omega, w64_succ (by omega)⟩
theorem sameT (l : List Trip) (hl : l.length ≤ 2000000) : v_eqTripS l l = some true := by
  unfold v_eqTripS
  rw [if_neg (by simp)]
  refine Tot.val (Tot.flb (Tot.iter (fun n (v : Int) => ∃ i : Nat, n + i = l.length ∧ v = (i : Int)) (n := l.length) ⟨0, by omega, rfl⟩ ?_))
  rintro n _ ⟨i, hn, rfl⟩
  unfold v_eqTripS_L1
  dsimp only
  refine .iteP (fun hlt => .idx (by omega) hlt fun x hx => ?_) (fun hge => .dn ⟨fun r hr => (by cases hr), fun u _ => .ok rfl⟩)
  have hx2 := ixs (get_nat hx)
  have e : v_eqTrip x x = some true := by
    unfold v_eqTrip
    rw [if_neg (by simp), if_neg (by simp), if_neg (by simp)]
  rw [hx2, Option.bind_some, e, Option.bind_some, if_neg (by simp)]
  exact .nx ⟨n - 1, by omega, i + 1, by omega, w64_succ (by omega)⟩
theorem sameL (l : List Line) (hl : l.length ≤ 2000000) (hb : ∀ x ∈ l, x.Stops.length ≤ 2000000 ∧ x.Runs.length ≤ 2000000) : v_eqLineS l l = some true := by
  unfold v_eqLineS
  rw [if_neg (by simp)]
  refine Tot.val (Tot.flb (Tot.iter (fun n (v : Int) => ∃ i : Nat, n + i = l.length ∧ v = (i : Int)) (n := l.length) ⟨0, by omega, rfl⟩ ?_))
  rintro n _ ⟨i, hn, rfl⟩
  unfold v_eqLineS_L1
  dsimp only
  refine .iteP (fun hlt => .idx (by omega) hlt fun x hx => ?_) (fun hge => .dn ⟨fun r hr => (by cases hr), fun u _ => .ok rfl⟩)
  have hx2 := ixs (get_nat hx)
  have hxb := hb x (List.mem_of_getElem? hx)
  have e : v_eqLine x x = some true := by
    unfold v_eqLine
    rw [if_neg (by simp), sameI _ hxb.1, Option.bind_some, if_neg (by simp), sameI _ hxb.2, Option.bind_some, if_neg (by simp)]
  rw [hx2, Option.bind_some, e, Option.bind_some, if_neg (by simp)]
  exact .nx ⟨n - 1, by omega, i + 1, by omega, w64_succ (by omega)⟩
theorem sameTt (a : Timetable) (h : TB a) : v_eqTimetable a a = some true := by
  unfold v_eqTimetable v_eqNetwork
  have h1 := h.1.1
  have h2 := h.1.2.1
  have h3 := h.2
  rw [sameB _ (by omega), Option.bind_some, if_neg (by simp), sameL _ (by omega) (fun x hx => by have := h.1.2.2 x hx; omega), Option.bind_some, if_neg (by simp), Option.bind_some, if_neg (by simp), sameT _ (by omega), Option.bind_some, if_neg (by simp)]
/-! A console is valid, or not, alike. -/
def QTr (x : Trip) : Prop := ArI x.Id ∧ ArI x.Line ∧ ArI x.Start
def QTt (t : Timetable) : Prop := QNet t.Network ∧ ArL QTr t.Trips
def QLg (l : Log) : Prop := ArS l.Durable ∧ ArS l.Pending ∧ ArI l.Count
def QCo (c : Console) : Prop := QTt c.Timetable ∧ ArI c.Change ∧ QLg c.Log
def CB (c : Console) : Prop := TB c.Timetable ∧ c.Log.Durable.size + c.Log.Pending.size ≤ 1048576
theorem szC_ok (a : Console) (hq : QCo a) : Tot (v_szConsole a 1048576) fun r => r < 0 ∨ CB a := by
  unfold v_szConsole
  refine .call (szTt_ok _ ⟨hq.1.1, hq.1.2.1⟩ (by decide) (by decide)) fun r hr => .iteP (fun _ => .ok (.inl (by decide))) (fun k => ?_)
  obtain ⟨k1, k2⟩ := hr.resolve_left k
  refine .call (szLg_ok _ ⟨hq.2.2.1, hq.2.2.2.1⟩ (by omega) (by omega)) fun r1 hr1 => .iteP (fun _ => .ok (.inl (by decide))) (fun k' => ?_)
  obtain ⟨k3, k4⟩ := hr1.resolve_left k'
  exact .ok (.inr ⟨k2, by omega⟩)
theorem toC_eq (a : Console) (h : CB a) : v_toConsole a = some a := by
  unfold v_toConsole v_toLog
  rw [toTt_eq _ h.1, Option.bind_some, Option.bind_some]
theorem sameC (a : Console) (h : CB a) : v_eqConsole a a = some true := by
  have e : v_eqLog a.Log a.Log = some true := by
    unfold v_eqLog
    rw [if_neg (by simp), if_neg (by simp), if_neg (by simp)]
  unfold v_eqConsole
  rw [sameTt _ h.1, Option.bind_some, if_neg (by simp), if_neg (by simp), e, Option.bind_some, if_neg (by simp)]
def GoodC (c : Console) : Prop := GoodT c.Timetable ∧ (0 ≤ c.Change ∧ c.Change ≤ 30) ∧ ValidL c.Log
noncomputable instance (c : Console) : Decidable (GoodC c) := Classical.propDecidable _
theorem logB {c : Console} (h : CB c) : LogB c.Log 1300000 := by
  unfold LogB
  have h2 := h.2
  have e1 : (durL c.Log).length = c.Log.Durable.size := rfl
  have e2 : (penL c.Log).length = c.Log.Pending.size := rfl
  omega
theorem goodC_i (c : Console) (h : CB c) : i_IsValidConsole c = some (decide (GoodC c)) := by
  unfold i_IsValidConsole i_isChange
  rw [validT_eq h.1, Option.bind_some]
  by_cases h1 : GoodT c.Timetable
  · rw [decide_eq_true h1, if_pos rfl, within_eq, Option.bind_some, Option.bind_some]
    by_cases h2 : 0 ≤ c.Change ∧ c.Change ≤ 30
    · rw [decide_eq_true h2, if_pos rfl, ivalid_ok _ (logB h), Option.bind_some, Option.bind_some]
      by_cases h3 : ValidL c.Log
      · rw [decide_eq_true h3, decide_eq_true (show GoodC c from ⟨h1, h2, h3⟩)]
      · rw [decide_eq_false h3, decide_eq_false (fun h : GoodC c => h3 h.2.2)]
    · rw [decide_eq_false h2, if_neg (by simp), Option.bind_some, decide_eq_false (fun h : GoodC c => h2 h.2.1)]
  · rw [decide_eq_false h1, if_neg (by simp), Option.bind_some, decide_eq_false (fun h : GoodC c => h1 h.1)]
theorem goodC_s (c : Console) (h : CB c) : s_l28Good c = some (decide (GoodC c)) := by
  unfold s_l28Good
  rw [goodT_eq h.1, Option.bind_some]
  by_cases h1 : GoodT c.Timetable
  · rw [decide_eq_true h1, if_pos rfl, lin_eq, Option.bind_some]
    by_cases h2 : 0 ≤ c.Change ∧ c.Change ≤ 30
    · rw [decide_eq_true h2, if_pos rfl, lvalid_ok _ (logB h), Option.bind_some, Option.bind_some]
      by_cases h3 : ValidL c.Log
      · rw [decide_eq_true h3, decide_eq_true (show GoodC c from ⟨h1, h2, h3⟩)]
      · rw [decide_eq_false h3, decide_eq_false (fun h : GoodC c => h3 h.2.2)]
    · rw [decide_eq_false h2, if_neg (by simp), Option.bind_some, decide_eq_false (fun h : GoodC c => h2 h.2.1)]
  · rw [decide_eq_false h1, if_neg (by simp), Option.bind_some, decide_eq_false (fun h : GoodC c => h1 h.1)]
/-! The text of a console, both ways. -/
def coT (c : Console) : List UInt8 := ofW (ttW c.Timetable) ++ [99, 104, 97, 110, 103, 101, 32] ++ Lib.itoa c.Change ++ [10]
noncomputable def coR (c : Console) : ByteArray × Bool := if GoodC c then (str (coT c), true) else (str [], false)
theorem fcI (c : Console) (h : CB c) : i_FormatConsole c = some (coR c) := by
  unfold i_FormatConsole coR
  rw [goodC_i c h, Option.bind_some]
  by_cases hg : GoodC c
  · have hl := txt_len hg.1
    have hil := (itoa_len (n := c.Change) (by have := hg.2.1.1; omega) (by have := hg.2.1.2; omega)).2
    rw [decide_eq_true hg, if_neg (by simp), if_pos hg, ftt_ok hg.1, Option.bind_some, chk_of (by rw [str_s, str_s]; simp only [List.length_append, List.length_cons, List.length_nil]; omega), Option.bind_some, iItoa (by have := hg.2.1.1; omega) (by have := hg.2.1.2; omega), Option.bind_some, str_app, chk_of (by rw [str_s, str_s]; simp only [List.length_append, List.length_cons, List.length_nil]; omega), Option.bind_some, str_app, chk_of (by rw [str_s, str_s]; simp only [List.length_append, List.length_cons, List.length_nil]; omega), Option.bind_some, str_app]
    rfl
  · rw [decide_eq_false hg, if_pos (by simp), if_neg hg]
theorem fcS (c : Console) (h : CB c) : s_FormatConsole c = some (coR c) := by
  unfold s_FormatConsole coR
  rw [goodC_s c h, Option.bind_some]
  by_cases hg : GoodC c
  · have hl := txt_len hg.1
    have hil := (itoa_len (n := c.Change) (by have := hg.2.1.1; omega) (by have := hg.2.1.2; omega)).2
    rw [decide_eq_true hg, if_neg (by simp), if_pos hg, stt_ok hg.1, Option.bind_some, chk_of (by rw [str_s, str_s]; simp only [List.length_append, List.length_cons, List.length_nil]; omega), Option.bind_some, lnumI (by have := hg.2.1.1; omega) (by have := hg.2.1.2; omega), Option.bind_some, str_app, chk_of (by rw [str_s, str_s]; simp only [List.length_append, List.length_cons, List.length_nil]; omega), Option.bind_some, str_app, chk_of (by rw [str_s, str_s]; simp only [List.length_append, List.length_cons, List.length_nil]; omega), Option.bind_some, str_app]
    rfl
  · rw [decide_eq_false hg, if_pos (by simp), if_neg hg]
theorem fconsole_true (aC : Console) (hq : QCo aC) : v_FnExactFormatConsole aC = some true := by
  unfold v_FnExactFormatConsole
  refine Tot.val (.call (szC_ok aC hq) fun r hr => .iteP (fun _ => .ok rfl) (fun k => ?_))
  have hb := hr.resolve_left k
  rw [toC_eq aC hb, Option.bind_some, fcS aC hb, Option.bind_some, Option.bind_some, fcI aC hb, Option.bind_some, if_neg (by simp), Option.bind_some, if_neg (by simp), Option.bind_some, sameC aC hb, Option.bind_some, if_neg (by simp)]
  exact .ok rfl
end Go.Proofs.YtpdjoidmbaaopaaGreatDoor
