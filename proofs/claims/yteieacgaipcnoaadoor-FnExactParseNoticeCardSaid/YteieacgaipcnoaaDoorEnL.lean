/- The plain law: what the models compute, no program in sight. -/
import Derived.Test.YteieacgaipcnoaaDoorEnM
import Derived.Test.YteieacgaipcnoaaDoorAbTot
namespace Go.Proofs.YteieacgaipcnoaaDoor
open Go Go.Ab
set_option maxHeartbeats 4000000
set_option linter.unusedVariables false
set_option linter.unusedSimpArgs false
/-! The cursor of the draws: it always answers. -/
/-! Texts: parts between bytes, no program in sight. -/
/-- The parts of a text between the occurrences of a byte. -/
def spl1 (c : UInt8) : List UInt8 → List (List UInt8)
  | [] => [[]]
  | x :: r => if x = c then [] :: spl1 c r else match spl1 c r with
    | [] => [[x]]
    | h :: t => (x :: h) :: t
theorem spl1_ne (c : UInt8) : ∀ l, spl1 c l ≠ []
  | [] => by simp [spl1]
  | x :: r => by
    unfold spl1
    split
    · simp
    · split <;> simp
theorem spl1_cons {c x : UInt8} {r : List UInt8} (h : x ≠ c) : ∃ a t, spl1 c r = a :: t ∧ spl1 c (x :: r) = (x :: a) :: t := by
  cases hs : spl1 c r with
  | nil => exact absurd hs (spl1_ne c r)
  | cons a t => exact ⟨a, t, rfl, by rw [spl1, if_neg h, hs]⟩
theorem index1_cons {c x : UInt8} {r : List UInt8} : Lib.index (x :: r) [c] = if x = c then 0 else if Lib.index r [c] = -1 then -1 else Lib.index r [c] + 1 := by
  rw [Lib.index]
  by_cases h : x = c
  · subst h; simp
  · have h1 : ([c] : List UInt8).isPrefixOf (x :: r) = false := by
      simp [List.isPrefixOf, Ne.symm h]
    rw [h1, if_neg h]
    simp only [Bool.false_eq_true, if_false, beq_iff_eq]
theorem splitK_spl1 (c : UInt8) : ∀ (l : List UInt8) (k : Nat), l.count c ≤ k → Lib.splitK [c] 0 k l = spl1 c l
  | [], k, _ => by
    cases k with
    | zero => rfl
    | succ k => rw [Lib.splitK]; simp [Lib.index, spl1]
  | x :: r, k, hk => by
    by_cases h : x = c
    · subst h
      rw [List.count_cons_self] at hk
      cases k with
      | zero => omega
      | succ k =>
        have ih := splitK_spl1 x r k (by omega)
        rw [Lib.splitK, index1_cons, if_pos rfl, spl1, if_pos rfl]
        simpa using ih
    · rw [List.count_cons_of_ne h] at hk
      have ih := splitK_spl1 c r k hk
      obtain ⟨a, t, h1, h2⟩ := spl1_cons (r := r) h
      rw [h2]
      cases k with
      | zero =>
        rw [Lib.splitK] at ih ⊢
        rw [h1] at ih
        cases ih; rfl
      | succ k =>
        rw [Lib.splitK, index1_cons, if_neg h]
        rw [Lib.splitK, h1] at ih
        by_cases hi : Lib.index r [c] = -1
        · rw [if_pos (by rw [hi]; rfl)] at ih
          rw [if_pos hi]
          cases ih
          simp
        · have hge := Lib.index_ge r [c]
          rw [if_neg (by simpa using hi)] at ih
          rw [if_neg hi, if_neg (by simp only [beq_iff_eq]; omega)]
          have e : (Lib.index r [c] + 1).toNat = (Lib.index r [c]).toNat + 1 := by omega
          rw [e]
          simp only [Nat.add_zero, List.length_cons, List.length_nil] at ih ⊢
          cases ih
          simp
theorem count1 (c : UInt8) (s : List UInt8) : Lib.count s [c] = s.count c := Lib.count_one c s
theorem splitB_one {s t : ByteArray} {c : UInt8} (h : t = ⟨#[c]⟩) : (Lib.splitB t 0 (Lib.countB s t) s).map (·.data.toList) = spl1 c s.data.toList := by
  subst h
  rw [Lib.splitB_data]
  exact splitK_spl1 c _ _ (by rw [show Lib.countB s ⟨#[c]⟩ = Lib.count s.data.toList [c] from rfl, count1]; exact Nat.le_refl _)
/-- Put together again. -/
theorem join_spl1 (c : UInt8) : ∀ l, Lib.join (spl1 c l) [c] = l
  | [] => rfl
  | x :: r => by
    have ih := join_spl1 c r
    by_cases h : x = c
    · subst h
      rw [spl1, if_pos rfl]
      cases hs : spl1 x r with
      | nil => exact absurd hs (spl1_ne x r)
      | cons a t =>
        rw [hs] at ih
        rw [Lib.join_cons] at ih ⊢
        simp only [Lib.joinTail, List.map_cons, List.flatten_cons, List.nil_append, List.singleton_append] at ih ⊢
        rw [List.cons_append, ih]
    · obtain ⟨a, t, h1, h2⟩ := spl1_cons (r := r) h
      rw [h1, Lib.join_cons] at ih
      rw [h2, Lib.join_cons, List.cons_append, ih]
theorem spl1_free (c : UInt8) : ∀ l, ∀ p ∈ spl1 c l, c ∉ p
  | [], p, hp => by simp [spl1] at hp; subst hp; simp
  | x :: r, p, hp => by
    have ih := spl1_free c r
    by_cases h : x = c
    · rw [spl1, if_pos h] at hp
      rcases List.mem_cons.1 hp with rfl | hp
      · simp
      · exact ih p hp
    · obtain ⟨a, t, h1, h2⟩ := spl1_cons (r := r) h
      rw [h2] at hp
      rw [h1] at ih
      rcases List.mem_cons.1 hp with rfl | hp
      · simp only [List.mem_cons, not_or]
        exact ⟨Ne.symm h, ih a (List.mem_cons_self ..)⟩
      · exact ih p (List.mem_cons_of_mem _ hp)
theorem spl1_app {c : UInt8} : ∀ {p : List UInt8}, c ∉ p → ∀ l, spl1 c (p ++ c :: l) = p :: spl1 c l
  | [], _, l => by rw [List.nil_append, spl1, if_pos rfl]
  | x :: p, hp, l => by
    simp only [List.mem_cons, not_or] at hp
    have ih := spl1_app hp.2 l
    rw [List.cons_append, spl1, if_neg (Ne.symm hp.1), ih]
theorem spl1_self {c : UInt8} : ∀ {p : List UInt8}, c ∉ p → spl1 c p = [p]
  | [], _ => rfl
  | x :: p, hp => by
    simp only [List.mem_cons, not_or] at hp
    rw [spl1, if_neg (Ne.symm hp.1), spl1_self hp.2]
/-- Taken apart again. -/
theorem spl1_join {c : UInt8} : ∀ {l : List (List UInt8)}, l ≠ [] → (∀ p ∈ l, c ∉ p) → spl1 c (Lib.join l [c]) = l
  | [], h, _ => absurd rfl h
  | [p], _, hp => by rw [Lib.join_one]; exact spl1_self (hp p (List.mem_cons_self ..))
  | p :: q :: r, _, hp => by
    have ih := spl1_join (l := q :: r) (by simp) (fun x hx => hp x (List.mem_cons_of_mem _ hx))
    rw [Lib.join_cons] at ih ⊢
    have e : p ++ Lib.joinTail [c] (q :: r) = p ++ c :: (q ++ Lib.joinTail [c] r) := by simp [Lib.joinTail]
    rw [e, spl1_app (hp p (List.mem_cons_self ..)), ih]
theorem contains1 (c : UInt8) (l : List UInt8) : Lib.contains l [c] = decide (c ∈ l) := by
  rw [Lib.contains]
  congr 1
  apply propext
  induction l with
  | nil => simp [Lib.index]
  | cons x r ih =>
    rw [index1_cons]
    have hge := Lib.index_ge r [c]
    by_cases h : x = c
    · subst h; simp
    · rw [if_neg h]
      simp only [List.mem_cons, Ne.symm h, false_or]
      rw [← ih]
      split <;> omega
/-- Cut at the first occurrence of a byte. -/
theorem cut1_hit {c : UInt8} : ∀ {p : List UInt8}, c ∉ p → ∀ l, Lib.cut (p ++ c :: l) [c] = (p, l, true) := by
  intro p hp l
  have hi : ∀ p : List UInt8, c ∉ p → Lib.index (p ++ c :: l) [c] = p.length := by
    intro p
    induction p with
    | nil => intro _; rw [List.nil_append, index1_cons, if_pos rfl]; rfl
    | cons x p ih =>
      intro hp
      simp only [List.mem_cons, not_or] at hp
      rw [List.cons_append, index1_cons, if_neg (Ne.symm hp.1), ih hp.2]
      simp only [List.length_cons]
      rw [if_neg (by omega)]
      omega
  rw [Lib.cut, hi p hp, if_pos (by omega)]
  have e : (p.length : Int).toNat = p.length := by omega
  rw [e]
  have e2 : p ++ c :: l = (p ++ [c]) ++ l := by simp
  refine Prod.ext ?_ (Prod.ext ?_ rfl)
  · show (p ++ c :: l).take p.length = p
    exact List.take_left' rfl
  · show (p ++ c :: l).drop (p.length + [c].length) = l
    rw [e2]
    exact List.drop_left' (by simp)
theorem cut1_miss {c : UInt8} {l : List UInt8} (h : c ∉ l) : Lib.cut l [c] = (l, [], false) := by
  have := contains1 c l
  rw [Lib.contains] at this
  rw [Lib.cut, if_neg]
  intro h0
  rw [decide_eq_true h0] at this
  exact h (of_decide_eq_true this.symm)
theorem cut1 (c : UInt8) : ∀ l : List UInt8, (c ∉ l ∧ Lib.cut l [c] = (l, [], false)) ∨ ∃ p q, c ∉ p ∧ l = p ++ c :: q ∧ Lib.cut l [c] = (p, q, true) := by
  intro l
  by_cases h : c ∈ l
  · obtain ⟨p, q, rfl, hp⟩ := List.eq_append_cons_of_mem h
    exact .inr ⟨p, q, hp, rfl, cut1_hit hp q⟩
  · exact .inl ⟨h, cut1_miss h⟩
/-! Texts as lists of bytes; numbers' texts; a test of every byte. -/
theorem bsize (x : ByteArray) : x.data.toList.length = x.size := rfl
theorem tl_eq (x : ByteArray) : x.toList = x.data.toList := by
  have h : ∀ (n i : Nat) (r : List UInt8), x.size - i = n → ByteArray.toList.loop x i r = r.reverse ++ x.data.toList.drop i := by
    intro n
    induction n with
    | zero =>
      intro i r hn
      rw [ByteArray.toList.loop, if_neg (by omega), List.drop_of_length_le (by rw [bsize]; omega), List.append_nil]
    | succ n ih =>
      intro i r hn
      have hi : i < x.data.toList.length := by rw [bsize]; omega
      rw [ByteArray.toList.loop, if_pos (by omega), ih (i + 1) _ (by omega), List.drop_eq_getElem_cons hi]
      have : x.get! i = x.data.toList[i] := by
        have h2 : i < x.data.size := by simpa using hi
        show x.data[i]! = _
        rw [getElem!_pos x.data i h2]
        simp
      rw [this]
      simp
  show ByteArray.toList.loop x 0 [] = _
  rw [h _ 0 [] rfl]
  simp
theorem str_of (x : ByteArray) : x = str x.data.toList := rfl
theorem str_l (l : List UInt8) : (str l).data.toList = l := rfl
theorem str_t (l : List UInt8) : (str l).toList = l := tl_eq _
theorem str_s (l : List UInt8) : (str l).size = l.length := rfl
theorem str_app (a b : List UInt8) : str a ++ str b = str (a ++ b) := by
  apply ByteArray.ext; simp [str]
theorem str_ext (l : List UInt8) (i j : Nat) : (str l).extract i j = str ((l.take j).drop i) := by
  apply ByteArray.ext
  simp [str, List.drop_take]
theorem str_inj {a b : List UInt8} : str a = str b ↔ a = b := ⟨fun h => congrArg (fun x : ByteArray => x.data.toList) h, fun h => by rw [h]⟩
theorem str_empty : ByteArray.empty = str [] := rfl
theorem getD_some {l : List UInt8} {i : Nat} {x : UInt8} (h : l[i]? = some x) : l.getD i 0 = x := by rw [List.getD_eq_getElem?_getD, h]; rfl
theorem beq_str (a b : List UInt8) : ((str a).toList == (str b).toList) = decide (a = b) := by
  rw [str_t, str_t]
  by_cases h : a = b <;> simp [h]
theorem u8_eq (x c : UInt8) : (((x.toNat : Nat) : Int) == ((c.toNat : Nat) : Int)) = decide (x = c) := by
  by_cases h : x = c
  · subst h; simp
  · have : ¬ (x.toNat : Int) = c.toNat := fun e => h (UInt8.toNat_inj.1 (by omega))
    simp [h, this]
/-- A separator, and what is on its two sides. -/
theorem sep_inj {c : UInt8} : ∀ {a b x y : List UInt8}, c ∉ a → c ∉ b → a ++ c :: x = b ++ c :: y → a = b ∧ x = y
  | [], [], _, _, _, _, h => by simpa using h
  | [], z :: b, _, _, _, hb, h => by
    simp only [List.nil_append, List.cons_append, List.cons.injEq] at h
    exact absurd (by rw [h.1]; exact List.mem_cons_self ..) hb
  | z :: a, [], _, _, ha, _, h => by
    simp only [List.nil_append, List.cons_append, List.cons.injEq] at h
    exact absurd (by rw [← h.1]; exact List.mem_cons_self ..) ha
  | z :: a, w :: b, x, y, ha, hb, h => by
    simp only [List.cons_append, List.cons.injEq] at h
    simp only [List.mem_cons, not_or] at ha hb
    obtain ⟨h1, h2⟩ := sep_inj ha.2 hb.2 h.2
    exact ⟨by rw [h.1, h1], h2⟩
/-- Every byte passes a test. -/
theorem all_loop {α : Type} (l : List α) (p : α → Prop) [DecidablePred p] {step : Int → Option (Lp Int (Fl Bool Unit))} (hl : l.length ≤ 4294967296) (b : Bool)
    (h1 : ∀ (i : Nat) x, l[i]? = some x → p x → step (i : Int) = some (.nx (w64 ((i : Int) + 1)))) (h2 : ∀ (i : Nat) x, l[i]? = some x → ¬ p x → step (i : Int) = some (.dn (.ret b)))
    (h3 : step (l.length : Int) = some (.dn (.go ()))) : iter step (0 : Int) = if (∀ x ∈ l, p x) then some (.go ()) else some (.ret b) := by
  have h : ∀ k i : Nat, k + i = l.length → (∀ x ∈ l.take i, p x) → iter step (i : Int) = if (∀ x ∈ l, p x) then some (.go ()) else some (.ret b) := by
    intro k
    induction k with
    | zero =>
      intro i hi hp
      have e : i = l.length := by omega
      subst e
      rw [List.take_length] at hp
      rw [iter_dn h3, if_pos hp]
    | succ k ih =>
      intro i hi hp
      obtain ⟨x, hx⟩ := get_ex (l := l) (i := i) (by omega)
      by_cases hpx : p x
      · rw [iter_nx (h1 i x hx hpx), w64_succ (by omega)]
        refine ih (i + 1) (by omega) fun y hy => ?_
        rw [take_succ hx] at hy
        rcases List.mem_append.1 hy with hy | hy
        · exact hp y hy
        · simp at hy; subst hy; exact hpx
      · rw [iter_dn (h2 i x hx hpx), if_neg (fun h => hpx (h x (List.mem_of_getElem? hx)))]
  exact h l.length 0 (by omega) (by simp)
/-- Numbers. -/
def num (n : Nat) : List UInt8 := Lib.decDigits n
theorem num_dig : ∀ (n : Nat), ∀ b ∈ num n, 48 ≤ b.toNat ∧ b.toNat ≤ 57 := by
  intro n
  induction n using Nat.strongRecOn with
  | _ n ih =>
    intro b hb
    unfold num at hb ih
    rw [Lib.decDigits] at hb
    split at hb
    · simp only [List.mem_singleton] at hb
      subst hb
      rw [UInt8.toNat_ofNat']; omega
    · rcases List.mem_append.1 hb with hb | hb
      · exact ih (n / 10) (by omega) b hb
      · simp only [List.mem_singleton] at hb
        subst hb
        rw [UInt8.toNat_ofNat']; omega
theorem num_len {n : Nat} (h : n < 1000000) : 1 ≤ (num n).length ∧ (num n).length ≤ 6 := by
  unfold num
  rw [Lib.decDigits_length]
  have h1 : ∀ n : Nat, n < 10 → Lib.nDigits n = 1 := fun n h => Lib.nDigits_small h
  have h2 : ∀ n k : Nat, ¬ n < 10 → Lib.nDigits (n / 10) ≤ k → Lib.nDigits n ≤ k + 1 := fun n k h hk => by rw [Lib.nDigits_big h]; omega
  have key : ∀ (k n : Nat), n < 10 ^ (k + 1) → Lib.nDigits n ≤ k + 1 := by
    intro k
    induction k with
    | zero => intro n h; rw [h1 n (by simpa using h)]; omega
    | succ k ih =>
      intro n h
      by_cases h0 : n < 10
      · rw [h1 n h0]; omega
      · exact h2 n _ h0 (ih (n / 10) (by rw [Nat.pow_succ] at h; omega))
  exact ⟨Lib.nDigits_pos n, key 5 n (by simpa using h)⟩
theorem num_no {c : UInt8} (hc : c.toNat < 48 ∨ 57 < c.toNat) (n : Nat) : c ∉ num n := fun h => by
  have := num_dig n c h
  omega
theorem dd_big {u : Nat} (h : ¬ u < 10) : Lib.decDigits u = Lib.decDigits (u / 10) ++ [UInt8.ofNat (48 + u % 10)] := by
  rw [Lib.decDigits, dif_neg h]
theorem num_inj : ∀ {a b : Nat}, num a = num b → a = b := by
  intro a
  induction a using Nat.strongRecOn with
  | _ a ih =>
    intro b h
    unfold num at h ih
    have hl := congrArg List.length h
    rw [Lib.decDigits_length, Lib.decDigits_length] at hl
    by_cases ha : a < 10
    · by_cases hb : b < 10
      · rw [Lib.decDigits_one ha, Lib.decDigits_one hb] at h
        simp only [List.cons.injEq, and_true] at h
        have := congrArg UInt8.toNat h
        rw [UInt8.toNat_ofNat', UInt8.toNat_ofNat'] at this; omega
      · rw [Lib.nDigits_small ha, Lib.nDigits_big hb] at hl
        have := Lib.nDigits_pos (b / 10); omega
    · by_cases hb : b < 10
      · rw [Lib.nDigits_small hb, Lib.nDigits_big ha] at hl
        have := Lib.nDigits_pos (a / 10); omega
      · rw [dd_big ha, dd_big hb] at h
        rw [Lib.nDigits_big ha, Lib.nDigits_big hb] at hl
        obtain ⟨h1, h2⟩ := List.append_inj h (by rw [Lib.decDigits_length, Lib.decDigits_length]; omega)
        have h3 := ih (a / 10) (by omega) h1
        simp only [List.cons.injEq, and_true] at h2
        have := congrArg UInt8.toNat h2
        rw [UInt8.toNat_ofNat', UInt8.toNat_ofNat'] at this; omega
theorem itoa_num {n : Int} (h0 : 0 ≤ n) (h1 : n < 1000000) : strconv_Itoa n = some (str (num n.toNat)) := by
  unfold strconv_Itoa itoaM
  rw [if_pos (by omega)]
  unfold Lib.itoa
  rw [if_neg (by omega)]
  rfl
theorem dig_ext {n : Int} (h0 : 0 ≤ n) (h1 : n < 10) : (str [48, 49, 50, 51, 52, 53, 54, 55, 56, 57]).extract n.toNat (w64 (n + 1)).toNat = str [UInt8.ofNat (48 + n.toNat)] := by
  rw [w64_id (by omega)]
  have : n = 0 ∨ n = 1 ∨ n = 2 ∨ n = 3 ∨ n = 4 ∨ n = 5 ∨ n = 6 ∨ n = 7 ∨ n = 8 ∨ n = 9 := by omega
  rcases this with rfl | rfl | rfl | rfl | rfl | rfl | rfl | rfl | rfl | rfl <;> rw [str_ext] <;> rfl
theorem lnum_k : ∀ (d : Nat) (k : Nat) (n : Int), 0 ≤ n → n < 10 ^ (d + 1) → d ≤ 8 → d < k → s_l1Num_k k n = some (str (num n.toNat))
  | d, k, n, h0, h1, hd, hk => by
    obtain ⟨k, rfl⟩ : ∃ j, k = j + 1 := ⟨k - 1, by omega⟩
    have hb : n < 1000000000 := by
      have h9 : (10 : Nat) ^ (d + 1) ≤ 10 ^ 9 := Nat.pow_le_pow_right (by decide) (by omega)
      have h10 : ((10 ^ (d + 1) : Nat) : Int) = (10 : Int) ^ (d + 1) := by simp
      omega
    show s_l1Num_F (s_l1Num_k k) n = _
    unfold s_l1Num_F
    by_cases hn : n < 10
    · have e2 : decide (n < 0) = false := decide_eq_false (by omega)
      simp only [e2, hn, decide_true, Bool.false_eq_true, if_false, if_true]
      rw [chk_of (by rw [w64_id (by omega)]; exact ⟨h0, by omega, by show n + 1 ≤ 10; omega⟩), Option.bind_some, dig_ext h0 hn]
      unfold num
      rw [Lib.decDigits_one (by omega)]
    · match d, h1, hd, hk with
      | 0, h1, _, _ => simp at h1; omega
      | d + 1, h1, hd, hk =>
        have e2 : decide (n < 0) = false := decide_eq_false (by omega)
        have e3 : decide (n < 10) = false := decide_eq_false hn
        have et : n.tdiv 10 = n / 10 := Int.tdiv_eq_ediv_of_nonneg h0
        have em : n.tmod 10 = n % 10 := Int.tmod_eq_emod_of_nonneg h0
        have ew : w64 (n.tdiv 10) = n / 10 := by rw [et, w64_id (by omega)]
        have hr := lnum_k d k (n / 10) (by omega) (by rw [Int.pow_succ] at h1; omega) (by omega) (by omega)
        have hm0 : 0 ≤ n % 10 := by omega
        have hm1 : n % 10 < 10 := by omega
        simp only [e2, e3, Bool.false_eq_true, if_false, ew, hr, em]
        have c10 : chk ((10 : Int) ≠ 0) = some () := chk_of (by decide)
        simp only [c10, Option.bind_some]
        rw [chk_of (by rw [w64_id (by omega)]; exact ⟨hm0, by omega, by show n % 10 + 1 ≤ 10; omega⟩), Option.bind_some, dig_ext hm0 hm1]
        have hlen : (num (n / 10).toNat).length ≤ 100 := by
          unfold num
          rw [Lib.decDigits_length]
          have key : ∀ (k n : Nat), n < 10 ^ (k + 1) → Lib.nDigits n ≤ k + 1 := by
            intro k
            induction k with
            | zero => intro n h; rw [Lib.nDigits_small (by simpa using h)]; omega
            | succ k ih =>
              intro n h
              by_cases h0 : n < 10
              · rw [Lib.nDigits_small h0]; omega
              · rw [Lib.nDigits_big h0]
                have := ih (n / 10) (by rw [Nat.pow_succ] at h; omega)
                omega
          have := key 9 (n / 10).toNat (by omega)
          omega
        rw [chk_of (by rw [str_s, str_s]; simp; omega), Option.bind_some, str_app]
        unfold num
        rw [dd_big (u := n.toNat) (by omega)]
        have e5 : (n / 10).toNat = n.toNat / 10 := by omega
        have e6 : (n % 10).toNat = n.toNat % 10 := by omega
        rw [e5, e6]
theorem lnum_ok {n : Int} (h0 : 0 ≤ n) (h1 : n < 1000000) : s_l1Num n = some (str (num n.toNat)) := by
  unfold s_l1Num
  exact lnum_k 5 4294967296 n h0 (by simpa using h1) (by omega) (by omega)
/-! Numbers, sums, seals. -/
theorem lin_eq (x a b : Int) : s_l1In x a b = some (decide (a ≤ x ∧ x ≤ b)) := by
  unfold s_l1In
  by_cases h1 : a ≤ x <;> by_cases h2 : x ≤ b <;> simp [h1, h2]
def sumF (i : Int) (b : UInt8) : Int := (41 * i + b.toNat + 1).tmod 999979
def sumL (l : List UInt8) : Int := l.foldl sumF 7
theorem sumF_rng {i : Int} (h : 0 ≤ i) (b : UInt8) : 0 ≤ sumF i b ∧ sumF i b < 999979 := by
  unfold sumF
  exact tmod_rng (by omega) (by omega)
theorem sum_rng : ∀ (l : List UInt8) (a : Int), 0 ≤ a ∧ a < 999979 → 0 ≤ l.foldl sumF a ∧ l.foldl sumF a < 999979
  | [], a, h => h
  | b :: l, a, h => sum_rng l _ (sumF_rng h.1 b)
def tail (l : List UInt8) : List UInt8 := l ++ 35 :: num (sumL l).toNat
theorem sumN (l : List UInt8) : 0 ≤ sumL l ∧ sumL l < 1000000 := by
  have := sum_rng l 7 (by omega)
  unfold sumL; omega
theorem tail_len (l : List UInt8) : l.length + 2 ≤ (tail l).length ∧ (tail l).length ≤ l.length + 7 := by
  have h := sumN l
  have := num_len (n := (sumL l).toNat) (by omega)
  unfold tail; simp; omega
theorem itoa_n {n : Int} (h : 0 ≤ n) : Lib.itoa n = num n.toNat := by
  unfold Lib.itoa; rw [if_neg (by omega)]; rfl
theorem itoa_nat (n : Nat) : Lib.itoa (n : Int) = num n := by rw [itoa_n (by omega)]; rfl
theorem itoa_len {n : Int} (h0 : -1000000 < n) (h1 : n < 1000000) : 1 ≤ (Lib.itoa n).length ∧ (Lib.itoa n).length ≤ 7 := by
  unfold Lib.itoa
  split
  · have := num_len (n := n.natAbs) (by omega)
    unfold num at this; simp; omega
  · have := num_len (n := n.toNat) (by omega)
    unfold num at this; omega
theorem lnumI {n : Int} (h0 : -1000000 < n) (h1 : n < 1000000) : s_l1Num n = some (str (Lib.itoa n)) := by
  by_cases hn : n < 0
  · have e : s_l1Num n = s_l1Num_F (s_l1Num_k 4294967295) n := by
      unfold s_l1Num
      show s_l1Num_k (4294967295 + 1) n = _
      rfl
    rw [e]
    unfold s_l1Num_F
    have ew : w64 (0 - n) = -n := by rw [w64_id (by omega)]; omega
    have hl := num_len (n := (-n).toNat) (by omega)
    simp only [hn, decide_true, if_true, ew]
    rw [lnum_k 5 4294967295 (-n) (by omega) (by simp; omega) (by omega) (by omega), Option.bind_some, chk_of (by rw [str_s, str_s]; simp; omega), Option.bind_some, str_app]
    unfold Lib.itoa
    rw [if_pos hn, show n.natAbs = (-n).toNat by omega]
    rfl
  · rw [lnum_ok (by omega) h1, itoa_n (by omega)]
theorem iItoa {n : Int} (h0 : -1000000 < n) (h1 : n < 1000000) : strconv_Itoa n = some (str (Lib.itoa n)) := by
  unfold strconv_Itoa itoaM
  rw [if_pos (by omega)]
  rfl
def valD (l : List UInt8) : Nat := l.foldl (fun a b => 10 * a + (b.toNat - 48)) 0
def Dig (b : UInt8) : Prop := 48 ≤ b.toNat ∧ b.toNat ≤ 57
def CanD (d : List UInt8) : Prop := d ≠ [] ∧ (∀ b ∈ d, Dig b) ∧ (2 ≤ d.length → d.head? ≠ some 48)
def NoDig (l : List UInt8) : Prop := ∀ b, l.head? = some b → ¬ Dig b
theorem valD_snoc (l : List UInt8) (b : UInt8) : valD (l ++ [b]) = 10 * valD l + (b.toNat - 48) := by unfold valD; simp
theorem valD_lt : ∀ (k : Nat) (l : List UInt8), l.length = k → (∀ b ∈ l, Dig b) → valD l < 10 ^ k := by
  intro k
  induction k with
  | zero => intro l hl _; have : l = [] := List.length_eq_zero_iff.1 hl; subst this; simp [valD]
  | succ k ih =>
    intro l hl hd
    obtain ⟨a, b, rfl⟩ : ∃ a b, l = a ++ [b] := ⟨l.dropLast, l.getLast (by intro e; simp [e] at hl), (List.dropLast_concat_getLast _).symm⟩
    have h1 := ih a (by simpa using hl) (fun x hx => hd x (List.mem_append_left _ hx))
    have h2 := hd b (by simp)
    rw [valD_snoc, Nat.pow_succ]
    have := h2.2
    omega
theorem num_val : ∀ (k : Nat) (d : List UInt8), d.length = k + 1 → (∀ b ∈ d, Dig b) → (2 ≤ d.length → d.head? ≠ some 48) → num (valD d) = d := by
  intro k
  induction k with
  | zero =>
    intro d hl hd _
    match d, hl with
    | [b], _ =>
      have h := hd b (by simp)
      have hv : valD [b] = b.toNat - 48 := by simp [valD]
      rw [hv]
      unfold num
      rw [Lib.decDigits_one (by have := h.2; omega)]
      congr 1
      rw [show 48 + (b.toNat - 48) = b.toNat by have := h.1; omega]
      exact UInt8.ofNat_toNat
  | succ k ih =>
    intro d hl hd hh
    obtain ⟨a, b, rfl⟩ : ∃ a b, d = a ++ [b] := ⟨d.dropLast, d.getLast (by intro e; simp [e] at hl), (List.dropLast_concat_getLast _).symm⟩
    have hal : a.length = k + 1 := by simpa using hl
    have hha : a.head? = (a ++ [b]).head? := by
      cases a with
      | nil => simp at hal
      | cons x a => rfl
    have hne : a.head? ≠ some 48 := by rw [hha]; exact hh (by simp; omega)
    have h1 := ih a hal (fun x hx => hd x (List.mem_append_left _ hx)) (fun _ => hne)
    have hb := hd b (by simp)
    have hpos : 1 ≤ valD a := by
      apply Classical.byContradiction
      intro hn
      have h0 : valD a = 0 := by omega
      rw [h0] at h1
      unfold num at h1
      rw [Lib.decDigits_one (by omega)] at h1
      rw [← h1] at hne
      exact hne rfl
    rw [valD_snoc]
    unfold num at h1 ⊢
    have h2 := hb.1; have h3 := hb.2
    rw [dd_big (by omega), show (10 * valD a + (b.toNat - 48)) / 10 = valD a by omega, show (10 * valD a + (b.toNat - 48)) % 10 = b.toNat - 48 by omega, h1]
    congr 2
    rw [show 48 + (b.toNat - 48) = b.toNat by omega]
    exact UInt8.ofNat_toNat
theorem num_head : ∀ (n : Nat), 10 ≤ n → (num n).head? ≠ some 48 := by
  intro n
  induction n using Nat.strongRecOn with
  | _ n ih =>
    intro hn
    unfold num at ih ⊢
    rw [dd_big (by omega)]
    by_cases h : n / 10 < 10
    · rw [Lib.decDigits_one h]
      simp only [List.cons_append, List.head?_cons, ne_eq, Option.some.injEq]
      intro e
      have := congrArg UInt8.toNat e
      rw [UInt8.toNat_ofNat'] at this
      simp at this; omega
    · have := ih (n / 10) (by omega) (by omega)
      have hp := Lib.nDigits_pos (n / 10)
      rw [← Lib.decDigits_length] at hp
      cases hd : Lib.decDigits (n / 10) with
      | nil => rw [hd] at hp; simp at hp
      | cons x r => rw [hd] at this; simpa using this
theorem num_can (n : Nat) : CanD (num n) := by
  refine ⟨?_, fun b hb => num_dig n b hb, fun h2 => ?_⟩
  · intro e
    have hp := Lib.nDigits_pos n
    rw [← Lib.decDigits_length] at hp
    unfold num at e
    rw [e] at hp; simp at hp
  · by_cases h : n < 10
    · unfold num at h2
      rw [Lib.decDigits_one h] at h2; simp at h2
    · exact num_head n (by omega)
theorem can_num {d : List UInt8} (h : CanD d) : num (valD d) = d := by
  have hp := List.length_pos_iff.2 h.1
  exact num_val (d.length - 1) d (by omega) h.2.1 h.2.2
theorem val_num (n : Nat) : valD (num n) = n := num_inj (can_num (num_can n))
theorem dig_inj : ∀ {a b x y : List UInt8}, (∀ c ∈ a, Dig c) → (∀ c ∈ b, Dig c) → NoDig x → NoDig y → a ++ x = b ++ y → a = b ∧ x = y
  | [], [], _, _, _, _, _, _, h => ⟨rfl, by simpa using h⟩
  | [], z :: b, x, y, _, hb, hx, _, h => by
    simp only [List.nil_append, List.cons_append] at h
    exact absurd (hb z (by simp)) (hx z (by rw [h]; rfl))
  | z :: a, [], x, y, ha, _, _, hy, h => by
    simp only [List.nil_append, List.cons_append] at h
    exact absurd (ha z (by simp)) (hy z (by rw [← h]; rfl))
  | z :: a, w :: b, x, y, ha, hb, hx, hy, h => by
    simp only [List.cons_append, List.cons.injEq] at h
    obtain ⟨h1, h2⟩ := dig_inj (fun c hc => ha c (List.mem_cons_of_mem _ hc)) (fun c hc => hb c (List.mem_cons_of_mem _ hc)) hx hy h.2
    exact ⟨by rw [h.1, h1], h2⟩
theorem num_split {n m : Nat} {x y : List UInt8} (hx : NoDig x) (hy : NoDig y) (h : num n ++ x = num m ++ y) : n = m ∧ x = y := by
  obtain ⟨h1, h2⟩ := dig_inj (num_can n).2.1 (num_can m).2.1 hx hy h
  exact ⟨num_inj h1, h2⟩
theorem natural_ok (s : List UInt8) (hs : s.length ≤ 2000000) :
    Tot (i_natural (str s)) fun r => (r.2.2 = true → ∃ (n : Nat) (rest : List UInt8), n < 1000000 ∧ s = num n ++ rest ∧ NoDig rest ∧ r.1 = (n : Int) ∧ r.2.1 = str rest) ∧ (∀ (n : Nat) rest, n < 1000000 → s = num n ++ rest → NoDig rest → r = ((n : Int), str rest, true)) := by
  have hl : Tot (iter (i_natural_L1 (str s)) ((0 : Int), (0 : Int))) fun r =>
      (∃ n : Nat, n ≤ 6 ∧ n ≤ s.length ∧ r = .go ((valD (s.take n) : Int), (n : Int)) ∧ (∀ b ∈ s.take n, Dig b) ∧ NoDig (s.drop n) ∧ (2 ≤ n → s.head? ≠ some 48)) ∨
      (r = .ret (0, str [], false) ∧ ∃ n : Nat, (∀ b ∈ s.take (n + 1), Dig b) ∧ n + 1 ≤ s.length ∧ (n = 6 ∨ n = 1 ∧ s.head? = some 48)) := by
    refine Tot.iter (fun k a => ∃ n : Nat, k + n = s.length ∧ n ≤ 6 ∧ a = ((valD (s.take n) : Int), (n : Int)) ∧ (∀ b ∈ s.take n, Dig b) ∧ (2 ≤ n → s.head? ≠ some 48)) (n := s.length) ⟨0, rfl, by omega, rfl, by simp, by omega⟩ ?_
    rintro k _ ⟨n, hk, hn6, rfl, hd, hh⟩
    have hvl : valD (s.take n) < 10 ^ n := valD_lt n _ (by simp; omega) hd
    have hv6 : valD (s.take n) < 1000000 := Nat.lt_of_lt_of_le hvl (Nat.pow_le_pow_right (by omega) hn6)
    unfold i_natural_L1
    dsimp only
    rw [str_s, str_l, show (n : Int).toNat = n by omega]
    refine .call (P := fun b => b = true ↔ ∃ x, s[n]? = some x ∧ Dig x) (.iteP (fun hlt => ?_) (fun hge => .ok ?_)) fun b hb => .ite (fun h => ?_) (fun h => .dn (.inl ⟨n, hn6, by omega, rfl, hd, fun b' hb' => ?_, hh⟩))
    · obtain ⟨x, hx⟩ := get_ex (l := s) (i := n) (by omega)
      rw [getD_some hx]
      refine .chk ⟨by omega, by omega⟩ (.iteP (fun h1 => .chk ⟨by omega, by omega⟩ (.ok ?_)) (fun h1 => .ok ?_))
      · rw [decide_eq_true_eq]
        constructor
        · intro h2; exact ⟨x, hx, by omega, by omega⟩
        · rintro ⟨y, hy, h2⟩; rw [hx] at hy; cases hy; have := h2.2; omega
      · constructor
        · intro h2; cases h2
        · rintro ⟨y, hy, h2⟩; rw [hx] at hy; cases hy; have := h2.1; omega
    · constructor
      · intro h2; cases h2
      · rintro ⟨y, hy, h2⟩; have := get_lt hy; omega
    · obtain ⟨x, hx, hdx⟩ := hb.1 h
      have hlt := get_lt hx
      have hd1 : ∀ b ∈ s.take (n + 1), Dig b := fun b hb' => by
        rw [take_succ hx] at hb'
        rcases List.mem_append.1 hb' with hb' | hb'
        · exact hd b hb'
        · simp at hb'; subst hb'; exact hdx
      refine .call (P := fun v => v = true ↔ (n = 6 ∨ n = 1 ∧ valD (s.take n) = 0)) (.ite (fun h1 => .ok ?_) (fun h1 => .ite (fun h2 => .ok ?_) (fun h2 => .ok ?_))) fun v hv => .ite (fun h3 => .dn (.inr ⟨rfl, n, hd1, by omega, ?_⟩)) (fun h3 => ?_)
      · have := eq_of_beq h1; simp only [true_iff]; omega
      · have e1 : n = 1 := by have := eq_of_beq h2; omega
        simp only [beq_iff_eq, e1, true_and]
        constructor
        · intro h; right; omega
        · intro h; omega
      · have e1 : ¬ n = 6 := fun e => by rw [e] at h1; simp at h1
        have e2 : ¬ n = 1 := fun e => by rw [e] at h2; simp at h2
        simp [e1, e2]
      · rcases hv.1 h3 with h4 | ⟨h4, h5⟩
        · exact .inl h4
        · right
          refine ⟨h4, ?_⟩
          subst h4
          match s, hlt with
          | z :: r, _ =>
            have hz := hd z (by simp)
            have : valD [z] = z.toNat - 48 := by simp [valD]
            simp only [List.take_succ_cons, List.take_zero] at h5
            rw [this] at h5
            have h6 := hz.1
            have : z = 48 := UInt8.toNat_inj.1 (by show z.toNat = 48; omega)
            rw [this]; rfl
      · have hnv : ¬ (n = 6 ∨ n = 1 ∧ valD (s.take n) = 0) := fun hh => by have := hv.2 hh; rw [h3] at this; cases this
        rw [getD_some hx]
        have h6 := hdx.1; have h7 := hdx.2
        refine .chk ⟨by omega, by omega⟩ (.nx ⟨k - 1, by omega, n + 1, by omega, by omega, ?_, hd1, fun h2 => ?_⟩)
        · rw [IntKind.wrap_u8, w64_id (x := (valD (s.take n) : Int) * 10) (by omega), w64_id (x := ((x.toNat : Int) - 48) % 256) (by omega), w64_id (by omega), w64_succ (by omega), take_succ hx, valD_snoc]
          refine Prod.ext ?_ rfl
          show (_ : Int) = _
          omega
        · by_cases h8 : 2 ≤ n
          · exact hh h8
          · have e1 : n = 1 := by omega
            subst e1
            intro he
            apply hnv
            right
            refine ⟨rfl, ?_⟩
            match s, hlt, he with
            | z :: r, _, he =>
              simp only [List.head?_cons, Option.some.injEq] at he
              subst he
              rfl
    · intro hdb
      have : s[n]? = some b' := by rw [← List.head?_drop]; exact hb'
      have := hb.2 ⟨b', this, hdb⟩
      rw [h] at this; cases this
  unfold i_natural
  obtain ⟨r, hr, ⟨n, hn6, hnl, rfl, hd, hnd, hh⟩ | ⟨rfl, n, hd, hnl, hcase⟩⟩ := hl
  · rw [hr]
    have hvl : valD (s.take n) < 10 ^ n := valD_lt n _ (by simp; omega) hd
    have hv6 : valD (s.take n) < 1000000 := Nat.lt_of_lt_of_le hvl (Nat.pow_le_pow_right (by omega) hn6)
    have hst : s = s.take n ++ s.drop n := (List.take_append_drop n s).symm
    have ee : (str s).extract (n : Int).toNat (str s).size = str (s.drop n) := by rw [str_ext, str_s, List.take_length]; rfl
    refine ⟨((valD (s.take n) : Int), str (s.drop n), decide (0 < n)), ?_, fun h => ?_, fun m rest hm he hn => ?_⟩
    · show ((chk ((0 : Int) ≤ (n : Int) ∧ (n : Int) ≤ ((str s).size : Int))).bind _) = _
      rw [chk_of (by rw [str_s]; omega), Option.bind_some, ee]
      congr 3
      exact decide_eq_decide.2 (by omega)
    · have h0 : 0 < n := of_decide_eq_true h
      have hc : CanD (s.take n) := ⟨by intro e; have := congrArg List.length e; rw [List.length_take, List.length_nil] at this; omega, hd, fun h2 => by
        have e1 : (s.take n).head? = s.head? := by
          cases s with
          | nil => simp at hnl; omega
          | cons z r => obtain ⟨m, rfl⟩ : ∃ m, n = m + 1 := ⟨n - 1, by omega⟩; rfl
        rw [e1]; exact hh (by simp at h2; omega)⟩
      exact ⟨_, s.drop n, hv6, by rw [can_num hc]; exact hst, hnd, rfl, rfl⟩
    · rw [he] at hst
      obtain ⟨h1, h2⟩ := dig_inj (num_can m).2.1 (by rw [he] at hd; exact hd) hn (by rw [he] at hnd; exact hnd) hst
      rw [he, ← h1, ← h2, val_num]
      have h3 := congrArg List.length h1
      have h4 := (num_len hm).1
      simp at h3
      rw [decide_eq_true (by omega)]
  · rw [hr]
    refine ⟨(0, str [], false), rfl, fun h => (by cases h), fun m rest hm he hn => ?_⟩
    exfalso
    have hml := num_len hm
    have hle : n + 1 ≤ (num m).length := by
      apply Classical.byContradiction
      intro hlt
      have e1 : s.take (n + 1) = num m ++ rest.take (n + 1 - (num m).length) := by rw [he, List.take_append, List.take_of_length_le (by omega)]
      have hln := congrArg List.length e1
      simp at hln
      cases rest with
      | nil => rw [he] at hnl; simp at hnl; omega
      | cons z r =>
        refine hn z rfl (hd z ?_)
        rw [e1]
        obtain ⟨j, hj⟩ : ∃ j, n + 1 - (num m).length = j + 1 := ⟨n - (num m).length, by omega⟩
        rw [hj]
        simp
    rcases hcase with h6 | ⟨h6, h7⟩
    · omega
    · have hc := (num_can m).2.2 (by omega)
      apply hc
      rw [← h7, he]
      cases hx : num m with
      | nil => rw [hx] at hle; simp at hle
      | cons z r => rfl
theorem lread_loop (l : List UInt8) (hl : l.length ≤ 6) : iter (s_l1Read_L1 (str l)) ((0 : Int), (0 : Int)) = some (.go (valD l : Int)) ∧ (∀ b ∈ l, Dig b) ∨ iter (s_l1Read_L1 (str l)) ((0 : Int), (0 : Int)) = some (.ret (0, false)) ∧ ¬ ∀ b ∈ l, Dig b := by
  have h : Tot (iter (s_l1Read_L1 (str l)) ((0 : Int), (0 : Int))) fun r => (r = .go (valD l : Int) ∧ ∀ b ∈ l, Dig b) ∨ (r = .ret (0, false) ∧ ¬ ∀ b ∈ l, Dig b) := by
    refine Tot.iter (fun k a => ∃ n : Nat, k + n = l.length ∧ a = ((valD (l.take n) : Int), (n : Int)) ∧ ∀ b ∈ l.take n, Dig b) (n := l.length) ⟨0, rfl, rfl, by simp⟩ ?_
    rintro k _ ⟨n, hk, rfl, hd⟩
    have hvl : valD (l.take n) < 10 ^ n := valD_lt n _ (by simp; omega) hd
    have hv6 : valD (l.take n) < 1000000 := Nat.lt_of_lt_of_le hvl (Nat.pow_le_pow_right (by omega) (by omega : n ≤ 6))
    unfold s_l1Read_L1
    dsimp only
    rw [str_s, str_l, show (n : Int).toNat = n by omega]
    refine .iteP (fun hlt => ?_) (fun hge => .dn (.inl ?_))
    · obtain ⟨x, hx⟩ := get_ex (l := l) (i := n) (by omega)
      rw [getD_some hx]
      have hb := x.toNat_lt
      refine .chk ⟨by omega, by omega⟩ (.call (P := fun v => v = true ↔ ¬ Dig x) (.iteP (fun h => .ok ?_) (fun h => .chk ⟨by omega, by omega⟩ (.ok ?_))) fun v hv => .ite (fun h => .dn (.inr ⟨rfl, fun hh => hv.1 h (hh x (List.mem_of_getElem? hx))⟩)) (fun h => ?_))
      · simp only [true_iff]; intro hh; have := hh.1; omega
      · rw [decide_eq_true_eq]
        constructor
        · intro h2 hh; have := hh.2; omega
        · intro hh
          apply Classical.byContradiction
          intro h2
          exact hh ⟨by omega, by omega⟩
      · have hdx : Dig x := Classical.byContradiction fun hn => by have := hv.2 hn; rw [h] at this; cases this
        have h6 := hdx.1; have h7 := hdx.2
        refine .chk ⟨by omega, by omega⟩ (.nx ⟨k - 1, by omega, n + 1, by omega, ?_, fun b hb' => ?_⟩)
        · rw [IntKind.wrap_u8, w64_id (x := 10 * (valD (l.take n) : Int)) (by omega), w64_id (x := ((x.toNat : Int) - 48) % 256) (by omega), w64_id (by omega), w64_succ (by omega), take_succ hx, valD_snoc]
          refine Prod.ext ?_ rfl
          show (_ : Int) = _
          omega
        · rw [take_succ hx] at hb'
          rcases List.mem_append.1 hb' with hb' | hb'
          · exact hd b hb'
          · simp at hb'; subst hb'; exact hdx
    · have e : n = l.length := by omega
      subst e
      rw [List.take_length] at hd ⊢
      exact ⟨rfl, hd⟩
  obtain ⟨r, hr, ⟨rfl, h⟩ | ⟨rfl, h⟩⟩ := h
  · exact .inl ⟨hr, h⟩
  · exact .inr ⟨hr, h⟩
/-! Texts: the law. -/
def InI (n : Int) : Prop := -1000000 < n ∧ n < 1000000
def PI (s : List UInt8) (r : Int × Bool) : Prop := (∃ n, InI n ∧ s = Lib.itoa n ∧ r = (n, true)) ∨ (r = (0, false) ∧ ¬ ∃ n, InI n ∧ s = Lib.itoa n)
theorem itoa_neg {n : Int} (h : n < 0) : Lib.itoa n = 45 :: num (-n).toNat := by
  unfold Lib.itoa
  rw [if_pos h, show n.natAbs = (-n).toNat by omega]; rfl
theorem num_first (n : Nat) : ∃ b r, num n = b :: r ∧ Dig b := by
  have hc := num_can n
  cases hx : num n with
  | nil => exact absurd hx hc.1
  | cons b r => exact ⟨b, r, rfl, hc.2.1 b (by rw [hx]; simp)⟩
theorem itoa_inj {a b : Int} (h : Lib.itoa a = Lib.itoa b) : a = b := by
  by_cases ha : a < 0
  · rw [itoa_neg ha] at h
    by_cases hb : b < 0
    · rw [itoa_neg hb] at h
      simp only [List.cons.injEq, true_and] at h
      have := num_inj h; omega
    · rw [itoa_n (by omega)] at h
      obtain ⟨c, r, hc, hd⟩ := num_first b.toNat
      rw [hc] at h
      simp only [List.cons.injEq] at h
      have := hd.1; rw [← h.1] at this; simp at this
  · rw [itoa_n (by omega)] at h
    by_cases hb : b < 0
    · rw [itoa_neg hb] at h
      obtain ⟨c, r, hc, hd⟩ := num_first a.toNat
      rw [hc] at h
      simp only [List.cons.injEq] at h
      have := hd.1; rw [h.1] at this; simp at this
    · rw [itoa_n (by omega)] at h
      have := num_inj h; omega
theorem num_small {n : Nat} (h : (num n).length ≤ 6) : n < 1000000 := by
  have := valD_lt _ (num n) rfl (num_can n).2.1
  rw [val_num] at this
  exact Nat.lt_of_lt_of_le this (Nat.pow_le_pow_right (by omega) h)
theorem cutp_ok (s : List UInt8) : strings_CutPrefix (str s) (str [45]) = some (if s.head? = some 45 then (str (s.drop 1), true) else (str s, false)) := by
  unfold strings_CutPrefix cutPrefixM Lib.trimPrefix Lib.hasPrefix
  rw [str_l, str_l]
  cases s with
  | nil => simp [List.isPrefixOf, str]
  | cons b r =>
    by_cases h : b = 45
    · subst h; simp [List.isPrefixOf, str]
    · simp [List.isPrefixOf, h, Ne.symm h, str]
theorem nodig_nil : NoDig [] := fun b hb => by cases hb
theorem ipi_ok (s : List UInt8) (hs : s.length ≤ 1500000) : Tot (i_ParseInt (str s)) (PI s) := by
  unfold i_ParseInt
  rw [cutp_ok, Option.bind_some]
  have key : ∀ (t : List UInt8) (neg : Bool), t.length ≤ 1500000 → (∀ n, InI n → s = Lib.itoa n → (if neg = true then n < 0 else 0 ≤ n) ∧ t = num n.natAbs) → (∀ m : Nat, m < 1000000 → t = num m → (neg = true → m ≠ 0) → s = Lib.itoa (if neg = true then -(m : Int) else m)) →
      Tot ((i_natural (str t)).bind fun r1 => (if (!r1.2.2) = true then some true else if (!(r1.2.1.toList == (str []).toList)) = true then some true else if neg = true then some (r1.1 == 0) else some false).bind fun (v : Bool) =>
        if v = true then some ((0 : Int), false) else (if neg = true then some (w64 (0 - r1.1)) else some r1.1).bind fun (rest : Int) => some (rest, true)) (PI s) := by
    intro t neg ht h1 h2
    refine .call (natural_ok t (by omega)) fun ⟨v, rs, ok⟩ ⟨a1, a2⟩ => ?_
    dsimp only at a1 a2 ⊢
    have hno : ∀ n, InI n → s = Lib.itoa n → (v, rs, ok) = (((n.natAbs : Nat) : Int), str [], true) := by
      intro n hn he
      have h3 := h1 n hn he
      unfold InI at hn
      exact a2 n.natAbs [] (by omega) (by rw [h3.2, List.append_nil]) nodig_nil
    refine .call (P := fun b => b = true ↔ ¬ (ok = true ∧ rs = str [] ∧ (neg = true → v ≠ 0))) (.ite (fun h => .ok ?_) (fun h => ?_)) fun b hb => .ite (fun h => .ok (.inr ⟨rfl, fun ⟨n, hn, he⟩ => hb.1 h ?_⟩)) (fun h => ?_)
    · simp only [true_iff]; intro hh; rw [hh.1] at h; simp at h
    · have hok : ok = true := by cases ok <;> simp_all
      obtain ⟨l, hl⟩ : ∃ l, rs = str l := ⟨rs.data.toList, rfl⟩
      rw [hl, beq_str]
      refine .iteN (fun hne => .ok ?_) (fun he => ?_)
      · simp only [true_iff]
        intro hh; exact hne (str_inj.1 hh.2.1)
      · subst he
        cases neg
        · simp only [Bool.false_eq_true, if_false]
          exact .ok (by simp [hok])
        · simp only [if_true]
          refine .ok ?_
          by_cases h0 : v = 0
          · simp [h0]
          · simp [h0, hok]
    · have h3 := hno n hn he
      simp only [Prod.mk.injEq] at h3
      refine ⟨h3.2.2, h3.2.1, fun hneg hv => ?_⟩
      have h4 := (h1 n hn he).1
      rw [if_pos hneg] at h4
      omega
    · obtain ⟨b1, b2, b3⟩ : ok = true ∧ rs = str [] ∧ (neg = true → v ≠ 0) := Classical.byContradiction fun hn => by have := hb.2 hn; rw [h] at this; cases this
      obtain ⟨m, rest, m1, m2, m3, m4, m5⟩ := a1 b1
      rw [b2] at m5
      have := str_inj.1 m5
      subst this
      rw [List.append_nil] at m2
      subst m4
      have hsm := h2 m m1 m2 (fun hn h0 => b3 hn (by omega))
      cases neg
      · simp only [Bool.false_eq_true, if_false, Option.bind_some]
        exact .ok (.inl ⟨m, by unfold InI; omega, by simpa using hsm, rfl⟩)
      · simp only [if_true, Option.bind_some]
        refine .ok (.inl ⟨-(m : Int), by unfold InI; omega, by simpa using hsm, ?_⟩)
        rw [w64_id (by omega)]; simp
  by_cases hh : s.head? = some 45
  · rw [if_pos hh]
    obtain ⟨r, rfl⟩ : ∃ r, s = 45 :: r := by
      cases s with
      | nil => cases hh
      | cons b r => simp only [List.head?_cons, Option.some.injEq] at hh; exact ⟨r, by rw [hh]⟩
    refine key r true (by simp at hs; omega) (fun n hn he => ?_) (fun m hm ht h0 => ?_)
    · by_cases h0 : n < 0
      · rw [itoa_neg h0] at he
        simp only [List.cons.injEq, true_and] at he
        exact ⟨by rw [if_pos rfl]; exact h0, by rw [he, show n.natAbs = (-n).toNat by omega]⟩
      · exfalso
        rw [itoa_n (by omega)] at he
        obtain ⟨c, q, hc, hd⟩ := num_first n.toNat
        rw [hc] at he
        simp only [List.cons.injEq] at he
        have := hd.1; rw [← he.1] at this; simp at this
    · have := h0 rfl
      rw [if_pos rfl, itoa_neg (by omega), ht]; simp
  · rw [if_neg hh]
    refine key s false hs (fun n hn he => ?_) (fun m hm ht _ => ?_)
    · by_cases h0 : n < 0
      · rw [itoa_neg h0] at he; rw [he] at hh; exact absurd rfl hh
      · rw [itoa_n (by omega)] at he
        exact ⟨by simp; omega, by rw [he, show n.natAbs = n.toNat by omega]⟩
    · simp [ht, itoa_nat]
theorem spi_ok (s : List UInt8) (hs : s.length ≤ 100000) : Tot (s_l1Read (str s)) (PI s) := by
  unfold s_l1Read
  rw [str_s]
  refine .call (P := fun nn => ∃ (l : List UInt8) (neg : Bool), nn = str l ∧ (neg = true → s = 45 :: l ∧ 1 ≤ l.length) ∧ (neg = false → s = l ∧ (l.head? = some 45 → l.length ≤ 1)))
    (.call (P := fun v => v = true ↔ s.head? = some 45 ∧ 1 < s.length) (.iteP (fun h => .chk ⟨by omega, by omega⟩ (.ok ?_)) (fun h => .ok ?_)) fun v hv => .ite (fun h => ?_) (fun h => .ok ⟨s, false, rfl, fun h => (by cases h), fun _ => ⟨rfl, fun hh => ?_⟩⟩)) fun nn ⟨l, neg, hl, p1, p2⟩ => ?_
  · cases s with
    | nil => simp at h
    | cons b r =>
      have e1 : (((str (b :: r)).data.toList.getD (0 : Int).toNat 0).toNat : Int) = (b.toNat : Int) := rfl
      have e2 : ((b.toNat : Int) == 45) = decide (b = 45) := u8_eq b 45
      rw [e1, e2]
      simp only [decide_eq_true_eq, List.head?_cons, Option.some.injEq]
      constructor
      · intro hb; exact ⟨hb, by omega⟩
      · intro hb; exact hb.1
  · constructor
    · intro h2; cases h2
    · intro h2; exact absurd h2.2 (by omega)
  · obtain ⟨h1, h2⟩ := hv.1 h
    obtain ⟨r, rfl⟩ : ∃ r, s = 45 :: r := by
      cases s with
      | nil => cases h1
      | cons b r => simp only [List.head?_cons, Option.some.injEq] at h1; exact ⟨r, by rw [h1]⟩
    refine .chk ⟨by omega, by omega⟩ (.ok ⟨r, true, ?_, fun _ => ⟨rfl, by simp at h2; omega⟩, fun h => (by cases h)⟩)
    rw [str_ext, List.take_length]; rfl
  · apply Classical.byContradiction
    intro hn
    have := hv.2 ⟨hh, by omega⟩
    rw [h] at this; cases this
  subst hl
  rw [str_s, lin_eq, Option.bind_some]
  have hfit : ∀ n, InI n → s = Lib.itoa n → (neg = true → l = num (-n).toNat ∧ n < 0) ∧ (neg = false → l = num n.toNat ∧ 0 ≤ n) := by
    intro n hn he
    constructor
    · intro hneg
      obtain ⟨q1, q2⟩ := p1 hneg
      rw [q1] at he
      by_cases h0 : n < 0
      · rw [itoa_neg h0] at he
        simp only [List.cons.injEq, true_and] at he
        exact ⟨he, h0⟩
      · exfalso
        rw [itoa_n (by omega)] at he
        obtain ⟨c, q, hc, hd⟩ := num_first n.toNat
        rw [hc] at he
        simp only [List.cons.injEq] at he
        have := hd.1; rw [← he.1] at this; simp at this
    · intro hneg
      obtain ⟨q1, q2⟩ := p2 hneg
      rw [q1] at he
      by_cases h0 : n < 0
      · exfalso
        rw [itoa_neg h0] at he
        have h3 := q2 (by rw [he]; rfl)
        obtain ⟨c, q, hc, hd⟩ := num_first (-n).toNat
        rw [he, hc] at h3; simp at h3
      · exact ⟨by rw [he, itoa_n (by omega)], by omega⟩
  have hll : ∀ n, InI n → s = Lib.itoa n → 1 ≤ l.length ∧ l.length ≤ 6 ∧ ∀ b ∈ l, Dig b := by
    intro n hn he
    have h1 := hfit n hn he
    unfold InI at hn
    cases neg
    · rw [(h1.2 rfl).1]
      have := num_len (n := n.toNat) (by omega)
      exact ⟨this.1, this.2, (num_can _).2.1⟩
    · rw [(h1.1 rfl).1]
      have := num_len (n := (-n).toNat) (by omega)
      exact ⟨this.1, this.2, (num_can _).2.1⟩
  refine .iteN (fun h => .ok (.inr ⟨rfl, fun ⟨n, hn, he⟩ => h (by have := hll n hn he; omega)⟩)) (fun h6 => ?_)
  rcases lread_loop l (by omega) with ⟨h, hd⟩ | ⟨h, hnd⟩
  · rw [h]
    have hvl : valD l < 10 ^ l.length := valD_lt _ l rfl hd
    have hv6 : valD l < 1000000 := Nat.lt_of_lt_of_le hvl (Nat.pow_le_pow_right (by omega) (by omega : l.length ≤ 6))
    show Tot ((if (decide (((l.length : Int)) < (s.length : Int))) = true then some (w64 (0 - (valD l : Int))) else some (valD l : Int)).bind _) _
    refine .call (P := fun i => i = if neg = true then -(valD l : Int) else (valD l : Int)) (.iteP (fun hlt => .ok ?_) (fun hge => .ok ?_)) fun i hi => ?_
    · rw [w64_id (by omega)]
      cases neg
      · have := (p2 rfl).1; rw [this] at hlt; omega
      · simp
    · cases neg
      · simp
      · have := (p1 rfl).1; rw [this] at hge; simp at hge; omega
    · have hir : InI i := by unfold InI; rw [hi]; split <;> omega
      refine .eq (lnumI hir.1 hir.2) ?_
      rw [beq_str]
      refine .iteN (fun hne => .ok (.inr ⟨rfl, fun ⟨n, hn, he⟩ => hne ?_⟩)) (fun he => .ok (.inl ⟨i, hir, he.symm, rfl⟩))
      have h1 := hfit n hn he
      have hni : i = n := by
        cases neg
        · have h2 := h1.2 rfl
          rw [hi, h2.1, val_num]; simp; omega
        · have h2 := h1.1 rfl
          rw [hi, h2.1, val_num]; simp; omega
      rw [hni, he]
  · rw [h]
    exact ⟨_, rfl, .inr ⟨rfl, fun ⟨n, hn, he⟩ => hnd (hll n hn he).2.2⟩⟩
def SealOK (l : List UInt8) : Prop := l.length ≤ 4000 ∧ 35 ∉ l ∧ (tail l).length ≤ 4000
theorem sumF_inj {i j : Int} {b : UInt8} (hi : 0 ≤ i ∧ i < 999979) (hj : 0 ≤ j ∧ j < 999979) (h : sumF i b = sumF j b) : i = j := by
  unfold sumF at h
  rw [Int.tmod_eq_emod_of_nonneg (by omega), Int.tmod_eq_emod_of_nonneg (by omega)] at h
  omega
theorem sumF_injb {i : Int} {b c : UInt8} (hi : 0 ≤ i) (h : sumF i b = sumF i c) : b = c := by
  have h1 := b.toNat_lt; have h2 := c.toNat_lt
  unfold sumF at h
  rw [Int.tmod_eq_emod_of_nonneg (by omega), Int.tmod_eq_emod_of_nonneg (by omega)] at h
  exact UInt8.toNat_inj.1 (by omega)
theorem fold_inj : ∀ (l : List UInt8) {i j : Int}, 0 ≤ i ∧ i < 999979 → 0 ≤ j ∧ j < 999979 → l.foldl sumF i = l.foldl sumF j → i = j
  | [], _, _, _, _, h => h
  | b :: l, i, j, hi, hj, h => sumF_inj hi hj (fold_inj l (sumF_rng hi.1 b) (sumF_rng hj.1 b) h)
theorem sum_set {a c : List UInt8} {x y : UInt8} (h : sumL (a ++ x :: c) = sumL (a ++ y :: c)) : x = y := by
  unfold sumL at h
  rw [List.foldl_append, List.foldl_append, List.foldl_cons, List.foldl_cons] at h
  have hr := sum_rng a 7 (by omega)
  exact sumF_injb hr.1 (fold_inj c (sumF_rng hr.1 x) (sumF_rng hr.1 y) h)
theorem flip_no {l a c : List UInt8} {x y : UInt8} (hl : SealOK l) (ht : tail l = a ++ x :: c) (hxy : y ≠ x) : ¬ ∃ r, SealOK r ∧ a ++ y :: c = tail r := by
  rintro ⟨r, hr, he⟩
  have nd : ∀ n, 35 ∉ num n := num_no (.inl (by decide))
  unfold tail at ht he
  rcases Nat.lt_trichotomy a.length l.length with h | h | h
  · -- ahead
    obtain ⟨u, hu⟩ : ∃ u, l = a ++ u := by
      refine ⟨l.drop a.length, ?_⟩
      have := congrArg (List.take a.length) ht
      rw [List.take_append_of_le_length (by omega), List.take_left] at this
      have h9 := List.take_append_drop a.length l
      rw [this] at h9; exact h9.symm
    subst hu
    rw [List.append_assoc] at ht
    have ht2 := List.append_cancel_left ht
    cases u with
    | nil => simp at h
    | cons z u =>
      simp only [List.cons_append, List.cons.injEq] at ht2
      obtain ⟨rfl, rfl⟩ := ht2
      by_cases h35 : y = 35
      · subst h35
        have ha : 35 ∉ a := fun hm => hl.2.1 (List.mem_append_left _ hm)
        obtain ⟨h1, h2⟩ := sep_inj ha hr.2.1 he
        exact nd _ (by rw [← h2]; simp)
      · have hm : 35 ∉ a ++ y :: u := by
          intro hm
          rcases List.mem_append.1 hm with hm | hm
          · exact hl.2.1 (List.mem_append_left _ hm)
          · rcases List.mem_cons.1 hm with hm | hm
            · exact h35 hm.symm
            · exact hl.2.1 (by simp [hm])
        rw [show a ++ y :: (u ++ 35 :: num (sumL (a ++ z :: u)).toNat) = (a ++ y :: u) ++ 35 :: num (sumL (a ++ z :: u)).toNat by simp] at he
        obtain ⟨h1, h2⟩ := sep_inj hm hr.2.1 he
        have h3 := num_inj h2
        rw [← h1] at h3
        have s1 := sumN (a ++ z :: u); have s2 := sumN (a ++ y :: u)
        exact hxy (sum_set (a := a) (c := u) (by omega)).symm
  · -- within
    have := List.append_inj ht h.symm
    obtain ⟨rfl, h2⟩ := this
    simp only [List.cons.injEq] at h2
    obtain ⟨rfl, rfl⟩ := h2
    have hm : 35 ∉ l ++ y :: num (sumL l).toNat := by
      intro hm
      rcases List.mem_append.1 hm with hm | hm
      · exact hl.2.1 hm
      · rcases List.mem_cons.1 hm with hm | hm
        · exact hxy hm.symm
        · exact nd _ hm
    exact hm (by rw [he]; simp)
  · -- behind
    obtain ⟨u, hu⟩ : ∃ u, a = l ++ 35 :: u := by
      refine ⟨a.drop (l.length + 1), ?_⟩
      have := congrArg (List.take a.length) ht
      rw [List.take_left] at this
      have h2 : (l ++ 35 :: num (sumL l).toNat).take a.length = l ++ 35 :: (num (sumL l).toNat).take (a.length - l.length - 1) := by
        rw [List.take_append, List.take_of_length_le (by omega)]
        obtain ⟨k, hk⟩ : ∃ k, a.length - l.length = k + 1 := ⟨a.length - l.length - 1, by omega⟩
        rw [hk]; simp
      rw [h2] at this
      rw [← this]
      simp
    subst hu
    rw [List.append_assoc] at ht he
    have ht2 := List.append_cancel_left ht
    simp only [List.cons_append, List.cons.injEq, true_and] at ht2
    obtain ⟨h1, h2⟩ := sep_inj hl.2.1 hr.2.1 (show l ++ 35 :: (u ++ y :: c) = r ++ 35 :: num (sumL r).toNat from he)
    rw [← h1, ht2] at h2
    have := List.append_cancel_left h2
    simp only [List.cons.injEq, and_true] at this
    exact hxy this
theorem xor_ne (e : UInt8) (d : Int) (h0 : 1 ≤ d) (h1 : d ≤ 255) : mkU8 (IntKind.u8.wrap ((BitVec.ofInt (IntKind.u8).bits (e.toNat : Int) ^^^ BitVec.ofInt (IntKind.u8).bits (IntKind.u8.wrap d)).toNat : Int)) ≠ e := by
  intro h
  have h2 := congrArg UInt8.toNat h
  have hb : (IntKind.u8).bits = 8 := rfl
  have he := e.toNat_lt
  unfold mkU8 at h2
  rw [UInt8.toNat_ofNat', IntKind.wrap_u8, IntKind.wrap_u8, hb] at h2
  obtain ⟨v, hv⟩ : ∃ v : BitVec 8, v = BitVec.ofInt 8 (e.toNat : Int) ^^^ BitVec.ofInt 8 (d % 256) := ⟨_, rfl⟩
  rw [← hv] at h2
  have hvl := v.isLt
  have h3 : v.toNat = e.toNat := by omega
  have h4 : v = BitVec.ofInt 8 (e.toNat : Int) := by
    apply BitVec.eq_of_toNat_eq
    rw [h3, BitVec.toNat_ofInt]; omega
  rw [hv] at h4
  have h5 : BitVec.ofInt 8 (d % 256) = 0#8 := by
    have := congrArg (fun x => BitVec.ofInt 8 (e.toNat : Int) ^^^ x) h4
    simp only [← BitVec.xor_assoc, BitVec.xor_self, BitVec.zero_xor] at this
    exact this
  have h6 := congrArg BitVec.toNat h5
  rw [BitVec.toNat_ofInt] at h6
  simp at h6; omega
/-! Networks: when they are valid, for the program and for the reference. -/
theorem within_eq (n lo hi : Int) : i_within n lo hi = some (decide (lo ≤ n ∧ n ≤ hi)) := by
  unfold i_within
  by_cases h : lo ≤ n <;> simp [h]
theorem l1In_eq (n lo hi : Int) : s_l1In n lo hi = some (decide (lo ≤ n ∧ n ≤ hi)) := by
  unfold s_l1In
  by_cases h : lo ≤ n <;> simp [h]
/-- Byte i of a name. -/
def ChOK (i : Nat) (c : UInt8) : Prop := (97 ≤ (c.toNat : Int) ∧ (c.toNat : Int) ≤ 122) ∨ (i ≠ 0 ∧ 48 ≤ (c.toNat : Int) ∧ (c.toNat : Int) ≤ 57)
def NameOK (s : ByteArray) : Prop := (1 ≤ s.size ∧ s.size ≤ 8) ∧ ∀ (i : Nat) c, s.data.toList[i]? = some c → ChOK i c
open Classical in
noncomputable instance (s : ByteArray) : Decidable (NameOK s) := Classical.propDecidable _
theorem size_list (s : ByteArray) : s.data.toList.length = s.size := by simp
theorem getD_of {α : Type} {l : List α} {i : Nat} {x d : α} (h : l[i]? = some x) : l.getD i d = x := by rw [List.getD_eq_getElem?_getD, h]; rfl

theorem isName_eq (s : ByteArray) : i_isName s = some (decide (NameOK s)) := by
  unfold i_isName
  by_cases h1 : 1 ≤ s.size ∧ s.size ≤ 8
  · have e1 : decide ((s.size : Int) < 1) = false := by simp; omega
    have e2 : decide (8 < (s.size : Int)) = false := by simp; omega
    simp only [e1, e2, Bool.false_eq_true, if_false, Option.bind_some]
    have hsz := size_list s
    have key := Go.Ab.all_loop s.data.toList ChOK (step := i_isName_L1 s) ?_ ?_ 0 0 rfl (by omega)
    · rcases key with ⟨g1, g2⟩ | ⟨g1, g2⟩
      · rw [g1, flb_go]
        have : NameOK s := ⟨h1, fun i c hc => g2 i c (by omega) hc⟩
        simp [this]
      · rw [g1, flb_ret]
        have : ¬ NameOK s := fun hn => g2 fun i c _ hc => hn.2 i c hc
        simp [this]
    · intro i x hx
      have hi := (List.getElem?_eq_some_iff.1 hx).1
      have hg : s.data.toList.getD (i : Int).toNat 0 = x := by rw [Int.toNat_natCast]; exact getD_of hx
      have hc : chk ((0 : Int) ≤ (i : Int) ∧ (i : Int) < (s.size : Int)) = some () := chk_of (by omega)
      have hlt : decide ((i : Int) < (s.size : Int)) = true := by simp; omega
      unfold i_isName_L1
      simp only [hlt, if_true, hc, hg, Option.bind_some, w64_succ (n := i) (by omega)]
      unfold ChOK
      by_cases a1 : (97 : Int) ≤ (x.toNat : Int)
      · by_cases a2 : (x.toNat : Int) ≤ 122
        · left; refine ⟨by simp [a1, a2], .inl ⟨a1, a2⟩⟩
        · right
          refine ⟨?_, by omega⟩
          have b1 : decide ((x.toNat : Int) < 48) = false := by simp; omega
          have b2 : decide ((57 : Int) < (x.toNat : Int)) = true := by simp; omega
          have c1 : ¬ (x.toNat : Int) < 48 := by omega
          have c2 : (57 : Int) < (x.toNat : Int) := by omega
          by_cases hi0 : i = 0
          · simp [a1, a2, hi0]
          · have hi0' : ((i : Int) == 0) = false := by simp; omega
            simp [a1, a2, hi0', c1, c2]
      · by_cases hi0 : i = 0
        · right
          refine ⟨by simp [a1, hi0], by omega⟩
        · have hi0' : ((i : Int) == 0) = false := by simp; omega
          by_cases b1 : (x.toNat : Int) < 48
          · right
            refine ⟨by simp [a1, hi0', b1], by omega⟩
          · by_cases b2 : (57 : Int) < (x.toNat : Int)
            · right
              refine ⟨by simp [a1, hi0', b1, b2], by omega⟩
            · left
              refine ⟨by simp [a1, hi0', b1, b2], .inr ⟨hi0, by omega, by omega⟩⟩
    · unfold i_isName_L1
      rw [hsz]
      simp
  · have : ¬ NameOK s := fun h => h1 h.1
    have e : (if (decide ((s.size : Int) < 1)) = true then some true else some (decide (8 < (s.size : Int)))) = some true := by
      by_cases h2 : s.size < 1
      · have : decide ((s.size : Int) < 1) = true := by simp; omega
        simp [this]
      · have e1 : decide ((s.size : Int) < 1) = false := by simp; omega
        have e2 : decide (8 < (s.size : Int)) = true := by simp; omega
        simp [e1, e2]
    rw [e]
    simp [this]

theorem l2Name_eq (s : ByteArray) : s_l2Name s = some (decide (NameOK s)) := by
  unfold s_l2Name
  rw [l1In_eq]
  simp only [Option.bind_some]
  by_cases h1 : 1 ≤ s.size ∧ s.size ≤ 8
  · have e1 : decide ((1 : Int) ≤ (s.size : Int) ∧ (s.size : Int) ≤ 8) = true := by simp; omega
    have hsz := size_list s
    obtain ⟨x0, hx0⟩ := get_ex (l := s.data.toList) (i := 0) (by omega)
    have hg0 : s.data.toList.getD (0 : Int).toNat 0 = x0 := getD_of hx0
    have hc0 : chk ((0 : Int) ≤ 0 ∧ 0 < (s.size : Int)) = some () := chk_of (by omega)
    simp only [e1, Bool.not_true, Bool.false_eq_true, if_false, hc0, hg0, Option.bind_some]
    by_cases a0 : 97 ≤ (x0.toNat : Int) ∧ (x0.toNat : Int) ≤ 122
    · have b1 : decide ((x0.toNat : Int) < 97) = false := by simp; omega
      have b2 : decide ((122 : Int) < (x0.toNat : Int)) = false := by simp; omega
      simp only [b1, b2, Bool.false_eq_true, if_false, Option.bind_some]
      have key := Go.Ab.all_loop s.data.toList ChOK (step := s_l2Name_L1 s) ?_ ?_ 0 0 rfl (by omega)
      · rcases key with ⟨g1, g2⟩ | ⟨g1, g2⟩
        · rw [g1, flb_go]
          have : NameOK s := ⟨h1, fun i c hc => g2 i c (by omega) hc⟩
          simp [this]
        · rw [g1, flb_ret]
          have : ¬ NameOK s := fun hn => g2 fun i c _ hc => hn.2 i c hc
          simp [this]
      · intro i x hx
        have hi := (List.getElem?_eq_some_iff.1 hx).1
        have hg : s.data.toList.getD (i : Int).toNat 0 = x := by rw [Int.toNat_natCast]; exact getD_of hx
        have hc : chk ((0 : Int) ≤ (i : Int) ∧ (i : Int) < (s.size : Int)) = some () := chk_of (by omega)
        have hlt : decide ((i : Int) < (s.size : Int)) = true := by simp; omega
        have h0 : i = 0 → x = x0 := fun h => by subst h; rw [hx0] at hx; cases hx; rfl
        unfold s_l2Name_L1
        simp only [hlt, if_true, hc, hg, Option.bind_some, w64_succ (n := i) (by omega)]
        unfold ChOK
        by_cases a1 : (x.toNat : Int) < 97
        · have hi0 : i ≠ 0 := fun h => by have := h0 h; subst this; omega
          by_cases c1 : (x.toNat : Int) < 48
          · right; refine ⟨by simp [a1, c1], by omega⟩
          · by_cases c2 : (57 : Int) < (x.toNat : Int)
            · right; refine ⟨by simp [a1, c1, c2], by omega⟩
            · left; refine ⟨by simp [a1, c1, c2], .inr ⟨hi0, by omega, by omega⟩⟩
        · by_cases a2 : (122 : Int) < (x.toNat : Int)
          · right
            have c1 : ¬ (x.toNat : Int) < 48 := by omega
            have c2 : (57 : Int) < (x.toNat : Int) := by omega
            refine ⟨by simp [a1, a2, c1, c2], by omega⟩
          · left; refine ⟨by simp [a1, a2], .inl ⟨by omega, by omega⟩⟩
      · unfold s_l2Name_L1
        rw [hsz]
        simp
    · have : ¬ NameOK s := fun hn => by
        have := hn.2 0 x0 hx0
        unfold ChOK at this
        omega
      have e : (if (decide ((x0.toNat : Int) < 97)) = true then some true else some (decide ((122 : Int) < (x0.toNat : Int)))) = some true := by
        by_cases h2 : (x0.toNat : Int) < 97
        · simp [h2]
        · have : (122 : Int) < (x0.toNat : Int) := by omega
          simp [h2, this]
      rw [e]
      simp [this]
  · have e1 : decide ((1 : Int) ≤ (s.size : Int) ∧ (s.size : Int) ≤ 8) = false := by simp; omega
    have : ¬ NameOK s := fun h => h1 h.1
    simp [e1, this]

/-! Searches -/
theorem bl_comm (a b : List UInt8) : (a == b) = (b == a) := BEq.comm
/-! The reader of sentences. -/
def wch (x : UInt8) : Prop := (97 ≤ x.toNat ∧ x.toNat ≤ 122) ∨ (48 ≤ x.toNat ∧ x.toNat ≤ 57)
instance (x : UInt8) : Decidable (wch x) := by unfold wch; infer_instance
/-- A reader that has read p and has l before it. -/
def rdr (p l : List UInt8) (b : Bool) : l24Reader := ⟨str (p ++ l), (p.length : Int), b⟩
theorem take_lem {p l t : List UInt8} (h : p.length + l.length ≤ 2000000) (ht : t.length ≤ 1000) : s_l24Reader_take (rdr p l false) (str t) = some (if l.take t.length = t then (true, (⟨str (p ++ l), ((p.length + t.length : Nat) : Int), false⟩ : l24Reader)) else (false, rdr p l false)) := by
  have e : w64 ((p.length : Int) + (t.length : Int)) = ((p.length + t.length : Nat) : Int) := by rw [w64_id (by omega)]; omega
  unfold s_l24Reader_take rdr
  dsimp only
  rw [str_s, str_s, e, List.length_append, if_neg (by simp)]
  by_cases hl : l.length < t.length
  · rw [if_pos (by simp only [decide_eq_true_eq]; omega), Option.bind_some, if_pos rfl, if_neg]
    intro h1
    have := congrArg List.length h1
    rw [List.length_take] at this; omega
  · rw [if_neg (by simp only [decide_eq_true_eq]; omega), chk_of ⟨by omega, by omega, by omega⟩, Option.bind_some, Option.bind_some, str_ext, beq_str]
    have e2 : ((p ++ l).take ((p.length + t.length : Nat) : Int).toNat).drop (p.length : Int).toNat = l.take t.length := by
      rw [Int.toNat_natCast, Int.toNat_natCast, List.take_append, List.drop_append, List.take_of_length_le (by omega), List.drop_of_length_le (Nat.le_refl _), List.nil_append, Nat.sub_self, List.drop_zero]
      congr 1; omega
    rw [e2]
    by_cases h1 : l.take t.length = t
    · rw [if_pos h1, decide_eq_true h1]; rfl
    · rw [if_neg h1, decide_eq_false h1]; rfl
theorem take_hit {p l t : List UInt8} (h : p.length + t.length + l.length ≤ 2000000) (ht : t.length ≤ 1000) : s_l24Reader_take (rdr p (t ++ l) false) (str t) = some (true, rdr (p ++ t) l false) := by
  rw [take_lem (by rw [List.length_append]; omega) ht, if_pos (List.take_left' rfl)]
  unfold rdr
  rw [List.append_assoc, List.length_append]
theorem take_miss {p l t : List UInt8} (h : p.length + l.length ≤ 2000000) (ht : t.length ≤ 1000) (hn : ¬ t <+: l) : s_l24Reader_take (rdr p l false) (str t) = some (false, rdr p l false) := by
  rw [take_lem h ht, if_neg]
  intro h1
  exact hn (List.prefix_iff_eq_take.2 h1.symm)
theorem take_bad {p l t : List UInt8} : s_l24Reader_take (rdr p l true) (str t) = some (false, rdr p l true) := by
  unfold s_l24Reader_take rdr
  rfl
/-- Both ways at once. -/
theorem take_cases {p l : List UInt8} (t : List UInt8) (h : p.length + l.length ≤ 2000000) (ht : t.length ≤ 1000) :
    (∃ q, l = t ++ q ∧ s_l24Reader_take (rdr p l false) (str t) = some (true, rdr (p ++ t) q false)) ∨ (¬ t <+: l ∧ s_l24Reader_take (rdr p l false) (str t) = some (false, rdr p l false)) := by
  by_cases hp : t <+: l
  · obtain ⟨q, rfl⟩ := hp
    rw [List.length_append] at h
    exact .inl ⟨q, rfl, take_hit (by omega) ht⟩
  · exact .inr ⟨hp, take_miss h ht hp⟩
theorem want_hit {p l t : List UInt8} (h : p.length + t.length + l.length ≤ 2000000) (ht : t.length ≤ 1000) : s_l24Reader_want (rdr p (t ++ l) false) (str t) = some (rdr (p ++ t) l false) := by
  unfold s_l24Reader_want
  rw [take_hit h ht]
  rfl
theorem want_miss {p l t : List UInt8} (h : p.length + l.length ≤ 2000000) (ht : t.length ≤ 1000) (hn : ¬ t <+: l) : s_l24Reader_want (rdr p l false) (str t) = some (rdr p l true) := by
  unfold s_l24Reader_want
  rw [take_miss h ht hn]
  rfl
theorem want_bad {p l t : List UInt8} : s_l24Reader_want (rdr p l true) (str t) = some (rdr p l true) := by
  unfold s_l24Reader_want
  rw [take_bad]
  rfl
theorem wch_int (x : UInt8) : wch x ↔ ((97 : Int) ≤ (x.toNat : Int) ∧ (x.toNat : Int) ≤ 122) ∨ ((48 : Int) ≤ (x.toNat : Int) ∧ (x.toNat : Int) ≤ 57) := by unfold wch; omega
theorem word_step {l : List UInt8} {r : l24Reader} (hs : r.s_ = str l) (h : l.length ≤ 2000000) {i : Nat} {x : UInt8} (hx : l[i]? = some x) : s_l24Reader_word_L1 r (i : Int) = some (if wch x then .nx ((i + 1 : Nat) : Int) else .dn (i : Int)) := by
  have hi : i < l.length := (List.getElem?_eq_some_iff.1 hx).1
  have c : chk ((0 : Int) ≤ (i : Int) ∧ (i : Int) < ((str l).size : Int)) = some () := chk_of ⟨by omega, by rw [str_s]; omega⟩
  unfold s_l24Reader_word_L1
  dsimp only
  rw [hs, if_pos (by rw [str_s]; simp only [decide_eq_true_eq]; omega), w64_succ (by omega)]
  simp only [c, Option.bind_some, str_l, Int.toNat_natCast, getD_some hx, wch_int]
  by_cases h1 : (97 : Int) ≤ (x.toNat : Int) <;> by_cases h2 : (x.toNat : Int) ≤ 122 <;> by_cases h3 : (48 : Int) ≤ (x.toNat : Int) <;> by_cases h4 : (x.toNat : Int) ≤ 57 <;> simp [h1, h2, h3, h4]
theorem word_end {l : List UInt8} {r : l24Reader} (hs : r.s_ = str l) {i : Nat} (h : l.length ≤ i) : s_l24Reader_word_L1 r (i : Int) = some (.dn (i : Int)) := by
  unfold s_l24Reader_word_L1
  dsimp only
  rw [hs, if_neg (by rw [str_s]; simp only [decide_eq_true_eq]; omega)]
  rfl
theorem word_loop {r : l24Reader} : ∀ (l p : List UInt8), r.s_ = str (p ++ l) → p.length + l.length ≤ 2000000 → iter (s_l24Reader_word_L1 r) (p.length : Int) = some ((p.length + (l.takeWhile (fun x => decide (wch x))).length : Nat) : Int)
  | [], p, hs, _ => by
    rw [iter_dn (word_end hs (by simp))]; rfl
  | x :: l, p, hs, h => by
    have hx : (p ++ x :: l)[p.length]? = some x := by simp
    have hw := word_step hs (by simpa using h) hx
    by_cases hc : wch x
    · rw [if_pos hc] at hw
      have ih := word_loop (r := r) l (p ++ [x]) (by rw [hs]; simp) (by simp only [List.length_append, List.length_cons, List.length_nil] at h ⊢; omega)
      rw [iter_nx hw, List.takeWhile_cons_of_pos (by simpa using hc)]
      simp only [List.length_append, List.length_cons, List.length_nil] at ih ⊢
      rw [ih]
      congr 1; omega
    · rw [if_neg hc] at hw
      rw [iter_dn hw, List.takeWhile_cons_of_neg (by simpa using hc)]; rfl
/-- A word: greedy. -/
theorem word_eq {p l : List UInt8} {b : Bool} (h : p.length + l.length ≤ 2000000) : s_l24Reader_word (rdr p l b) = some (str (l.takeWhile fun x => decide (wch x)), rdr (p ++ l.takeWhile fun x => decide (wch x)) (l.dropWhile fun x => decide (wch x)) b) := by
  have hl : (l.takeWhile fun x => decide (wch x)).length ≤ l.length := (List.takeWhile_sublist _).length_le
  unfold s_l24Reader_word
  rw [show (rdr p l b).at_ = (p.length : Int) from rfl, word_loop l p rfl h, Option.bind_some, chk_of ⟨by omega, by omega, by rw [show (rdr p l b).s_ = str (p ++ l) from rfl, str_s, List.length_append]; omega⟩, Option.bind_some]
  rw [show (rdr p l b).s_ = str (p ++ l) from rfl, show (rdr p l b).bad_ = b from rfl, str_ext, Int.toNat_natCast, Int.toNat_natCast]
  have e : ((p ++ l).take (p.length + (l.takeWhile fun x => decide (wch x)).length)).drop p.length = l.takeWhile fun x => decide (wch x) := by
    rw [List.take_append, List.drop_append, List.take_of_length_le (by omega), List.drop_of_length_le (Nat.le_refl _), List.nil_append, Nat.sub_self, List.drop_zero, Nat.add_sub_cancel_left]
    exact (List.prefix_iff_eq_take.1 (List.takeWhile_prefix _)).symm
  rw [e]
  unfold rdr
  rw [List.append_assoc, List.takeWhile_append_dropWhile, List.length_append]
/-! Times of day, read and written. -/
def clk (n : Nat) : List UInt8 := [UInt8.ofNat (48 + n / 60 / 10), UInt8.ofNat (48 + n / 60 % 10), 58, UInt8.ofNat (48 + n % 60 / 10), UInt8.ofNat (48 + n % 60 % 10)]
theorem lTwo_ok {n : Int} (h0 : 0 ≤ n) (h1 : n < 100) : s_l4Two n = some (str [UInt8.ofNat (48 + (n / 10).toNat), UInt8.ofNat (48 + (n % 10).toNat)]) := by
  have em : n.tmod 10 = n % 10 := Int.tmod_eq_emod_of_nonneg h0
  have ew : w64 (n.tdiv 10) = n / 10 := by rw [Int.tdiv_eq_ediv_of_nonneg h0, w64_id (by omega)]
  have c10 : chk ((10 : Int) ≠ 0) = some () := chk_of (by decide)
  have ca : ∀ x : Int, 0 ≤ x → x < 10 → chk ((0 : Int) ≤ x ∧ (x : Int) ≤ w64 (x + 1) ∧ w64 (x + 1) ≤ ((str [48, 49, 50, 51, 52, 53, 54, 55, 56, 57]).size : Int)) = some () := fun x hx hy => chk_of (by rw [w64_id (by omega)]; exact ⟨hx, by omega, by show x + 1 ≤ 10; omega⟩)
  unfold s_l4Two
  simp only [c10, Option.bind_some, ew, em]
  rw [ca _ (by omega) (by omega), Option.bind_some, ca _ (by omega) (by omega), Option.bind_some, dig_ext (by omega) (by omega), dig_ext (by omega) (by omega), str_app]
  rfl
theorem clk_parts {n : Int} (h0 : 0 ≤ n) (h1 : n < 3600) : str [UInt8.ofNat (48 + (n / 60 / 10).toNat), UInt8.ofNat (48 + (n / 60 % 10).toNat)] ++ str [58] ++ str [UInt8.ofNat (48 + (n % 60 / 10).toNat), UInt8.ofNat (48 + (n % 60 % 10).toNat)] = str (clk n.toNat) := by
  rw [str_app, str_app]
  unfold clk
  have e1 : (n / 60 / 10).toNat = n.toNat / 60 / 10 := by omega
  have e2 : (n / 60 % 10).toNat = n.toNat / 60 % 10 := by omega
  have e3 : (n % 60 / 10).toNat = n.toNat % 60 / 10 := by omega
  have e4 : (n % 60 % 10).toNat = n.toNat % 60 % 10 := by omega
  rw [e1, e2, e3, e4]
  rfl
theorem lText_ok {n : Int} (h0 : 0 ≤ n) (h1 : n < 3600) : s_l4Text n = some (str (clk n.toNat)) := by
  have em : n.tmod 60 = n % 60 := Int.tmod_eq_emod_of_nonneg h0
  have ew : w64 (n.tdiv 60) = n / 60 := by rw [Int.tdiv_eq_ediv_of_nonneg h0, w64_id (by omega)]
  have c60 : chk ((60 : Int) ≠ 0) = some () := chk_of (by decide)
  unfold s_l4Text
  simp only [c60, Option.bind_some, ew, em]
  rw [lTwo_ok (by omega) (by omega), Option.bind_some, chk_of (by rw [str_s, str_s]; simp), Option.bind_some, lTwo_ok (by omega) (by omega), Option.bind_some, chk_of (by rw [str_app, str_s, str_s]; simp), Option.bind_some, clk_parts h0 h1]
theorem mk8 {n : Nat} (h : n < 256) : mkU8 (IntKind.u8.wrap (n : Int)) = UInt8.ofNat n := by
  unfold mkU8
  rw [IntKind.wrap_u8]
  congr 1; omega
theorem iTwo_ok {n : Int} (h0 : 0 ≤ n) (h1 : n < 100) : i_clockText_1 n = some (str [UInt8.ofNat (48 + (n / 10).toNat), UInt8.ofNat (48 + (n % 10).toNat)]) := by
  have em : w64 (48 + n.tmod 10) = ((48 + (n % 10).toNat : Nat) : Int) := by rw [Int.tmod_eq_emod_of_nonneg h0, w64_id (by omega)]; omega
  have ew : w64 (48 + w64 (n.tdiv 10)) = ((48 + (n / 10).toNat : Nat) : Int) := by rw [Int.tdiv_eq_ediv_of_nonneg h0, w64_id (x := n / 10) (by omega), w64_id (by omega)]; omega
  have c10 : chk ((10 : Int) ≠ 0) = some () := chk_of (by decide)
  unfold i_clockText_1
  simp only [c10, Option.bind_some]
  rw [ew, em, mk8 (by omega), mk8 (by omega)]
  rfl
theorem iText_ok {n : Int} (h0 : 0 ≤ n) (h1 : n < 3600) : i_clockText n = some (str (clk n.toNat)) := by
  have em : n.tmod 60 = n % 60 := Int.tmod_eq_emod_of_nonneg h0
  have ew : w64 (n.tdiv 60) = n / 60 := by rw [Int.tdiv_eq_ediv_of_nonneg h0, w64_id (by omega)]
  have c60 : chk ((60 : Int) ≠ 0) = some () := chk_of (by decide)
  unfold i_clockText
  simp only [c60, Option.bind_some, ew, em]
  rw [iTwo_ok (by omega) (by omega), Option.bind_some, chk_of (by rw [str_s, str_s]; simp), Option.bind_some, iTwo_ok (by omega) (by omega), Option.bind_some, chk_of (by rw [str_app, str_s, str_s]; simp), Option.bind_some, clk_parts h0 h1]
theorem five {w : List UInt8} (h : w.length = 5) : ∃ a b c d e, w = [a, b, c, d, e] := by
  match w, h with
  | [a, b, c, d, e], _ => exact ⟨a, b, c, d, e, rfl⟩
theorem time_eq (t : Int) : s_l4Time t = some (decide (0 ≤ t ∧ t ≤ 1799)) := by
  unfold s_l4Time
  rw [lin_eq]; rfl
theorem itime_eq (t : Int) : i_IsValidTime t = some (decide (0 ≤ t ∧ t ≤ 1799)) := by
  unfold i_IsValidTime
  rw [within_eq]; rfl
def tval (a b d e : UInt8) : Int := ((((a.toNat : Int) - 48) * 10 + (b.toNat : Int)) - 48) * 60 + ((d.toNat : Int) - 48) * 10 + (e.toNat : Int) - 48
theorem tval_clk {a b c d e : UInt8} {m : Nat} (hm : m ≤ 1799) (h : [a, b, c, d, e] = clk m) : tval a b d e = m := by
  unfold clk at h
  simp only [List.cons.injEq, and_true] at h
  obtain ⟨rfl, rfl, _, rfl, rfl⟩ := h
  unfold tval
  rw [UInt8.toNat_ofNat', UInt8.toNat_ofNat', UInt8.toNat_ofNat', UInt8.toNat_ofNat']
  omega
theorem lParse_eq (a b c d e : UInt8) : s_l4Parse (str [a, b, c, d, e]) = some (if (0 ≤ tval a b d e ∧ tval a b d e ≤ 1799) ∧ clk (tval a b d e).toNat = [a, b, c, d, e] then (tval a b d e, true) else (0, false)) := by
  have ha := a.toNat_lt; have hb := b.toNat_lt; have hd := d.toNat_lt; have he := e.toNat_lt
  have ck : ∀ i : Int, 0 ≤ i → i < 5 → chk ((0 : Int) ≤ i ∧ i < ((str [a, b, c, d, e]).size : Int)) = some () := fun i h0 h1 => chk_of ⟨h0, by rw [str_s]; simpa using h1⟩
  unfold s_l4Parse
  rw [if_neg (by rw [str_s]; simp), ck 0 (by omega) (by omega), Option.bind_some, ck 1 (by omega) (by omega), Option.bind_some, ck 3 (by omega) (by omega), Option.bind_some, ck 4 (by omega) (by omega), Option.bind_some]
  have g0 : (str [a, b, c, d, e]).data.toList.getD (0 : Int).toNat 0 = a := rfl
  have g1 : (str [a, b, c, d, e]).data.toList.getD (1 : Int).toNat 0 = b := rfl
  have g3 : (str [a, b, c, d, e]).data.toList.getD (3 : Int).toNat 0 = d := rfl
  have g4 : (str [a, b, c, d, e]).data.toList.getD (4 : Int).toNat 0 = e := rfl
  rw [g0, g1, g3, g4]
  have ev : (w64 ((w64 ((w64 ((w64 ((w64 ((w64 ((w64 ((w64 ((w64 ((a.toNat : Int))) - 48)) * 10)) + (w64 ((b.toNat : Int))))) - 48)) * 60)) + (w64 ((w64 ((w64 ((d.toNat : Int))) - 48)) * 10)))) + (w64 ((e.toNat : Int))))) - 48)) = tval a b d e := by
    unfold tval
    simp (disch := omega) only [w64_id]
  rw [ev, time_eq, Option.bind_some]
  by_cases h : 0 ≤ tval a b d e ∧ tval a b d e ≤ 1799
  · rw [decide_eq_true h, if_neg (by simp), lText_ok h.1 (by omega), Option.bind_some, beq_str, Option.bind_some]
    by_cases h2 : clk (tval a b d e).toNat = [a, b, c, d, e]
    · rw [decide_eq_true h2, if_neg (by simp), if_pos ⟨h, h2⟩]
    · rw [decide_eq_false h2, if_pos (by simp), if_neg (fun x => h2 x.2)]
  · rw [decide_eq_false h, if_pos (by simp), Option.bind_some, if_pos rfl, if_neg (fun x => h x.1)]
/-! The reader's operations, whatever lies before it. -/
theorem want_any {p l : List UInt8} {b : Bool} (t : List UInt8) (h : p.length + l.length ≤ 2000000) (ht : t.length ≤ 1000) :
    ∃ p' l' b', s_l24Reader_want (rdr p l b) (str t) = some (rdr p' l' b') ∧ p' ++ l' = p ++ l ∧ (b' = false → b = false ∧ p' = p ++ t) := by
  cases b with
  | true => exact ⟨p, l, true, want_bad, rfl, fun h => by cases h⟩
  | false =>
    by_cases hp : t <+: l
    · obtain ⟨q, rfl⟩ := hp
      rw [List.length_append] at h
      exact ⟨p ++ t, q, false, want_hit (by omega) ht, by simp, fun _ => ⟨rfl, rfl⟩⟩
    · exact ⟨p, l, true, want_miss h ht hp, rfl, fun h => by cases h⟩
theorem word_any {p l : List UInt8} {b : Bool} (h : p.length + l.length ≤ 2000000) :
    ∃ w l', s_l24Reader_word (rdr p l b) = some (str w, rdr (p ++ w) l' b) ∧ w ++ l' = l ∧ ∀ x ∈ w, wch x := by
  refine ⟨_, _, word_eq h, List.takeWhile_append_dropWhile, fun x hx => ?_⟩
  have := List.all_eq_true.1 (List.all_takeWhile (p := fun x => decide (wch x)) (l := l)) x hx
  simpa using this
theorem word_hit {p w l : List UInt8} {c : UInt8} {b : Bool} (h : p.length + w.length + l.length ≤ 1900000) (hw : ∀ x ∈ w, wch x) (hc : ¬ wch c) : s_l24Reader_word (rdr p (w ++ c :: l) b) = some (str w, rdr (p ++ w) (c :: l) b) := by
  have e1 : (w ++ c :: l).takeWhile (fun x => decide (wch x)) = w := by
    rw [List.takeWhile_append_of_pos (by simpa using hw), List.takeWhile_cons_of_neg (by simpa using hc), List.append_nil]
  have e2 : (w ++ c :: l).dropWhile (fun x => decide (wch x)) = c :: l := by
    rw [List.dropWhile_append_of_pos (by simpa using hw), List.dropWhile_cons_of_neg (by simpa using hc)]
  rw [word_eq (by simp only [List.length_append, List.length_cons]; omega), e1, e2]
theorem clk_len (n : Nat) : (clk n).length = 5 := rfl
theorem time_bad {p l : List UInt8} : s_l24Reader_time (rdr p l true) = some (0, rdr p l true) := rfl
theorem time_key {p q : List UInt8} (a b c d f : UInt8) (h : p.length + 5 + q.length ≤ 2000000) : s_l24Reader_time (rdr p ([a, b, c, d, f] ++ q) false) = (s_l4Parse (str [a, b, c, d, f])).bind fun r2 => some (r2.1, rdr (p ++ [a, b, c, d, f]) q (!r2.2)) := by
  have hw : [a, b, c, d, f].length = 5 := rfl
  have e : w64 ((p.length : Int) + 5) = ((p.length + 5 : Nat) : Int) := by rw [w64_id (by omega)]; omega
  have e2 : (str (p ++ ([a, b, c, d, f] ++ q))).extract p.length (p.length + 5) = str [a, b, c, d, f] := by
    rw [str_ext, List.take_append, List.drop_append, List.take_of_length_le (by omega), List.drop_of_length_le (Nat.le_refl _), List.nil_append, Nat.sub_self, List.drop_zero, Nat.add_sub_cancel_left]
    rfl
  have e3 : p ++ ([a, b, c, d, f] ++ q) = (p ++ [a, b, c, d, f]) ++ q := by simp
  unfold s_l24Reader_time rdr
  dsimp only
  rw [e, if_neg (by simp), Option.bind_some, if_neg (by rw [str_s, List.length_append, List.length_append]; simp only [decide_eq_true_eq]; rw [hw]; omega), chk_of ⟨by omega, by omega, by rw [str_s, List.length_append, List.length_append, hw]; omega⟩, Option.bind_some, Int.toNat_natCast, Int.toNat_natCast, e2, e3, List.length_append, hw]
theorem time_hit {p q : List UInt8} {t : Nat} (ht : t ≤ 1799) (h : p.length + 5 + q.length ≤ 2000000) : s_l24Reader_time (rdr p (clk t ++ q) false) = some ((t : Int), rdr (p ++ clk t) q false) := by
  have hv := tval_clk (a := UInt8.ofNat (48 + t / 60 / 10)) (b := UInt8.ofNat (48 + t / 60 % 10)) (c := 58) (d := UInt8.ofNat (48 + t % 60 / 10)) (e := UInt8.ofNat (48 + t % 60 % 10)) ht rfl
  have key := time_key (p := p) (q := q) (UInt8.ofNat (48 + t / 60 / 10)) (UInt8.ofNat (48 + t / 60 % 10)) 58 (UInt8.ofNat (48 + t % 60 / 10)) (UInt8.ofNat (48 + t % 60 % 10)) h
  rw [lParse_eq, hv, if_pos ⟨by omega, by rw [Int.toNat_natCast]; rfl⟩] at key
  exact key
theorem time_any {p l : List UInt8} {b : Bool} (h : p.length + l.length ≤ 2000000) :
    ∃ v p' l' b', s_l24Reader_time (rdr p l b) = some (v, rdr p' l' b') ∧ p' ++ l' = p ++ l ∧ (b' = false → b = false ∧ (0 ≤ v ∧ v ≤ 1799) ∧ p' = p ++ clk v.toNat) := by
  cases b with
  | true => exact ⟨0, p, l, true, time_bad, rfl, fun h => by cases h⟩
  | false =>
    have e : w64 ((p.length : Int) + 5) = ((p.length + 5 : Nat) : Int) := by rw [w64_id (by omega)]; omega
    by_cases hl : l.length < 5
    · refine ⟨0, p, l, true, ?_, rfl, fun h => by cases h⟩
      unfold s_l24Reader_time rdr
      dsimp only
      rw [e, if_neg (by simp), Option.bind_some, if_pos (by rw [str_s, List.length_append]; simp only [decide_eq_true_eq]; omega)]
    · obtain ⟨w, q, rfl, hw⟩ : ∃ w q, l = w ++ q ∧ w.length = 5 := ⟨l.take 5, l.drop 5, by simp, by rw [List.length_take]; omega⟩
      obtain ⟨a, b, c, d, f, rfl⟩ := five hw
      have key := time_key (p := p) (q := q) a b c d f (by rw [List.length_append, hw] at h; omega)
      rw [lParse_eq] at key
      by_cases hv : (0 ≤ tval a b d f ∧ tval a b d f ≤ 1799) ∧ clk (tval a b d f).toNat = [a, b, c, d, f]
      · rw [if_pos hv] at key
        exact ⟨_, _, _, _, key, by simp, fun _ => ⟨rfl, hv.1, by rw [hv.2]⟩⟩
      · rw [if_neg hv] at key
        exact ⟨_, _, _, _, key, by simp, fun h => by cases h⟩
/-! Numbers that the reader reads. -/
theorem lread_num {n : Nat} (hn : n < 1000000) : s_l1Read (str (num n)) = some ((n : Int), true) := by
  have hl := num_len hn
  have hc := num_can n
  unfold s_l1Read
  rw [str_s]
  have e1 : (if (decide (1 < ((num n).length : Int))) = true then (chk ((0 : Int) ≤ 0 ∧ 0 < ((num n).length : Int))).bind fun u => some ((((str (num n)).data.toList.getD (0 : Int).toNat 0).toNat : Int) == 45) else some false) = some false := by
    split
    · rw [chk_of ⟨by omega, by omega⟩, Option.bind_some, str_l]
      cases hx : num n with
      | nil => rw [hx] at hl; simp at hl
      | cons b r =>
        have hb := hc.2.1 b (by rw [hx]; simp)
        have : (((b :: r).getD (0 : Int).toNat 0).toNat : Int) = b.toNat := rfl
        rw [this]
        have h1 := hb.1
        congr 1
        simp; omega
    · rfl
  rw [e1]
  simp only [Option.bind_some, Bool.false_eq_true, if_false]
  rw [str_s, lin_eq, decide_eq_true (by omega)]
  simp only [Option.bind_some, Bool.not_true, Bool.false_eq_true, if_false]
  rcases lread_loop (num n) hl.2 with ⟨h, _⟩ | ⟨_, h⟩
  · rw [h]
    show ((if (decide (((num n).length : Int) < ((num n).length : Int))) = true then some (w64 (0 - (valD (num n) : Int))) else some (valD (num n) : Int)).bind _) = _
    rw [decide_eq_false (by omega), val_num]
    simp only [Bool.false_eq_true, if_false, Option.bind_some]
    rw [lnumI (by omega) (by omega), Option.bind_some, itoa_nat, beq_str]
    simp
  · exact absurd hc.2.1 h

/-- The days of the week. -/
theorem lread_word {w : List UInt8} (hw : ∀ x ∈ w, wch x) (hl : w.length ≤ 2000000) : ∃ n ok, s_l1Read (str w) = some (n, ok) ∧ (ok = true → (0 ≤ n ∧ n < 1000000) ∧ w = num n.toNat) := by
  unfold s_l1Read
  rw [str_s]
  have e1 : (if (decide (1 < (w.length : Int))) = true then (chk ((0 : Int) ≤ 0 ∧ 0 < (w.length : Int))).bind fun u => some ((((str w).data.toList.getD (0 : Int).toNat 0).toNat : Int) == 45) else some false) = some false := by
    by_cases h1 : 1 < w.length
    · rw [if_pos (by simp only [decide_eq_true_eq]; omega), chk_of ⟨by omega, by omega⟩, Option.bind_some, str_l]
      cases hx : w with
      | nil => rw [hx] at h1; simp at h1
      | cons b r =>
        have hb := hw b (by rw [hx]; simp)
        have : (((b :: r).getD (0 : Int).toNat 0).toNat : Int) = b.toNat := rfl
        rw [this]
        unfold wch at hb
        congr 1
        simp; omega
    · rw [if_neg (by simp only [decide_eq_true_eq]; omega)]
  rw [e1]
  simp only [Option.bind_some, Bool.false_eq_true, if_false]
  rw [str_s, lin_eq, Option.bind_some]
  by_cases h6 : 1 ≤ (w.length : Int) ∧ (w.length : Int) ≤ 6
  · rw [decide_eq_true h6, if_neg (by simp)]
    rcases lread_loop w (by omega) with ⟨h, hd⟩ | ⟨h, _⟩
    · have hvl : valD w < 10 ^ w.length := valD_lt _ w rfl hd
      have hv6 : valD w < 1000000 := Nat.lt_of_lt_of_le hvl (Nat.pow_le_pow_right (by omega) (by omega : w.length ≤ 6))
      rw [h]
      show ∃ n ok, ((if (decide ((w.length : Int) < (w.length : Int))) = true then some (w64 (0 - (valD w : Int))) else some (valD w : Int)).bind _) = some (n, ok) ∧ _
      rw [decide_eq_false (by omega)]
      simp only [Bool.false_eq_true, if_false, Option.bind_some]
      rw [lnumI (by omega) (by omega), Option.bind_some, itoa_nat, beq_str]
      by_cases he : num (valD w) = w
      · rw [decide_eq_true he]
        exact ⟨_, _, rfl, fun _ => ⟨⟨by omega, by omega⟩, by rw [Int.toNat_natCast, he]⟩⟩
      · rw [decide_eq_false he]
        exact ⟨_, _, rfl, fun h => by cases h⟩
    · rw [h]
      exact ⟨_, _, rfl, fun h => by cases h⟩
  · rw [decide_eq_false h6]
    exact ⟨_, _, rfl, fun h => by cases h⟩
/-! The sentence of a message; what the reader reads is one. -/
def sen (m : Message) : List UInt8 :=
  if m.Kind = 1 then [76, 105, 110, 101, 32] ++ m.Line.data.toList ++ [32, 105, 115, 32, 100, 101, 108, 97, 121, 101, 100, 32, 98, 121, 32] ++ num m.Minutes.toNat ++ (if m.Minutes = 1 then [32, 109, 105, 110, 117, 116, 101, 46] else [32, 109, 105, 110, 117, 116, 101, 115, 46])
  else if m.Kind = 3 then [84, 104, 101, 32, 115, 116, 111, 112, 32] ++ m.Stop.data.toList ++ [32, 105, 115, 32, 99, 108, 111, 115, 101, 100, 32, 102, 114, 111, 109, 32] ++ clk m.From.toNat ++ [32, 116, 111, 32] ++ clk m.To.toNat ++ [46]
  else if m.Kind = 4 then [70, 114, 111, 109, 32] ++ clk m.From.toNat ++ [32, 116, 111, 32] ++ clk m.To.toNat ++ [44, 32, 108, 105, 110, 101, 32] ++ m.Line.data.toList ++ [32, 114, 117, 110, 115, 32, 111, 110, 108, 121, 32, 97, 115, 32, 102, 97, 114, 32, 97, 115, 32] ++ m.Stop.data.toList ++ [46]
  else [84, 104, 101, 32, 100, 101, 112, 97, 114, 116, 117, 114, 101, 32, 111, 102, 32, 108, 105, 110, 101, 32] ++ m.Line.data.toList ++ [32, 97, 116, 32] ++ clk m.From.toNat ++ (if m.Kind = 2 then [32, 105, 115, 32, 99, 97, 110, 99, 101, 108, 108, 101, 100, 46] else [32, 105, 115, 32, 101, 120, 112, 101, 99, 116, 101, 100, 32, 116, 111, 32, 98, 101, 32, 99, 114, 111, 119, 100, 101, 100, 46])
theorem app_len {p l q r : List UInt8} (h : p ++ l = q ++ r) {n : Nat} (hn : q.length + r.length ≤ n) : p.length + l.length ≤ n := by
  have := congrArg List.length h
  rw [List.length_append, List.length_append] at this
  omega
/-- The first shape. -/
theorem shape1 {p0 p l : List UInt8} (h : p.length + l.length ≤ 1048576) (hp : p = p0 ++ [76, 105, 110, 101, 32]) :
    ∃ m p' l' b', ((s_l24Reader_word (rdr p l false)).bind fun r2 =>
  (s_l24Reader_want r2.2 (str [32, 105, 115, 32, 100, 101, 108, 97, 121, 101, 100, 32, 98, 121, 32])).bind fun r3 =>
  (s_l24Reader_word r3).bind fun r4 =>
  (s_l1Read r4.1).bind fun r5 =>
  (if r4.2.bad_ = true then some true else some (!r5.2)).bind fun (v9 : Bool) =>
  if (r5.1 == 1) = true then
   (s_l24Reader_want (⟨r4.2.s_, r4.2.at_, v9⟩ : l24Reader) (str [32, 109, 105, 110, 117, 116, 101, 46])).bind fun r6 =>
   some (r6.s_, r6.at_, r6.bad_, (1 : Int), r2.1, ByteArray.empty, (0 : Int), (0 : Int), r5.1)
  else
   (s_l24Reader_want (⟨r4.2.s_, r4.2.at_, v9⟩ : l24Reader) (str [32, 109, 105, 110, 117, 116, 101, 115, 46])).bind fun r7 =>
   some (r7.s_, r7.at_, r7.bad_, (1 : Int), r2.1, ByteArray.empty, (0 : Int), (0 : Int), r5.1)) = some (str (p' ++ l'), (p'.length : Int), b', m) ∧ p' ++ l' = p ++ l ∧ (b' = false → p' = p0 ++ sen ⟨m.1, m.2.1, m.2.2.1, m.2.2.2.1, m.2.2.2.2.1, m.2.2.2.2.2⟩) := by
  obtain ⟨w, l1, e1, hw1, hw⟩ := word_any (p := p) (l := l) (b := false) (by omega)
  have hs1 : (p ++ w) ++ l1 = p ++ l := by rw [List.append_assoc, hw1]
  obtain ⟨p2, l2, b2, e2, hs2, h2⟩ := want_any (p := p ++ w) (l := l1) (b := false) [32, 105, 115, 32, 100, 101, 108, 97, 121, 101, 100, 32, 98, 121, 32] (Nat.le_trans (app_len hs1 h) (by omega)) (by simp)
  have hs2' := hs2.trans hs1
  obtain ⟨w3, l3, e3, hw3, hwc⟩ := word_any (p := p2) (l := l2) (b := b2) (Nat.le_trans (app_len hs2' h) (by omega))
  have hs3 : (p2 ++ w3) ++ l3 = p ++ l := by rw [List.append_assoc, hw3, hs2']
  have hb3 := app_len hs3 h
  obtain ⟨n, ok, e4, h4⟩ := lread_word hwc (by rw [List.length_append] at hb3; omega)
  rw [e1, Option.bind_some, e2, Option.bind_some, e3, Option.bind_some, e4, Option.bind_some]
  have e5 : (if (rdr (p2 ++ w3) l3 b2).bad_ = true then some true else some (!ok)) = some (b2 || !ok) := by cases b2 <;> rfl
  rw [e5, Option.bind_some]
  have e6 : (⟨(rdr (p2 ++ w3) l3 b2).s_, (rdr (p2 ++ w3) l3 b2).at_, b2 || !ok⟩ : l24Reader) = rdr (p2 ++ w3) l3 (b2 || !ok) := rfl
  have fin : ∀ t : List UInt8, t.length ≤ 1000 → t = (if n = 1 then [32, 109, 105, 110, 117, 116, 101, 46] else [32, 109, 105, 110, 117, 116, 101, 115, 46]) → ∃ p' l' b', s_l24Reader_want (rdr (p2 ++ w3) l3 (b2 || !ok)) (str t) = some (rdr p' l' b') ∧ p' ++ l' = p ++ l ∧ (b' = false → p' = p0 ++ sen ⟨1, str w, ByteArray.empty, 0, 0, n⟩) := by
    intro t ht htn
    obtain ⟨p5, l5, b5, e7, hs5, h5⟩ := want_any (p := p2 ++ w3) (l := l3) (b := b2 || !ok) t (Nat.le_trans hb3 (by omega)) ht
    refine ⟨p5, l5, b5, e7, hs5.trans hs3, fun hb => ?_⟩
    obtain ⟨hb2, rfl⟩ := h5 hb
    rw [Bool.or_eq_false_iff] at hb2
    obtain ⟨_, rfl⟩ := h2 hb2.1
    obtain ⟨_, rfl⟩ := h4 (by simpa using hb2.2)
    subst hp
    unfold sen
    rw [if_pos rfl, str_l, htn]
    simp only [List.append_assoc]
  by_cases h1 : n = 1
  · obtain ⟨p', l', b', ea, eb, ec⟩ := fin [32, 109, 105, 110, 117, 116, 101, 46] (by simp) (by rw [if_pos h1])
    refine ⟨(1, str w, ByteArray.empty, 0, 0, n), p', l', b', ?_, eb, ec⟩
    rw [if_pos (by simp [h1]), e6, ea]; rfl
  · obtain ⟨p', l', b', ea, eb, ec⟩ := fin [32, 109, 105, 110, 117, 116, 101, 115, 46] (by simp) (by rw [if_neg h1])
    refine ⟨(1, str w, ByteArray.empty, 0, 0, n), p', l', b', ?_, eb, ec⟩
    rw [if_neg (by simp [h1]), e6, ea]; rfl
/-! The other shapes of a sentence. -/
theorem shape3 {p0 p l : List UInt8} (h : p.length + l.length ≤ 1048576) (hp : p = p0 ++ [84, 104, 101, 32, 115, 116, 111, 112, 32]) :
    ∃ w t u p' l' b', ((s_l24Reader_word (rdr p l false)).bind fun r9 =>
   (s_l24Reader_want r9.2 (str [32, 105, 115, 32, 99, 108, 111, 115, 101, 100, 32, 102, 114, 111, 109, 32])).bind fun r10 =>
   (s_l24Reader_time r10).bind fun r11 =>
   (s_l24Reader_want r11.2 (str [32, 116, 111, 32])).bind fun r12 =>
   (s_l24Reader_time r12).bind fun r13 =>
   (s_l24Reader_want r13.2 (str [46])).bind fun r14 =>
   some (r14.s_, r14.at_, r14.bad_, (3 : Int), ByteArray.empty, r9.1, r11.1, r13.1, (0 : Int))) = some (str (p' ++ l'), (p'.length : Int), b', (3 : Int), ByteArray.empty, w, t, u, (0 : Int)) ∧ p' ++ l' = p ++ l ∧ (b' = false → p' = p0 ++ sen ⟨3, ByteArray.empty, w, t, u, 0⟩) := by
  obtain ⟨w, l1, e1, hw1, hw⟩ := word_any (p := p) (l := l) (b := false) (by omega)
  have s1 : (p ++ w) ++ l1 = p ++ l := by rw [List.append_assoc, hw1]
  obtain ⟨p2, l2, b2, e2, s2, h2⟩ := want_any (p := p ++ w) (l := l1) (b := false) [32, 105, 115, 32, 99, 108, 111, 115, 101, 100, 32, 102, 114, 111, 109, 32] (Nat.le_trans (app_len s1 h) (by omega)) (by simp)
  have s2 := s2.trans s1
  obtain ⟨t, p3, l3, b3, e3, s3, h3⟩ := time_any (p := p2) (l := l2) (b := b2) (Nat.le_trans (app_len s2 h) (by omega))
  have s3 := s3.trans s2
  obtain ⟨p4, l4, b4, e4, s4, h4⟩ := want_any (p := p3) (l := l3) (b := b3) [32, 116, 111, 32] (Nat.le_trans (app_len s3 h) (by omega)) (by simp)
  have s4 := s4.trans s3
  obtain ⟨u, p5, l5, b5, e5, s5, h5⟩ := time_any (p := p4) (l := l4) (b := b4) (Nat.le_trans (app_len s4 h) (by omega))
  have s5 := s5.trans s4
  obtain ⟨p6, l6, b6, e6, s6, h6⟩ := want_any (p := p5) (l := l5) (b := b5) [46] (Nat.le_trans (app_len s5 h) (by omega)) (by simp)
  have s6 := s6.trans s5
  refine ⟨str w, t, u, p6, l6, b6, ?_, s6, fun hb => ?_⟩
  · rw [e1, Option.bind_some, e2, Option.bind_some, e3, Option.bind_some, e4, Option.bind_some, e5, Option.bind_some, e6]; rfl
  · obtain ⟨k5, rfl⟩ := h6 hb
    obtain ⟨k4, _, rfl⟩ := h5 k5
    obtain ⟨k3, rfl⟩ := h4 k4
    obtain ⟨k2, _, rfl⟩ := h3 k3
    obtain ⟨_, rfl⟩ := h2 k2
    subst hp
    unfold sen
    rw [if_neg (show ¬ (3 : Int) = 1 by decide), if_pos rfl, str_l]
    simp only [List.append_assoc]
theorem shape4 {p0 p l : List UInt8} (h : p.length + l.length ≤ 1048576) (hp : p = p0 ++ [70, 114, 111, 109, 32]) :
    ∃ w v t u p' l' b', ((s_l24Reader_time (rdr p l false)).bind fun r16 =>
    (s_l24Reader_want r16.2 (str [32, 116, 111, 32])).bind fun r17 =>
    (s_l24Reader_time r17).bind fun r18 =>
    (s_l24Reader_want r18.2 (str [44, 32, 108, 105, 110, 101, 32])).bind fun r19 =>
    (s_l24Reader_word r19).bind fun r20 =>
    (s_l24Reader_want r20.2 (str [32, 114, 117, 110, 115, 32, 111, 110, 108, 121, 32, 97, 115, 32, 102, 97, 114, 32, 97, 115, 32])).bind fun r21 =>
    (s_l24Reader_word r21).bind fun r22 =>
    (s_l24Reader_want r22.2 (str [46])).bind fun r23 =>
    some (r23.s_, r23.at_, r23.bad_, (4 : Int), r20.1, r22.1, r16.1, r18.1, (0 : Int))) = some (str (p' ++ l'), (p'.length : Int), b', (4 : Int), w, v, t, u, (0 : Int)) ∧ p' ++ l' = p ++ l ∧ (b' = false → p' = p0 ++ sen ⟨4, w, v, t, u, 0⟩) := by
  have s0 : p ++ l = p ++ l := rfl
  obtain ⟨t1, p1, l1, b1, e1, s1, h1⟩ := time_any (p := p) (l := l) (b := false) (Nat.le_trans (app_len s0 h) (by omega))
  have s1 := s1.trans s0
  obtain ⟨p2, l2, b2, e2, s2, h2⟩ := want_any (p := p1) (l := l1) (b := b1) [32, 116, 111, 32] (Nat.le_trans (app_len s1 h) (by omega)) (by simp)
  have s2 := s2.trans s1
  obtain ⟨t3, p3, l3, b3, e3, s3, h3⟩ := time_any (p := p2) (l := l2) (b := b2) (Nat.le_trans (app_len s2 h) (by omega))
  have s3 := s3.trans s2
  obtain ⟨p4, l4, b4, e4, s4, h4⟩ := want_any (p := p3) (l := l3) (b := b3) [44, 32, 108, 105, 110, 101, 32] (Nat.le_trans (app_len s3 h) (by omega)) (by simp)
  have s4 := s4.trans s3
  obtain ⟨w5, l5, e5, y5, _⟩ := word_any (p := p4) (l := l4) (b := b4) (Nat.le_trans (app_len s4 h) (by omega))
  have s5 : (p4 ++ w5) ++ l5 = p ++ l := by rw [List.append_assoc, y5, s4]
  obtain ⟨p6, l6, b6, e6, s6, h6⟩ := want_any (p := (p4 ++ w5)) (l := l5) (b := b4) [32, 114, 117, 110, 115, 32, 111, 110, 108, 121, 32, 97, 115, 32, 102, 97, 114, 32, 97, 115, 32] (Nat.le_trans (app_len s5 h) (by omega)) (by simp)
  have s6 := s6.trans s5
  obtain ⟨w7, l7, e7, y7, _⟩ := word_any (p := p6) (l := l6) (b := b6) (Nat.le_trans (app_len s6 h) (by omega))
  have s7 : (p6 ++ w7) ++ l7 = p ++ l := by rw [List.append_assoc, y7, s6]
  obtain ⟨p8, l8, b8, e8, s8, h8⟩ := want_any (p := (p6 ++ w7)) (l := l7) (b := b6) [46] (Nat.le_trans (app_len s7 h) (by omega)) (by simp)
  have s8 := s8.trans s7
  refine ⟨str w5, str w7, t1, t3, p8, l8, b8, ?_, s8, fun hb => ?_⟩
  · rw [e1, Option.bind_some, e2, Option.bind_some, e3, Option.bind_some, e4, Option.bind_some, e5, Option.bind_some, e6, Option.bind_some, e7, Option.bind_some, e8]; rfl
  · obtain ⟨k8, rfl⟩ := h8 hb
    obtain ⟨k6, rfl⟩ := h6 k8
    obtain ⟨k4, rfl⟩ := h4 k6
    obtain ⟨k3, _, rfl⟩ := h3 k4
    obtain ⟨k2, rfl⟩ := h2 k3
    obtain ⟨k1, _, rfl⟩ := h1 k2
    subst hp
    unfold sen
    rw [if_neg (show ¬ (4 : Int) = 1 by decide), if_neg (show ¬ (4 : Int) = 3 by decide), if_pos rfl, str_l, str_l]
    simp only [List.append_assoc]
/-! The last shape. -/
theorem take_any {p l : List UInt8} {b : Bool} (t : List UInt8) (h : p.length + l.length ≤ 2000000) (ht : t.length ≤ 1000) :
    ∃ k p' l', s_l24Reader_take (rdr p l b) (str t) = some (k, rdr p' l' b) ∧ p' ++ l' = p ++ l ∧ (k = true → p' = p ++ t) ∧ (k = false → p' = p ∧ l' = l) := by
  cases b with
  | true => exact ⟨false, p, l, take_bad, rfl, (fun h => by cases h), fun _ => ⟨rfl, rfl⟩⟩
  | false =>
    by_cases hp : t <+: l
    · obtain ⟨q, rfl⟩ := hp
      rw [List.length_append] at h
      exact ⟨true, p ++ t, q, take_hit (by omega) ht, by simp, fun _ => rfl, fun h => by cases h⟩
    · exact ⟨false, p, l, take_miss h ht hp, rfl, (fun h => by cases h), fun _ => ⟨rfl, rfl⟩⟩
theorem shape5 {p0 l : List UInt8} (h : p0.length + l.length ≤ 1048576) :
    ∃ k w t p' l' b', ((s_l24Reader_want (rdr p0 l false) (str [84, 104, 101, 32, 100, 101, 112, 97, 114, 116, 117, 114, 101, 32, 111, 102, 32, 108, 105, 110, 101, 32])).bind fun r24 =>
    (s_l24Reader_word r24).bind fun r25 =>
    (s_l24Reader_want r25.2 (str [32, 97, 116, 32])).bind fun r26 =>
    (s_l24Reader_time r26).bind fun r27 =>
    (s_l24Reader_take r27.2 (str [32, 105, 115, 32, 99, 97, 110, 99, 101, 108, 108, 101, 100, 46])).bind fun r28 =>
    if (!r28.1) = true then
     (s_l24Reader_want r28.2 (str [32, 105, 115, 32, 101, 120, 112, 101, 99, 116, 101, 100, 32, 116, 111, 32, 98, 101, 32, 99, 114, 111, 119, 100, 101, 100, 46])).bind fun r29 =>
     some (r29.s_, r29.at_, r29.bad_, (5 : Int), r25.1, ByteArray.empty, r27.1, (0 : Int), (0 : Int))
    else
     some (r28.2.s_, r28.2.at_, r28.2.bad_, (2 : Int), r25.1, ByteArray.empty, r27.1, (0 : Int), (0 : Int))) = some (str (p' ++ l'), (p'.length : Int), b', k, w, ByteArray.empty, t, (0 : Int), (0 : Int)) ∧ p' ++ l' = p0 ++ l ∧ (b' = false → p' = p0 ++ sen ⟨k, w, ByteArray.empty, t, 0, 0⟩) := by
  obtain ⟨p1, l1, b1, e1, s1, h1⟩ := want_any (p := p0) (l := l) (b := false) [84, 104, 101, 32, 100, 101, 112, 97, 114, 116, 117, 114, 101, 32, 111, 102, 32, 108, 105, 110, 101, 32] (by omega) (by simp)
  obtain ⟨w, l2, e2, y2, _⟩ := word_any (p := p1) (l := l1) (b := b1) (Nat.le_trans (app_len s1 h) (by omega))
  have s2 : (p1 ++ w) ++ l2 = p0 ++ l := by rw [List.append_assoc, y2, s1]
  obtain ⟨p3, l3, b3, e3, s3, h3⟩ := want_any (p := p1 ++ w) (l := l2) (b := b1) [32, 97, 116, 32] (Nat.le_trans (app_len s2 h) (by omega)) (by simp)
  have s3 := s3.trans s2
  obtain ⟨t, p4, l4, b4, e4, s4, h4⟩ := time_any (p := p3) (l := l3) (b := b3) (Nat.le_trans (app_len s3 h) (by omega))
  have s4 := s4.trans s3
  have up : b4 = false → p4 = p0 ++ [84, 104, 101, 32, 100, 101, 112, 97, 114, 116, 117, 114, 101, 32, 111, 102, 32, 108, 105, 110, 101, 32] ++ w ++ [32, 97, 116, 32] ++ clk t.toNat := by
    intro hb
    obtain ⟨k3, _, rfl⟩ := h4 hb
    obtain ⟨k1, rfl⟩ := h3 k3
    obtain ⟨_, rfl⟩ := h1 k1
    rfl
  obtain ⟨k, p5, l5, e5, s5, h5, h5'⟩ := take_any (p := p4) (l := l4) (b := b4) [32, 105, 115, 32, 99, 97, 110, 99, 101, 108, 108, 101, 100, 46] (Nat.le_trans (app_len s4 h) (by omega)) (by simp)
  have s5 := s5.trans s4
  rw [e1, Option.bind_some, e2, Option.bind_some, e3, Option.bind_some, e4, Option.bind_some, e5, Option.bind_some]
  cases k with
  | true =>
    refine ⟨2, str w, t, p5, l5, b4, rfl, s5, fun hb => ?_⟩
    rw [h5 rfl, up hb]
    unfold sen
    rw [if_neg (show ¬ (2 : Int) = 1 by decide), if_neg (show ¬ (2 : Int) = 3 by decide), if_neg (show ¬ (2 : Int) = 4 by decide), if_pos rfl, str_l]
    simp only [List.append_assoc]
  | false =>
    obtain ⟨rfl, rfl⟩ := h5' rfl
    obtain ⟨p6, l6, b6, e6, s6, h6⟩ := want_any (p := p5) (l := l5) (b := b4) [32, 105, 115, 32, 101, 120, 112, 101, 99, 116, 101, 100, 32, 116, 111, 32, 98, 101, 32, 99, 114, 111, 119, 100, 101, 100, 46] (Nat.le_trans (app_len s4 h) (by omega)) (by simp)
    refine ⟨5, str w, t, p6, l6, b6, ?_, s6.trans s4, fun hb => ?_⟩
    · rw [if_pos (by rfl), e6]; rfl
    · obtain ⟨k4, rfl⟩ := h6 hb
      rw [up k4]
      unfold sen
      rw [if_neg (show ¬ (5 : Int) = 1 by decide), if_neg (show ¬ (5 : Int) = 3 by decide), if_neg (show ¬ (5 : Int) = 4 by decide), if_neg (show ¬ (5 : Int) = 2 by decide), str_l]
      simp only [List.append_assoc]
/-! Words and patterns. -/
theorem split_ok (l : List UInt8) (c : UInt8) (hl : l.length ≤ 2000000) : strings_Split (str l) (str [c]) = some ((spl1 c l).map str) := by
  unfold strings_Split splitM
  rw [if_pos ⟨by rw [str_s]; omega, by rw [str_s]; simp⟩]
  have h := splitB_one (s := str l) (t := str [c]) (c := c) rfl
  rw [str_l] at h
  rw [← h, List.map_map]
  congr 1
  have : (str ∘ fun x : ByteArray => x.data.toList) = id := by funext x; exact (str_of x).symm
  rw [this, List.map_id]
/-- A part of a pattern: a word, or a star and what stands behind it. -/
def ptx (q : Bool × List UInt8) : List UInt8 := if q.1 = true then 42 :: q.2 else q.2
def fm : List (Bool × List UInt8) → List (List UInt8) → Option (List (List UInt8))
  | [], _ => some []
  | _ :: _, [] => none
  | q :: ps, w :: ws => if q.1 = true then (if q.2.isSuffixOf w = true then (fm ps ws).map (fun r => w.take (w.length - q.2.length) :: r) else none) else if w = q.2 then fm ps ws else none
def flds (ps : List (Bool × List UInt8)) (ws : List (List UInt8)) : Option (List (List UInt8)) := if ws.length = ps.length then fm ps ws else none
theorem fm_len : ∀ {ps : List (Bool × List UInt8)} {ws r : List (List UInt8)}, fm ps ws = some r → r.length = (ps.filter (·.1)).length
  | [], _, r, h => by rw [fm] at h; cases h; rfl
  | _ :: _, [], r, h => by rw [fm] at h; cases h
  | q :: ps, w :: ws, r, h => by
    rw [fm] at h
    by_cases hq : q.1 = true
    · rw [if_pos hq] at h
      split at h
      · cases hr : fm ps ws with
        | none => rw [hr] at h; cases h
        | some r' =>
          rw [hr] at h
          cases h
          rw [List.filter_cons_of_pos hq, List.length_cons, List.length_cons, fm_len hr]
      · cases h
    · rw [if_neg hq] at h
      split at h
      · rw [List.filter_cons_of_neg hq]; exact fm_len h
      · cases h
theorem flds_len {ps : List (Bool × List UInt8)} {ws r : List (List UInt8)} (h : flds ps ws = some r) : r.length = (ps.filter (·.1)).length := by
  unfold flds at h
  split at h
  · exact fm_len h
  · cases h
theorem fm_mem : ∀ {ps : List (Bool × List UInt8)} {ws r : List (List UInt8)} {k : Nat}, (∀ w ∈ ws, w.length ≤ k) → fm ps ws = some r → ∀ w ∈ r, w.length ≤ k
  | [], _, r, _, _, h => by rw [fm] at h; cases h; simp
  | _ :: _, [], r, _, _, h => by rw [fm] at h; cases h
  | q :: ps, w :: ws, r, k, hk, h => by
    rw [fm] at h
    by_cases hq : q.1 = true
    · rw [if_pos hq] at h
      split at h
      · cases hr : fm ps ws with
        | none => rw [hr] at h; cases h
        | some r' =>
          rw [hr] at h
          cases h
          intro x hx
          rcases List.mem_cons.1 hx with rfl | hx
          · have := hk w (by simp)
            rw [List.length_take]; omega
          · exact fm_mem (fun y hy => hk y (by simp [hy])) hr x hx
      · cases h
    · rw [if_neg hq] at h
      split at h
      · exact fm_mem (fun y hy => hk y (by simp [hy])) h
      · cases h
theorem spl1_len (c : UInt8) : ∀ (l : List UInt8) (w : List UInt8), w ∈ spl1 c l → w.length ≤ l.length
  | [], w, h => by simp [spl1] at h; subst h; simp
  | x :: r, w, h => by
    by_cases hx : x = c
    · rw [spl1, if_pos hx] at h
      rcases List.mem_cons.1 h with rfl | h
      · simp
      · have := spl1_len c r w h; simp; omega
    · obtain ⟨a, t, h1, h2⟩ := spl1_cons (r := r) hx
      rw [h2] at h
      rcases List.mem_cons.1 h with rfl | h
      · have := spl1_len c r a (by rw [h1]; simp); simp; omega
      · have := spl1_len c r w (by rw [h1]; simp [h]); simp; omega
abbrev pt1 : List UInt8 := [76, 105, 110, 101, 32, 42, 32, 105, 115, 32, 100, 101, 108, 97, 121, 101, 100, 32, 98, 121, 32, 42, 32, 42, 46]
def pp1 : List (Bool × List UInt8) := [(false, [76, 105, 110, 101]), (true, []), (false, [105, 115]), (false, [100, 101, 108, 97, 121, 101, 100]), (false, [98, 121]), (true, []), (true, [46])]
theorem pt1_ok : spl1 32 pt1 = pp1.map ptx ∧ pt1.length ≤ 1000 ∧ ∀ q ∈ pp1, 42 ∉ q.2 := by decide
abbrev pt2 : List UInt8 := [84, 104, 101, 32, 100, 101, 112, 97, 114, 116, 117, 114, 101, 32, 111, 102, 32, 108, 105, 110, 101, 32, 42, 32, 97, 116, 32, 42, 32, 105, 115, 32, 99, 97, 110, 99, 101, 108, 108, 101, 100, 46]
def pp2 : List (Bool × List UInt8) := [(false, [84, 104, 101]), (false, [100, 101, 112, 97, 114, 116, 117, 114, 101]), (false, [111, 102]), (false, [108, 105, 110, 101]), (true, []), (false, [97, 116]), (true, []), (false, [105, 115]), (false, [99, 97, 110, 99, 101, 108, 108, 101, 100, 46])]
theorem pt2_ok : spl1 32 pt2 = pp2.map ptx ∧ pt2.length ≤ 1000 ∧ ∀ q ∈ pp2, 42 ∉ q.2 := by decide
abbrev pt3 : List UInt8 := [84, 104, 101, 32, 115, 116, 111, 112, 32, 42, 32, 105, 115, 32, 99, 108, 111, 115, 101, 100, 32, 102, 114, 111, 109, 32, 42, 32, 116, 111, 32, 42, 46]
def pp3 : List (Bool × List UInt8) := [(false, [84, 104, 101]), (false, [115, 116, 111, 112]), (true, []), (false, [105, 115]), (false, [99, 108, 111, 115, 101, 100]), (false, [102, 114, 111, 109]), (true, []), (false, [116, 111]), (true, [46])]
theorem pt3_ok : spl1 32 pt3 = pp3.map ptx ∧ pt3.length ≤ 1000 ∧ ∀ q ∈ pp3, 42 ∉ q.2 := by decide
abbrev pt4 : List UInt8 := [70, 114, 111, 109, 32, 42, 32, 116, 111, 32, 42, 44, 32, 108, 105, 110, 101, 32, 42, 32, 114, 117, 110, 115, 32, 111, 110, 108, 121, 32, 97, 115, 32, 102, 97, 114, 32, 97, 115, 32, 42, 46]
def pp4 : List (Bool × List UInt8) := [(false, [70, 114, 111, 109]), (true, []), (false, [116, 111]), (true, [44]), (false, [108, 105, 110, 101]), (true, []), (false, [114, 117, 110, 115]), (false, [111, 110, 108, 121]), (false, [97, 115]), (false, [102, 97, 114]), (false, [97, 115]), (true, [46])]
theorem pt4_ok : spl1 32 pt4 = pp4.map ptx ∧ pt4.length ≤ 1000 ∧ ∀ q ∈ pp4, 42 ∉ q.2 := by decide
abbrev pt5 : List UInt8 := [84, 104, 101, 32, 100, 101, 112, 97, 114, 116, 117, 114, 101, 32, 111, 102, 32, 108, 105, 110, 101, 32, 42, 32, 97, 116, 32, 42, 32, 105, 115, 32, 101, 120, 112, 101, 99, 116, 101, 100, 32, 116, 111, 32, 98, 101, 32, 99, 114, 111, 119, 100, 101, 100, 46]
def pp5 : List (Bool × List UInt8) := [(false, [84, 104, 101]), (false, [100, 101, 112, 97, 114, 116, 117, 114, 101]), (false, [111, 102]), (false, [108, 105, 110, 101]), (true, []), (false, [97, 116]), (true, []), (false, [105, 115]), (false, [101, 120, 112, 101, 99, 116, 101, 100]), (false, [116, 111]), (false, [98, 101]), (false, [99, 114, 111, 119, 100, 101, 100, 46])]
theorem pt5_ok : spl1 32 pt5 = pp5.map ptx ∧ pt5.length ≤ 1000 ∧ ∀ q ∈ pp5, 42 ∉ q.2 := by decide
def unit (n : Int) : List UInt8 := if n = 1 then [109, 105, 110, 117, 116, 101, 46] else [109, 105, 110, 117, 116, 101, 115, 46]
def unit0 (n : Int) : List UInt8 := if n = 1 then [109, 105, 110, 117, 116, 101] else [109, 105, 110, 117, 116, 101, 115]
def wd1 (L : List UInt8) (n : Int) : List (List UInt8) := [[76, 105, 110, 101], L, [105, 115], [100, 101, 108, 97, 121, 101, 100], [98, 121], (num n.toNat), (unit n)]
def wd2 (L : List UInt8) (a : Int) : List (List UInt8) := [[84, 104, 101], [100, 101, 112, 97, 114, 116, 117, 114, 101], [111, 102], [108, 105, 110, 101], L, [97, 116], (clk a.toNat), [105, 115], [99, 97, 110, 99, 101, 108, 108, 101, 100, 46]]
def wd3 (S : List UInt8) (a b : Int) : List (List UInt8) := [[84, 104, 101], [115, 116, 111, 112], S, [105, 115], [99, 108, 111, 115, 101, 100], [102, 114, 111, 109], (clk a.toNat), [116, 111], (clk b.toNat ++ [46])]
def wd4 (L S : List UInt8) (a b : Int) : List (List UInt8) := [[70, 114, 111, 109], (clk a.toNat), [116, 111], (clk b.toNat ++ [44]), [108, 105, 110, 101], L, [114, 117, 110, 115], [111, 110, 108, 121], [97, 115], [102, 97, 114], [97, 115], (S ++ [46])]
def wd5 (L : List UInt8) (a : Int) : List (List UInt8) := [[84, 104, 101], [100, 101, 112, 97, 114, 116, 117, 114, 101], [111, 102], [108, 105, 110, 101], L, [97, 116], (clk a.toNat), [105, 115], [101, 120, 112, 101, 99, 116, 101, 100], [116, 111], [98, 101], [99, 114, 111, 119, 100, 101, 100, 46]]
theorem suf_nil (w : List UInt8) : ([] : List UInt8).isSuffixOf w = true := List.isSuffixOf_iff_suffix.2 (List.nil_suffix)
theorem suf_one (w : List UInt8) (c : UInt8) : [c].isSuffixOf (w ++ [c]) = true := List.isSuffixOf_iff_suffix.2 (List.suffix_append w [c])
theorem take_nil (w : List UInt8) : w.take (w.length - ([] : List UInt8).length) = w := by simp
theorem take_one (w : List UInt8) (c : UInt8) : (w ++ [c]).take ((w ++ [c]).length - [c].length) = w := by simp
theorem unit_eq (n : Int) : unit n = unit0 n ++ [46] := by unfold unit unit0; split <;> rfl
theorem f1_1 (L : List UInt8) (n : Int) : flds pp1 (wd1 L n) = some [L, num n.toNat, unit0 n] := by
  simp [flds, fm, pp1, wd1, suf_nil, suf_one, unit_eq]
theorem f1_2 (L : List UInt8) (a : Int) : flds pp1 (wd2 L a) = none := by
  simp [flds, fm, pp1, wd2, suf_nil, suf_one, unit_eq]
theorem f2_2 (L : List UInt8) (a : Int) : flds pp2 (wd2 L a) = some [L, clk a.toNat] := by
  simp [flds, fm, pp2, wd2, suf_nil, suf_one, unit_eq]
theorem f1_3 (S : List UInt8) (a b : Int) : flds pp1 (wd3 S a b) = none := by
  simp [flds, fm, pp1, wd3, suf_nil, suf_one, unit_eq]
theorem f2_3 (S : List UInt8) (a b : Int) : flds pp2 (wd3 S a b) = none := by
  simp [flds, fm, pp2, wd3, suf_nil, suf_one, unit_eq]
theorem f3_3 (S : List UInt8) (a b : Int) : flds pp3 (wd3 S a b) = some [S, clk a.toNat, clk b.toNat] := by
  simp [flds, fm, pp3, wd3, suf_nil, suf_one, unit_eq]
theorem f1_4 (L S : List UInt8) (a b : Int) : flds pp1 (wd4 L S a b) = none := by
  simp [flds, fm, pp1, wd4, suf_nil, suf_one, unit_eq]
theorem f2_4 (L S : List UInt8) (a b : Int) : flds pp2 (wd4 L S a b) = none := by
  simp [flds, fm, pp2, wd4, suf_nil, suf_one, unit_eq]
theorem f3_4 (L S : List UInt8) (a b : Int) : flds pp3 (wd4 L S a b) = none := by
  simp [flds, fm, pp3, wd4, suf_nil, suf_one, unit_eq]
theorem f4_4 (L S : List UInt8) (a b : Int) : flds pp4 (wd4 L S a b) = some [clk a.toNat, clk b.toNat, L, S] := by
  simp [flds, fm, pp4, wd4, suf_nil, suf_one, unit_eq]
theorem f1_5 (L : List UInt8) (a : Int) : flds pp1 (wd5 L a) = none := by
  simp [flds, fm, pp1, wd5, suf_nil, suf_one, unit_eq]
theorem f2_5 (L : List UInt8) (a : Int) : flds pp2 (wd5 L a) = none := by
  simp [flds, fm, pp2, wd5, suf_nil, suf_one, unit_eq]
theorem f3_5 (L : List UInt8) (a : Int) : flds pp3 (wd5 L a) = none := by
  simp [flds, fm, pp3, wd5, suf_nil, suf_one, unit_eq]
theorem f4_5 (L : List UInt8) (a : Int) : flds pp4 (wd5 L a) = none := by
  simp [flds, fm, pp4, wd5, suf_nil, suf_one, unit_eq]
theorem f5_5 (L : List UInt8) (a : Int) : flds pp5 (wd5 L a) = some [L, clk a.toNat] := by
  simp [flds, fm, pp5, wd5, suf_nil, suf_one, unit_eq]
theorem clk_no {c : UInt8} (n : Nat) (hn : n ≤ 1799) (hc : c.toNat < 48) : c ∉ clk n := by
  intro h
  unfold clk at h
  simp only [List.mem_cons, List.not_mem_nil, or_false] at h
  rcases h with h | h | h | h | h
  · have h2 := congrArg UInt8.toNat h; rw [UInt8.toNat_ofNat'] at h2; omega
  · have h2 := congrArg UInt8.toNat h; rw [UInt8.toNat_ofNat'] at h2; omega
  · subst h; exact absurd hc (by decide)
  · have h2 := congrArg UInt8.toNat h; rw [UInt8.toNat_ofNat'] at h2; omega
  · have h2 := congrArg UInt8.toNat h; rw [UInt8.toNat_ofNat'] at h2; omega
theorem spl_sen1 {L : List UInt8} {n : Int} (hL : 32 ∉ L) : spl1 32 (sen ⟨1, str L, str [], 0, 0, n⟩) = wd1 L n := by
  have e : sen ⟨1, str L, str [], 0, 0, n⟩ = Lib.join (wd1 L n) [32] := by
    unfold sen wd1 unit Lib.join
    rw [if_pos rfl, str_l]
    by_cases h : n = 1 <;> simp [h, List.intercalate]
  rw [e]
  refine spl1_join (by simp [wd1]) ?_
  have h1 : 32 ∉ num n.toNat := num_no (by decide) _
  have h2 : 32 ∉ unit n := by unfold unit; split <;> decide
  simp [wd1, hL, h1, h2]
theorem spl_sen2 {L : List UInt8} {a : Int} (hL : 32 ∉ L) (ha : 0 ≤ a ∧ a ≤ 1799) : spl1 32 (sen ⟨2, str L, str [], a, 0, 0⟩) = wd2 L a := by
  have e : sen ⟨2, str L, str [], a, 0, 0⟩ = Lib.join (wd2 L a) [32] := by
    unfold sen wd2 Lib.join
    simp [List.intercalate, str_l]
  rw [e]
  refine spl1_join (by simp [wd2]) ?_
  have h1 : 32 ∉ clk a.toNat := clk_no _ (by omega) (by decide)
  simp [wd2, hL, h1]
theorem spl_sen3 {S : List UInt8} {a b : Int} (hS : 32 ∉ S) (ha : 0 ≤ a ∧ a ≤ 1799) (hb : 0 ≤ b ∧ b ≤ 1799) : spl1 32 (sen ⟨3, str [], str S, a, b, 0⟩) = wd3 S a b := by
  have e : sen ⟨3, str [], str S, a, b, 0⟩ = Lib.join (wd3 S a b) [32] := by
    unfold sen wd3 Lib.join
    simp [List.intercalate, str_l]
  rw [e]
  refine spl1_join (by simp [wd3]) ?_
  have h1 : 32 ∉ clk a.toNat := clk_no _ (by omega) (by decide)
  have h2 : 32 ∉ clk b.toNat := clk_no _ (by omega) (by decide)
  simp [wd3, hS, h1, h2]
theorem spl_sen4 {L S : List UInt8} {a b : Int} (hL : 32 ∉ L) (hS : 32 ∉ S) (ha : 0 ≤ a ∧ a ≤ 1799) (hb : 0 ≤ b ∧ b ≤ 1799) : spl1 32 (sen ⟨4, str L, str S, a, b, 0⟩) = wd4 L S a b := by
  have e : sen ⟨4, str L, str S, a, b, 0⟩ = Lib.join (wd4 L S a b) [32] := by
    unfold sen wd4 Lib.join
    simp [List.intercalate, str_l]
  rw [e]
  refine spl1_join (by simp [wd4]) ?_
  have h1 : 32 ∉ clk a.toNat := clk_no _ (by omega) (by decide)
  have h2 : 32 ∉ clk b.toNat := clk_no _ (by omega) (by decide)
  simp [wd4, hL, hS, h1, h2]
theorem spl_sen5 {L : List UInt8} {a : Int} (hL : 32 ∉ L) (ha : 0 ≤ a ∧ a ≤ 1799) : spl1 32 (sen ⟨5, str L, str [], a, 0, 0⟩) = wd5 L a := by
  have e : sen ⟨5, str L, str [], a, 0, 0⟩ = Lib.join (wd5 L a) [32] := by
    unfold sen wd5 Lib.join
    simp [List.intercalate, str_l]
  rw [e]
  refine spl1_join (by simp [wd5]) ?_
  have h1 : 32 ∉ clk a.toNat := clk_no _ (by omega) (by decide)
  simp [wd5, hL, h1]
/-! Good messages. -/
def TmOK (t : Int) : Prop := 0 ≤ t ∧ t ≤ 1799
instance (t : Int) : Decidable (TmOK t) := by unfold TmOK; infer_instance
def MOK (m : Message) : Prop :=
  (m.Kind = 1 ∧ NameOK m.Line ∧ (1 ≤ m.Minutes ∧ m.Minutes ≤ 600) ∧ m.Stop = str [] ∧ m.From = 0 ∧ m.To = 0) ∨
  ((m.Kind = 2 ∨ m.Kind = 5) ∧ NameOK m.Line ∧ TmOK m.From ∧ m.Stop = str [] ∧ m.To = 0 ∧ m.Minutes = 0) ∨
  (m.Kind = 3 ∧ NameOK m.Stop ∧ TmOK m.From ∧ TmOK m.To ∧ m.From ≤ m.To ∧ m.Line = str [] ∧ m.Minutes = 0) ∨
  (m.Kind = 4 ∧ NameOK m.Line ∧ NameOK m.Stop ∧ TmOK m.From ∧ TmOK m.To ∧ m.From ≤ m.To ∧ m.Minutes = 0)
theorem beq_e (x : ByteArray) : (x.toList == (str []).toList) = decide (x = str []) := by
  have h := beq_str x.data.toList []
  rw [← str_of x] at h
  rw [h]
  congr 1
  apply propext
  constructor
  · intro h2; rw [str_of x, h2]
  · intro h2; rw [h2]; rfl
theorem lgood_ok (m : Message) : Tot (s_l24Good m) fun b => b = true ↔ MOK m := by
  unfold s_l24Good
  rw [str_empty]
  simp only [l2Name_eq, l1In_eq, time_eq, beq_e, Option.bind_some, beq_self_eq_true, Bool.true_and, Bool.and_true]
  obtain ⟨k, L, S, f, t, n⟩ := m
  dsimp only
  by_cases h1 : k = 1
  · by_cases a : NameOK L <;> by_cases b : 1 ≤ n ∧ n ≤ 600 <;> by_cases c : S = str [] <;> by_cases d : f = 0 <;> by_cases e : t = 0 <;> simp [h1, a, b, c, d, e, Tot, MOK]
  by_cases h2 : k = 2 ∨ k = 5
  · have e2 : (if (k == 2) = true then some (k == 2) else some (k == 5)) = some true := by rcases h2 with rfl | rfl <;> rfl
    rw [e2]
    have h3 : ¬ k = 3 := by omega
    have h4 : ¬ k = 4 := by omega
    by_cases a : NameOK L <;> by_cases b : 0 ≤ f ∧ f ≤ 1799 <;> by_cases c : S = str [] <;> by_cases d : n = 0 <;> by_cases e : t = 0 <;> simp [h1, h2, h3, h4, a, b, c, d, e, Tot, MOK, TmOK]
  have e2 : (if (k == 2) = true then some (k == 2) else some (k == 5)) = some false := by
    have h5 : ¬ k = 2 := fun h => h2 (.inl h)
    have h6 : ¬ k = 5 := fun h => h2 (.inr h)
    simp [h5, h6]
  rw [e2]
  by_cases h3 : k = 3
  · by_cases a : NameOK S <;> by_cases b : 0 ≤ f ∧ f ≤ 1799 <;> by_cases c : L = str [] <;> by_cases d : n = 0 <;> by_cases e : 0 ≤ t ∧ t ≤ 1799 <;> by_cases g : f ≤ t <;> simp [h3, a, b, c, d, e, g, Tot, MOK, TmOK]
  by_cases h4 : k = 4
  · by_cases a : NameOK S <;> by_cases b : 0 ≤ f ∧ f ≤ 1799 <;> by_cases c : NameOK L <;> by_cases d : n = 0 <;> by_cases e : 0 ≤ t ∧ t ≤ 1799 <;> by_cases g : f ≤ t <;> simp [h4, a, b, c, d, e, g, Tot, MOK, TmOK]
  · simp [h1, h2, h3, h4, Tot, MOK]
theorem iperiod_eq (m : Message) : i_isPeriod m = some (decide (TmOK m.From ∧ TmOK m.To ∧ m.From ≤ m.To)) := by
  unfold i_isPeriod
  simp only [itime_eq, Option.bind_some]
  by_cases b : 0 ≤ m.From ∧ m.From ≤ 1799 <;> by_cases e : 0 ≤ m.To ∧ m.To ≤ 1799 <;> simp [b, e, TmOK]
theorem ivalid_ok (m : Message) : Tot (i_IsValidMessage m) fun b => b = true ↔ MOK m := by
  unfold i_IsValidMessage
  rw [str_empty]
  simp only [isName_eq, within_eq, itime_eq, iperiod_eq, beq_e, Option.bind_some, beq_self_eq_true, Bool.true_and, Bool.and_true]
  obtain ⟨k, L, S, f, t, n⟩ := m
  dsimp only
  by_cases h1 : k = 1
  · by_cases a : NameOK L <;> by_cases b : 1 ≤ n ∧ n ≤ 600 <;> by_cases c : S = str [] <;> by_cases d : f = 0 <;> by_cases e : t = 0 <;> simp [h1, a, b, c, d, e, Tot, MOK, flb]
  by_cases h2 : k = 2 ∨ k = 5
  · have e2 : (if (k == 2) = true then some (k == 2) else some (k == 5)) = some true := by rcases h2 with rfl | rfl <;> rfl
    rw [e2]
    have h3 : ¬ k = 3 := by omega
    have h4 : ¬ k = 4 := by omega
    by_cases a : NameOK L <;> by_cases b : 0 ≤ f ∧ f ≤ 1799 <;> by_cases c : S = str [] <;> by_cases d : n = 0 <;> by_cases e : t = 0 <;> simp [h1, h2, h3, h4, a, b, c, d, e, Tot, MOK, TmOK, flb]
  have e2 : (if (k == 2) = true then some (k == 2) else some (k == 5)) = some false := by
    have h5 : ¬ k = 2 := fun h => h2 (.inl h)
    have h6 : ¬ k = 5 := fun h => h2 (.inr h)
    simp [h5, h6]
  rw [e2]
  by_cases h3 : k = 3
  · by_cases a : NameOK S <;> by_cases b : TmOK f <;> by_cases c : L = str [] <;> by_cases d : n = 0 <;> by_cases e : TmOK t <;> by_cases g : f ≤ t <;> simp [h3, a, b, c, d, e, g, Tot, MOK, flb]
  by_cases h4 : k = 4
  · by_cases a : NameOK S <;> by_cases b : TmOK f <;> by_cases c : NameOK L <;> by_cases d : n = 0 <;> by_cases e : TmOK t <;> by_cases g : f ≤ t <;> simp [h4, a, b, c, d, e, g, Tot, MOK, flb]
  · simp [h1, h2, h3, h4, Tot, MOK, flb]
/-- A name's letters. -/
def NmL (l : List UInt8) : Prop := (∀ x ∈ l, wch x) ∧ l.length ≤ 8
theorem nm_of {s : ByteArray} (h : NameOK s) : NmL s.data.toList := by
  refine ⟨fun x hx => ?_, ?_⟩
  · obtain ⟨i, hi⟩ := List.mem_iff_getElem?.1 hx
    have := h.2 i x hi
    unfold ChOK at this
    unfold wch
    omega
  · have h2 := h.1.2
    rw [← bsize] at h2
    exact h2
theorem nm_no {l : List UInt8} (h : NmL l) {c : UInt8} (hc : ¬ wch c) : c ∉ l := fun hm => hc (h.1 c hm)
theorem mok_cases {m : Message} (h : MOK m) :
    (∃ L n, m = ⟨1, str L, str [], 0, 0, n⟩ ∧ NmL L ∧ 1 ≤ n ∧ n ≤ 600) ∨
    (∃ L a, m = ⟨2, str L, str [], a, 0, 0⟩ ∧ NmL L ∧ TmOK a) ∨
    (∃ S a b, m = ⟨3, str [], str S, a, b, 0⟩ ∧ NmL S ∧ TmOK a ∧ TmOK b) ∨
    (∃ L S a b, m = ⟨4, str L, str S, a, b, 0⟩ ∧ NmL L ∧ NmL S ∧ TmOK a ∧ TmOK b) ∨
    (∃ L a, m = ⟨5, str L, str [], a, 0, 0⟩ ∧ NmL L ∧ TmOK a) := by
  obtain ⟨k, L, S, f, t, n⟩ := m
  unfold MOK at h
  dsimp only at h
  rcases h with ⟨rfl, a, b, rfl, rfl, rfl⟩ | ⟨hk, a, b, rfl, rfl, rfl⟩ | ⟨rfl, a, b, c, d, rfl, rfl⟩ | ⟨rfl, a, a', b, c, d, rfl⟩
  · exact .inl ⟨L.data.toList, n, rfl, nm_of a, b⟩
  · rcases hk with rfl | rfl
    · exact .inr (.inl ⟨L.data.toList, f, rfl, nm_of a, b⟩)
    · exact .inr (.inr (.inr (.inr ⟨L.data.toList, f, rfl, nm_of a, b⟩)))
  · exact .inr (.inr (.inl ⟨S.data.toList, f, t, rfl, nm_of a, b, c⟩))
  · exact .inr (.inr (.inr (.inl ⟨L.data.toList, S.data.toList, f, t, rfl, nm_of a, nm_of a', b, c⟩)))
theorem itext_ok {m : Message} (h : MOK m) : i_messageText m = some (str (sen m)) := by
  rcases mok_cases h with ⟨L, n, rfl, hL, h1, h2⟩ | ⟨L, a, rfl, hL, ha⟩ | ⟨S, a, b, rfl, hS, ha, hb⟩ | ⟨L, S, a, b, rfl, hL, hS, ha, hb⟩ | ⟨L, a, rfl, hL, ha⟩
  · have hl := hL.2
    have hn := num_len (n := n.toNat) (by omega)
    have hu : (if (n == 1) = true then some (str [32, 109, 105, 110, 117, 116, 101, 46]) else some (str [32, 109, 105, 110, 117, 116, 101, 115, 46])) = some (str (if n = 1 then [32, 109, 105, 110, 117, 116, 101, 46] else [32, 109, 105, 110, 117, 116, 101, 115, 46])) := by by_cases h : n = 1 <;> simp [h]
    have hul : (if n = 1 then [32, 109, 105, 110, 117, 116, 101, 46] else [32, 109, 105, 110, 117, 116, 101, 115, 46] : List UInt8).length ≤ 9 := by split <;> simp
    have hi : strconv_Itoa n = some (str (num n.toNat)) := itoa_num (by omega) (by omega)
    unfold i_messageText
    dsimp only
    rw [if_pos (by decide), hu, Option.bind_some, hi]
    simp (disch := (simp only [str_app, str_s, List.length_append, List.length_cons, List.length_nil]; omega)) only [chk_of, Option.bind_some]
    rw [str_app, str_app, str_app, str_app]
    unfold sen
    rw [if_pos rfl]
    rfl
  · have hl := hL.2
    have e1 := iText_ok (n := a) ha.1 (by have := ha.2; omega)
    have k1 := clk_len a.toNat
    unfold i_messageText
    dsimp only
    rw [if_neg (by decide), if_pos (by decide), e1]
    simp (disch := (simp only [str_app, str_s, List.length_append, List.length_cons, List.length_nil]; omega)) only [chk_of, Option.bind_some]
    simp only [str_app]
    unfold sen
    simp [str_l]
  · have hl := hS.2
    have e1 := iText_ok (n := a) ha.1 (by have := ha.2; omega)
    have e2 := iText_ok (n := b) hb.1 (by have := hb.2; omega)
    have k1 := clk_len a.toNat
    have k2 := clk_len b.toNat
    unfold i_messageText
    dsimp only
    rw [if_neg (by decide), if_neg (by decide), if_pos (by decide), e1, e2]
    simp (disch := (simp only [str_app, str_s, List.length_append, List.length_cons, List.length_nil]; omega)) only [chk_of, Option.bind_some]
    simp only [str_app]
    unfold sen
    simp [str_l]
  · have hl := hS.2
    have hl2 := hL.2
    have e1 := iText_ok (n := a) ha.1 (by have := ha.2; omega)
    have e2 := iText_ok (n := b) hb.1 (by have := hb.2; omega)
    have k1 := clk_len a.toNat
    have k2 := clk_len b.toNat
    unfold i_messageText
    dsimp only
    rw [if_neg (by decide), if_neg (by decide), if_neg (by decide), if_pos (by decide), e1, e2]
    simp (disch := (simp only [str_app, str_s, List.length_append, List.length_cons, List.length_nil]; omega)) only [chk_of, Option.bind_some]
    simp only [str_app]
    unfold sen
    simp [str_l]
  · have hl := hL.2
    have e1 := iText_ok (n := a) ha.1 (by have := ha.2; omega)
    have k1 := clk_len a.toNat
    unfold i_messageText
    dsimp only
    rw [if_neg (by decide), if_neg (by decide), if_neg (by decide), if_neg (by decide), e1]
    simp (disch := (simp only [str_app, str_s, List.length_append, List.length_cons, List.length_nil]; omega)) only [chk_of, Option.bind_some]
    simp only [str_app]
    unfold sen
    simp [str_l]
/-! Sentences that the reader reads: shapes 2 to 5. -/
theorem word_hit2 {p w t : List UInt8} {c : UInt8} {b : Bool} (ht : t.head? = some c) (hc : ¬ wch c) (hw : ∀ x ∈ w, wch x) (h : p.length + w.length + t.length ≤ 1900000) : s_l24Reader_word (rdr p (w ++ t) b) = some (str w, rdr (p ++ w) t b) := by
  cases t with
  | nil => cases ht
  | cons d r =>
    cases ht
    exact word_hit (by simp only [List.length_cons] at h; omega) hw hc
theorem sent_hit2 {L : List UInt8} {a : Int} (hL : NmL L) (ha : TmOK a) {p q : List UInt8} (hpq : p.length + q.length ≤ 1800000) : s_l24Reader_sentence (rdr p (sen ⟨2, str L, str [], a, 0, 0⟩ ++ q) false) = some (⟨2, str L, str [], a, 0, 0⟩, rdr (p ++ sen ⟨2, str L, str [], a, 0, 0⟩) q false) := by
  have lL := hL.2
  have la := clk_len a.toNat
  have na : ((a.toNat : Nat) : Int) = a := by have := ha.1; omega
  have ma : a.toNat ≤ 1799 := by have := ha.2; omega
  have e' : sen ⟨2, str L, str [], a, 0, 0⟩ ++ q = [84, 104, 101, 32, 100, 101, 112, 97, 114, 116, 117, 114, 101, 32, 111, 102, 32, 108, 105, 110, 101, 32] ++ (L ++ ([32, 97, 116, 32] ++ (clk a.toNat ++ ([32, 105, 115, 32, 99, 97, 110, 99, 101, 108, 108, 101, 100, 46] ++ q)))) := by unfold sen; simp [str_l]
  have ep : p ++ sen ⟨2, str L, str [], a, 0, 0⟩ = p ++ [84, 104, 101, 32, 100, 101, 112, 97, 114, 116, 117, 114, 101, 32, 111, 102, 32, 108, 105, 110, 101, 32] ++ L ++ [32, 97, 116, 32] ++ clk a.toNat ++ [32, 105, 115, 32, 99, 97, 110, 99, 101, 108, 108, 101, 100, 46] := by unfold sen; simp [str_l]
  unfold s_l24Reader_sentence
  rw [e', ep]
  rw [take_miss (t := [76, 105, 110, 101, 32]) (by simp; omega) (by simp) (by simp), Option.bind_some]
  dsimp only
  rw [if_neg (by simp)]
  rw [take_miss (t := [84, 104, 101, 32, 115, 116, 111, 112, 32]) (by simp; omega) (by simp) (by simp), Option.bind_some]
  dsimp only
  rw [if_neg (by simp)]
  rw [take_miss (t := [70, 114, 111, 109, 32]) (by simp; omega) (by simp) (by simp), Option.bind_some]
  dsimp only
  rw [if_neg (by simp)]
  rw [want_hit (by simp; omega) (by simp), Option.bind_some]
  try dsimp only
  rw [word_hit2 (c := 32) (by rfl) (by decide) hL.1 (by simp; omega), Option.bind_some]
  dsimp only
  rw [want_hit (by simp; omega) (by simp), Option.bind_some]
  try dsimp only
  rw [time_hit ma (by simp; omega), Option.bind_some]
  dsimp only
  rw [take_hit (by simp; omega) (by simp), Option.bind_some]
  dsimp only
  rw [if_neg (by simp)]
  rw [na]
  rfl
theorem sent_hit3 {S : List UInt8} {a b : Int} (hS : NmL S) (ha : TmOK a) (hb : TmOK b) {p q : List UInt8} (hpq : p.length + q.length ≤ 1800000) : s_l24Reader_sentence (rdr p (sen ⟨3, str [], str S, a, b, 0⟩ ++ q) false) = some (⟨3, str [], str S, a, b, 0⟩, rdr (p ++ sen ⟨3, str [], str S, a, b, 0⟩) q false) := by
  have lS := hS.2
  have la := clk_len a.toNat
  have na : ((a.toNat : Nat) : Int) = a := by have := ha.1; omega
  have ma : a.toNat ≤ 1799 := by have := ha.2; omega
  have lb := clk_len b.toNat
  have nb : ((b.toNat : Nat) : Int) = b := by have := hb.1; omega
  have mb : b.toNat ≤ 1799 := by have := hb.2; omega
  have e' : sen ⟨3, str [], str S, a, b, 0⟩ ++ q = [84, 104, 101, 32, 115, 116, 111, 112, 32] ++ (S ++ ([32, 105, 115, 32, 99, 108, 111, 115, 101, 100, 32, 102, 114, 111, 109, 32] ++ (clk a.toNat ++ ([32, 116, 111, 32] ++ (clk b.toNat ++ ([46] ++ q)))))) := by unfold sen; simp [str_l]
  have ep : p ++ sen ⟨3, str [], str S, a, b, 0⟩ = p ++ [84, 104, 101, 32, 115, 116, 111, 112, 32] ++ S ++ [32, 105, 115, 32, 99, 108, 111, 115, 101, 100, 32, 102, 114, 111, 109, 32] ++ clk a.toNat ++ [32, 116, 111, 32] ++ clk b.toNat ++ [46] := by unfold sen; simp [str_l]
  unfold s_l24Reader_sentence
  rw [e', ep]
  rw [take_miss (t := [76, 105, 110, 101, 32]) (by simp; omega) (by simp) (by simp), Option.bind_some]
  dsimp only
  rw [if_neg (by simp)]
  rw [take_hit (by simp; omega) (by simp), Option.bind_some]
  dsimp only
  rw [if_pos rfl]
  rw [word_hit2 (c := 32) (by rfl) (by decide) hS.1 (by simp; omega), Option.bind_some]
  dsimp only
  rw [want_hit (by simp; omega) (by simp), Option.bind_some]
  try dsimp only
  rw [time_hit ma (by simp; omega), Option.bind_some]
  dsimp only
  rw [want_hit (by simp; omega) (by simp), Option.bind_some]
  try dsimp only
  rw [time_hit mb (by simp; omega), Option.bind_some]
  dsimp only
  rw [want_hit (by simp; omega) (by simp), Option.bind_some]
  try dsimp only
  rw [na, nb]
  rfl
theorem sent_hit4 {L S : List UInt8} {a b : Int} (hL : NmL L) (hS : NmL S) (ha : TmOK a) (hb : TmOK b) {p q : List UInt8} (hpq : p.length + q.length ≤ 1800000) : s_l24Reader_sentence (rdr p (sen ⟨4, str L, str S, a, b, 0⟩ ++ q) false) = some (⟨4, str L, str S, a, b, 0⟩, rdr (p ++ sen ⟨4, str L, str S, a, b, 0⟩) q false) := by
  have la := clk_len a.toNat
  have na : ((a.toNat : Nat) : Int) = a := by have := ha.1; omega
  have ma : a.toNat ≤ 1799 := by have := ha.2; omega
  have lb := clk_len b.toNat
  have nb : ((b.toNat : Nat) : Int) = b := by have := hb.1; omega
  have mb : b.toNat ≤ 1799 := by have := hb.2; omega
  have lL := hL.2
  have lS := hS.2
  have e' : sen ⟨4, str L, str S, a, b, 0⟩ ++ q = [70, 114, 111, 109, 32] ++ (clk a.toNat ++ ([32, 116, 111, 32] ++ (clk b.toNat ++ ([44, 32, 108, 105, 110, 101, 32] ++ (L ++ ([32, 114, 117, 110, 115, 32, 111, 110, 108, 121, 32, 97, 115, 32, 102, 97, 114, 32, 97, 115, 32] ++ (S ++ ([46] ++ q)))))))) := by unfold sen; simp [str_l]
  have ep : p ++ sen ⟨4, str L, str S, a, b, 0⟩ = p ++ [70, 114, 111, 109, 32] ++ clk a.toNat ++ [32, 116, 111, 32] ++ clk b.toNat ++ [44, 32, 108, 105, 110, 101, 32] ++ L ++ [32, 114, 117, 110, 115, 32, 111, 110, 108, 121, 32, 97, 115, 32, 102, 97, 114, 32, 97, 115, 32] ++ S ++ [46] := by unfold sen; simp [str_l]
  unfold s_l24Reader_sentence
  rw [e', ep]
  rw [take_miss (t := [76, 105, 110, 101, 32]) (by simp; omega) (by simp) (by simp), Option.bind_some]
  dsimp only
  rw [if_neg (by simp)]
  rw [take_miss (t := [84, 104, 101, 32, 115, 116, 111, 112, 32]) (by simp; omega) (by simp) (by simp), Option.bind_some]
  dsimp only
  rw [if_neg (by simp)]
  rw [take_hit (by simp; omega) (by simp), Option.bind_some]
  dsimp only
  rw [if_pos rfl]
  rw [time_hit ma (by simp; omega), Option.bind_some]
  dsimp only
  rw [want_hit (by simp; omega) (by simp), Option.bind_some]
  try dsimp only
  rw [time_hit mb (by simp; omega), Option.bind_some]
  dsimp only
  rw [want_hit (by simp; omega) (by simp), Option.bind_some]
  try dsimp only
  rw [word_hit2 (c := 32) (by rfl) (by decide) hL.1 (by simp; omega), Option.bind_some]
  dsimp only
  rw [want_hit (by simp; omega) (by simp), Option.bind_some]
  try dsimp only
  rw [word_hit2 (c := 46) (by rfl) (by decide) hS.1 (by simp; omega), Option.bind_some]
  dsimp only
  rw [want_hit (by simp; omega) (by simp), Option.bind_some]
  try dsimp only
  rw [na, nb]
  rfl
theorem sent_hit5 {L : List UInt8} {a : Int} (hL : NmL L) (ha : TmOK a) {p q : List UInt8} (hpq : p.length + q.length ≤ 1800000) : s_l24Reader_sentence (rdr p (sen ⟨5, str L, str [], a, 0, 0⟩ ++ q) false) = some (⟨5, str L, str [], a, 0, 0⟩, rdr (p ++ sen ⟨5, str L, str [], a, 0, 0⟩) q false) := by
  have lL := hL.2
  have la := clk_len a.toNat
  have na : ((a.toNat : Nat) : Int) = a := by have := ha.1; omega
  have ma : a.toNat ≤ 1799 := by have := ha.2; omega
  have e' : sen ⟨5, str L, str [], a, 0, 0⟩ ++ q = [84, 104, 101, 32, 100, 101, 112, 97, 114, 116, 117, 114, 101, 32, 111, 102, 32, 108, 105, 110, 101, 32] ++ (L ++ ([32, 97, 116, 32] ++ (clk a.toNat ++ ([32, 105, 115, 32, 101, 120, 112, 101, 99, 116, 101, 100, 32, 116, 111, 32, 98, 101, 32, 99, 114, 111, 119, 100, 101, 100, 46] ++ q)))) := by unfold sen; simp [str_l]
  have ep : p ++ sen ⟨5, str L, str [], a, 0, 0⟩ = p ++ [84, 104, 101, 32, 100, 101, 112, 97, 114, 116, 117, 114, 101, 32, 111, 102, 32, 108, 105, 110, 101, 32] ++ L ++ [32, 97, 116, 32] ++ clk a.toNat ++ [32, 105, 115, 32, 101, 120, 112, 101, 99, 116, 101, 100, 32, 116, 111, 32, 98, 101, 32, 99, 114, 111, 119, 100, 101, 100, 46] := by unfold sen; simp [str_l]
  unfold s_l24Reader_sentence
  rw [e', ep]
  rw [take_miss (t := [76, 105, 110, 101, 32]) (by simp; omega) (by simp) (by simp), Option.bind_some]
  dsimp only
  rw [if_neg (by simp)]
  rw [take_miss (t := [84, 104, 101, 32, 115, 116, 111, 112, 32]) (by simp; omega) (by simp) (by simp), Option.bind_some]
  dsimp only
  rw [if_neg (by simp)]
  rw [take_miss (t := [70, 114, 111, 109, 32]) (by simp; omega) (by simp) (by simp), Option.bind_some]
  dsimp only
  rw [if_neg (by simp)]
  rw [want_hit (by simp; omega) (by simp), Option.bind_some]
  try dsimp only
  rw [word_hit2 (c := 32) (by rfl) (by decide) hL.1 (by simp; omega), Option.bind_some]
  dsimp only
  rw [want_hit (by simp; omega) (by simp), Option.bind_some]
  try dsimp only
  rw [time_hit ma (by simp; omega), Option.bind_some]
  dsimp only
  rw [take_miss (t := [32, 105, 115, 32, 99, 97, 110, 99, 101, 108, 108, 101, 100, 46]) (by simp; omega) (by simp) (by simp), Option.bind_some]
  dsimp only
  rw [if_pos (by simp), want_hit (by simp; omega) (by simp), Option.bind_some]
  rw [na]
  rfl
/-! The reader reads sentences. -/
theorem sentence_any {p l : List UInt8} (h : p.length + l.length ≤ 1048576) :
    ∃ m p' l' b', s_l24Reader_sentence (rdr p l false) = some (m, rdr p' l' b') ∧ p' ++ l' = p ++ l ∧ (b' = false → p' = p ++ sen m) := by
  unfold s_l24Reader_sentence
  rcases take_cases (p := p) (l := l) [76, 105, 110, 101, 32] (by omega) (by simp) with ⟨q, rfl, e⟩ | ⟨_, e⟩
  · rw [e, Option.bind_some]
    dsimp only
    rw [if_pos rfl]
    obtain ⟨m, p', l', b', e1, h1, h2⟩ := shape1 (p0 := p) (p := p ++ [76, 105, 110, 101, 32]) (l := q) (by simp only [List.length_append] at h ⊢; omega) rfl
    rw [e1]
    exact ⟨⟨m.1, m.2.1, m.2.2.1, m.2.2.2.1, m.2.2.2.2.1, m.2.2.2.2.2⟩, p', l', b', rfl, by rw [h1, List.append_assoc], h2⟩
  rw [e, Option.bind_some]
  dsimp only
  rw [if_neg (by simp)]
  rcases take_cases (p := p) (l := l) [84, 104, 101, 32, 115, 116, 111, 112, 32] (by omega) (by simp) with ⟨q, rfl, e⟩ | ⟨_, e⟩
  · rw [e, Option.bind_some]
    dsimp only
    rw [if_pos rfl]
    obtain ⟨w, t, u, p', l', b', e1, h1, h2⟩ := shape3 (p0 := p) (p := p ++ [84, 104, 101, 32, 115, 116, 111, 112, 32]) (l := q) (by simp only [List.length_append] at h ⊢; omega) rfl
    rw [e1]
    exact ⟨_, p', l', b', rfl, by rw [h1, List.append_assoc], h2⟩
  rw [e, Option.bind_some]
  dsimp only
  rw [if_neg (by simp)]
  rcases take_cases (p := p) (l := l) [70, 114, 111, 109, 32] (by omega) (by simp) with ⟨q, rfl, e⟩ | ⟨_, e⟩
  · rw [e, Option.bind_some]
    dsimp only
    rw [if_pos rfl]
    obtain ⟨w, v, t, u, p', l', b', e1, h1, h2⟩ := shape4 (p0 := p) (p := p ++ [70, 114, 111, 109, 32]) (l := q) (by simp only [List.length_append] at h ⊢; omega) rfl
    rw [e1]
    exact ⟨_, p', l', b', rfl, by rw [h1, List.append_assoc], h2⟩
  rw [e, Option.bind_some]
  dsimp only
  rw [if_neg (by simp)]
  obtain ⟨k, w, t, p', l', b', e1, h1, h2⟩ := shape5 (p0 := p) (l := l) h
  rw [e1]
  exact ⟨_, p', l', b', rfl, h1, h2⟩
theorem sen_len {m : Message} (h : MOK m) : (sen m).length ≤ 100 := by
  rcases mok_cases h with ⟨L, n, rfl, hL, h1, h2⟩ | ⟨L, a, rfl, hL, ha⟩ | ⟨S, a, b, rfl, hS, ha, hb⟩ | ⟨L, S, a, b, rfl, hL, hS, ha, hb⟩ | ⟨L, a, rfl, hL, ha⟩
  · have hl := hL.2
    have hn := num_len (n := n.toNat) (by omega)
    unfold sen
    rw [if_pos rfl, str_l]
    split <;> simp <;> omega
  · have hl := hL.2
    have k1 := clk_len a.toNat
    unfold sen; simp [str_l, k1]; omega
  · have hl := hS.2
    have k1 := clk_len a.toNat
    have k2 := clk_len b.toNat
    unfold sen; simp [str_l, k1, k2]; omega
  · have hl := hL.2
    have hl2 := hS.2
    have k1 := clk_len a.toNat
    have k2 := clk_len b.toNat
    unfold sen; simp [str_l, k1, k2]; omega
  · have hl := hL.2
    have k1 := clk_len a.toNat
    unfold sen; simp [str_l, k1]; omega
theorem sent_hit {m : Message} (h : MOK m) {p q : List UInt8} (hpq : p.length + q.length ≤ 1800000) : s_l24Reader_sentence (rdr p (sen m ++ q) false) = some (m, rdr (p ++ sen m) q false) := by
  rcases mok_cases h with ⟨L, n, rfl, hL, h1, h2⟩ | ⟨L, a, rfl, hL, ha⟩ | ⟨S, a, b, rfl, hS, ha, hb⟩ | ⟨L, S, a, b, rfl, hL, hS, ha, hb⟩ | ⟨L, a, rfl, hL, ha⟩
  · have hl := hL.2
    have hn := num_len (n := n.toNat) (by omega)
    have hnw : ∀ x ∈ num n.toNat, wch x := fun x hx => .inr ((num_can n.toNat).2.1 x hx)
    have key : ∀ C : List UInt8, C.length ≤ 20 → C = (if n = 1 then [32, 109, 105, 110, 117, 116, 101, 46] else [32, 109, 105, 110, 117, 116, 101, 115, 46]) → sen ⟨1, str L, str [], 0, 0, n⟩ = [76, 105, 110, 101, 32] ++ (L ++ ([32, 105, 115, 32, 100, 101, 108, 97, 121, 101, 100, 32, 98, 121, 32] ++ (num n.toNat ++ C))) := by
      intro C _ hC
      unfold sen
      rw [if_pos rfl, str_l, hC]
      simp only [List.append_assoc]
    have fin : ∀ C : List UInt8, C.length ≤ 20 → C.head? = some 32 → C = (if n = 1 then [32, 109, 105, 110, 117, 116, 101, 46] else [32, 109, 105, 110, 117, 116, 101, 115, 46]) →
        s_l24Reader_sentence (rdr p (sen ⟨1, str L, str [], 0, 0, n⟩ ++ q) false) = some (⟨1, str L, str [], 0, 0, n⟩, rdr (p ++ sen ⟨1, str L, str [], 0, 0, n⟩) q false) := by
      intro C hCl hC1 hC
      have e := key C hCl hC
      have e' : sen ⟨1, str L, str [], 0, 0, n⟩ ++ q = [76, 105, 110, 101, 32] ++ (L ++ ([32, 105, 115, 32, 100, 101, 108, 97, 121, 101, 100, 32, 98, 121, 32] ++ (num n.toNat ++ (C ++ q)))) := by rw [e]; simp only [List.append_assoc]
      have hCq : (C ++ q).head? = some 32 := by
        cases C with
        | nil => cases hC1
        | cons d r => exact hC1
      unfold s_l24Reader_sentence
      rw [e', take_hit (by simp; omega) (by simp), Option.bind_some]
      dsimp only
      rw [if_pos rfl, word_hit2 (c := 32) (by rfl) (by decide) hL.1 (by simp; omega), Option.bind_some]
      dsimp only
      rw [want_hit (by simp; omega) (by simp), Option.bind_some, word_hit2 hCq (by decide) hnw (by simp; omega), Option.bind_some]
      dsimp only
      rw [lread_num (by omega), Option.bind_some]
      have eb : (if (rdr (p ++ [76, 105, 110, 101, 32] ++ L ++ [32, 105, 115, 32, 100, 101, 108, 97, 121, 101, 100, 32, 98, 121, 32] ++ num n.toNat) (C ++ q) false).bad_ = true then some true else some (!true)) = some false := rfl
      have er : (⟨(rdr (p ++ [76, 105, 110, 101, 32] ++ L ++ [32, 105, 115, 32, 100, 101, 108, 97, 121, 101, 100, 32, 98, 121, 32] ++ num n.toNat) (C ++ q) false).s_, (rdr (p ++ [76, 105, 110, 101, 32] ++ L ++ [32, 105, 115, 32, 100, 101, 108, 97, 121, 101, 100, 32, 98, 121, 32] ++ num n.toNat) (C ++ q) false).at_, false⟩ : l24Reader) = rdr (p ++ [76, 105, 110, 101, 32] ++ L ++ [32, 105, 115, 32, 100, 101, 108, 97, 121, 101, 100, 32, 98, 121, 32] ++ num n.toNat) (C ++ q) false := rfl
      dsimp only
      rw [eb, Option.bind_some, er]
      have en : ((n.toNat : Nat) : Int) = n := by omega
      have ew := want_hit (p := p ++ [76, 105, 110, 101, 32] ++ L ++ [32, 105, 115, 32, 100, 101, 108, 97, 121, 101, 100, 32, 98, 121, 32] ++ num n.toNat) (l := q) (t := C) (by simp; omega) (by omega)
      have ep : p ++ sen ⟨1, str L, str [], 0, 0, n⟩ = p ++ [76, 105, 110, 101, 32] ++ L ++ [32, 105, 115, 32, 100, 101, 108, 97, 121, 101, 100, 32, 98, 121, 32] ++ num n.toNat ++ C := by rw [e]; simp only [List.append_assoc]
      rw [ep, en]
      by_cases h1 : n = 1
      · rw [if_pos h1] at hC
        rw [if_pos (by simp [h1]), ← hC, ew]; rfl
      · rw [if_neg h1] at hC
        rw [if_neg (by simp [h1]), ← hC, ew]; rfl
    by_cases h1 : n = 1
    · exact fin [32, 109, 105, 110, 117, 116, 101, 46] (by simp) rfl (by rw [if_pos h1])
    · exact fin [32, 109, 105, 110, 117, 116, 101, 115, 46] (by simp) rfl (by rw [if_neg h1])
  · exact sent_hit2 hL ha hpq
  · exact sent_hit3 hS ha hb hpq
  · exact sent_hit4 hL hS ha hb hpq
  · exact sent_hit5 hL ha hpq
/-! Fields of a sentence. -/
theorem cut_star (suf : List UInt8) (h : suf.length ≤ 1000) : strings_Cut (str (42 :: suf)) (str [42]) = some (str [], str suf, true) := by
  unfold strings_Cut cutM
  rw [if_pos (by rw [str_s, List.length_cons]; omega), str_l, str_l]
  have := cut1_hit (c := 42) (p := []) (by simp) suf
  rw [List.nil_append] at this
  rw [this]; rfl
theorem cut_lit (s : List UInt8) (h : s.length ≤ 1000) (h2 : 42 ∉ s) : strings_Cut (str s) (str [42]) = some (str s, str [], false) := by
  unfold strings_Cut cutM
  rw [if_pos (by rw [str_s]; omega), str_l, str_l, cut1_miss h2]; rfl
theorem cutp_nil (w : List UInt8) : strings_CutPrefix (str w) (str []) = some (str w, true) := by
  unfold strings_CutPrefix cutPrefixM Lib.trimPrefix Lib.hasPrefix
  rw [str_l, str_l]
  simp [List.isPrefixOf, str]
theorem cuts_ok (w s : List UInt8) (h : w.length ≤ 2000000) : strings_CutSuffix (str w) (str s) = some (if s.isSuffixOf w = true then (str (w.take (w.length - s.length)), true) else (str w, false)) := by
  unfold strings_CutSuffix cutSuffixM Lib.trimSuffix Lib.hasSuffix
  rw [if_pos (by rw [str_s]; omega), str_l, str_l]
  by_cases h1 : s.isSuffixOf w = true
  · simp [h1, str]
  · simp [h1, str]
theorem fields_loop : ∀ (ps2 : List (Bool × List UInt8)) (ws1 ws2 : List (List UInt8)) (ps1 : List (Bool × List UInt8)) (p : List (List UInt8)), ws1.length = ps1.length → ws2.length = ps2.length → p.length ≤ ps1.length → ps1.length + ps2.length ≤ 1000 → (∀ q ∈ ps2, 42 ∉ q.2 ∧ q.2.length ≤ 1000) → (∀ w ∈ ws2, w.length ≤ 2000000) →
    iter (i_fields_L1 ((ws1 ++ ws2).map str) ((ps1 ++ ps2).map fun q => str (ptx q))) ((ps1.length : Int), p.map str) = some (match fm ps2 ws2 with | some r => .go ((p ++ r).map str) | none => .ret ([], false))
  | [], ws1, [], ps1, p, h1, _, _, _, _, _ => by
    rw [iter_dn (b := .go (p.map str))]
    · simp [fm]
    · unfold i_fields_L1
      dsimp only
      rw [if_neg (by simp)]
  | q :: ps2, ws1, w :: ws2, ps1, p, h1, h2, h3, h4, hq, hw => by
    have iP : idx ((ps1 ++ q :: ps2).map fun q => str (ptx q)) (ps1.length : Int) = some (str (ptx q)) := ixs (by simp)
    have iW : idx ((ws1 ++ w :: ws2).map str) (ps1.length : Int) = some (str w) := ixs (by rw [← h1]; simp)
    have hlt : decide ((ps1.length : Int) < (((ps1 ++ q :: ps2).map fun q => str (ptx q)).length : Int)) = true := by simp; omega
    simp only [List.length_cons] at h2 h4
    have eW : (ws1 ++ [w]) ++ ws2 = ws1 ++ w :: ws2 := by simp
    have eP : (ps1 ++ [q]) ++ ps2 = ps1 ++ q :: ps2 := by simp
    have hwl := hw w (by simp)
    have ih : ∀ p', p'.length ≤ ps1.length + 1 → iter (i_fields_L1 ((ws1 ++ w :: ws2).map str) ((ps1 ++ q :: ps2).map fun q => str (ptx q))) (((ps1.length + 1 : Nat) : Int), p'.map str) = some (match fm ps2 ws2 with | some r => .go ((p' ++ r).map str) | none => .ret ([], false)) := by
      intro p' hp'
      have := fields_loop ps2 (ws1 ++ [w]) ws2 (ps1 ++ [q]) p' (by simp [h1]) (by omega) (by simpa using hp') (by simp; omega) (fun x hx => hq x (by simp [hx])) (fun x hx => hw x (by simp [hx]))
      rw [eW, eP, List.length_append, List.length_cons, List.length_nil] at this
      exact this
    obtain ⟨q1, q2⟩ := hq q (by simp)
    obtain ⟨b, s⟩ := q
    dsimp only at q1 q2
    cases b with
    | true =>
      have ex : ptx (true, s) = 42 :: s := rfl
      by_cases hs : s.isSuffixOf w = true
      · have step : i_fields_L1 ((ws1 ++ w :: ws2).map str) ((ps1 ++ (true, s) :: ps2).map fun q => str (ptx q)) ((ps1.length : Int), p.map str) = some (.nx (((ps1.length + 1 : Nat) : Int), (p ++ [w.take (w.length - s.length)]).map str)) := by
          unfold i_fields_L1
          dsimp only
          rw [if_pos hlt, iP, Option.bind_some, ex, cut_star s q2, Option.bind_some, iW, Option.bind_some]
          dsimp only
          rw [if_neg (by simp), Option.bind_some, if_neg (by simp), if_pos rfl, cutp_nil, Option.bind_some]
          dsimp only
          rw [cuts_ok w s hwl, if_pos hs, Option.bind_some]
          dsimp only
          rw [if_neg (by simp), Option.bind_some, if_neg (by simp), chk_of (by simp; omega), Option.bind_some, w64_succ (by omega)]
          simp [flb]
        rw [iter_nx step, ih _ (by simp; omega)]
        rw [fm, if_pos rfl, if_pos hs]
        cases fm ps2 ws2 with
        | none => rfl
        | some r => simp
      · have step : i_fields_L1 ((ws1 ++ w :: ws2).map str) ((ps1 ++ (true, s) :: ps2).map fun q => str (ptx q)) ((ps1.length : Int), p.map str) = some (.dn (.ret ([], false))) := by
          unfold i_fields_L1
          dsimp only
          rw [if_pos hlt, iP, Option.bind_some, ex, cut_star s q2, Option.bind_some, iW, Option.bind_some]
          dsimp only
          rw [if_neg (by simp), Option.bind_some, if_neg (by simp), if_pos rfl, cutp_nil, Option.bind_some]
          dsimp only
          rw [cuts_ok w s hwl, if_neg hs, Option.bind_some]
          rfl
        rw [iter_dn step, fm, if_pos rfl, if_neg hs]
    | false =>
      have ex : ptx (false, s) = s := rfl
      by_cases hs : w = s
      · have step : i_fields_L1 ((ws1 ++ w :: ws2).map str) ((ps1 ++ (false, s) :: ps2).map fun q => str (ptx q)) ((ps1.length : Int), p.map str) = some (.nx (((ps1.length + 1 : Nat) : Int), p.map str)) := by
          unfold i_fields_L1
          dsimp only
          rw [if_pos hlt, iP, Option.bind_some, ex, cut_lit s q2 q1, Option.bind_some, iW, Option.bind_some]
          dsimp only
          rw [if_pos (by simp), beq_str, decide_eq_true hs, Option.bind_some, if_neg (by simp), if_neg (by simp), w64_succ (by omega)]
          rfl
        rw [iter_nx step, ih _ (by omega)]
        rw [fm, if_neg (by simp), if_pos hs]
      · have step : i_fields_L1 ((ws1 ++ w :: ws2).map str) ((ps1 ++ (false, s) :: ps2).map fun q => str (ptx q)) ((ps1.length : Int), p.map str) = some (.dn (.ret ([], false))) := by
          unfold i_fields_L1
          dsimp only
          rw [if_pos hlt, iP, Option.bind_some, ex, cut_lit s q2 q1, Option.bind_some, iW, Option.bind_some]
          dsimp only
          rw [if_pos (by simp), beq_str, decide_eq_false hs, Option.bind_some]
          rfl
        rw [iter_dn step, fm, if_neg (by simp), if_neg hs]
theorem fields_eq {l pat : List UInt8} {ps : List (Bool × List UInt8)} (hp : spl1 32 pat = ps.map ptx ∧ pat.length ≤ 1000 ∧ ∀ q ∈ ps, 42 ∉ q.2) (hn : ps.length ≤ 100) (hs : ∀ q ∈ ps, q.2.length ≤ 1000) (hl : l.length ≤ 1048576) :
    i_fields (str l) (str pat) = some (match flds ps (spl1 32 l) with | some r => (r.map str, true) | none => ([], false)) := by
  unfold i_fields
  rw [split_ok l 32 (by omega), Option.bind_some, split_ok pat 32 (by omega), Option.bind_some, hp.1, List.length_map, List.length_map, List.length_map]
  unfold flds
  by_cases h : (spl1 32 l).length = ps.length
  · rw [if_neg (by simp [h]), if_pos h]
    have hlp := fields_loop ps [] (spl1 32 l) [] [] rfl h (by simp) (by simp; omega) (fun q hq => ⟨hp.2.2 q hq, hs q hq⟩) (fun w hw => Nat.le_trans (spl1_len 32 l w hw) (by omega))
    rw [List.nil_append, List.nil_append] at hlp
    have e : (List.map str (List.map ptx ps)) = ps.map fun q => str (ptx q) := by rw [List.map_map]; rfl
    have hlp : iter (i_fields_L1 ((spl1 32 l).map str) (ps.map fun q => str (ptx q))) ((0 : Int), ([] : List ByteArray)) = _ := hlp
    rw [e, hlp]
    cases fm ps (spl1 32 l) with
    | none => rfl
    | some r => rfl
  · rw [if_pos (by simp; omega), if_neg h]
/-! Times and numbers in the fields. -/
instance (x : UInt8) : Decidable (Dig x) := by unfold Dig; infer_instance
theorem ptime_loop (a b c d e : UInt8) : iter (i_ParseTime_L1 (str [a, b, c, d, e])) (0 : Int) = some (if Dig a ∧ Dig b ∧ Dig d ∧ Dig e then .go () else .ret (0, false)) := by
  have st : ∀ (i j : Int) (x : UInt8), idx ([0, 1, 3, 4] : List Int) i = some j → 0 ≤ i ∧ i < 4 → 0 ≤ j ∧ j < 5 → [a, b, c, d, e].getD j.toNat 0 = x → i_ParseTime_L1 (str [a, b, c, d, e]) i = some (if Dig x then .nx (w64 (i + 1)) else .dn (.ret (0, false))) := by
    intro i j x h1 h2 h3 h4
    unfold i_ParseTime_L1
    dsimp only
    rw [if_pos (by simp only [decide_eq_true_eq]; omega), chk_of h2, Option.bind_some, h1, Option.bind_some, chk_of ⟨h3.1, by rw [str_s]; exact h3.2⟩, Option.bind_some, Option.bind_some, str_l, h4]
    have hD : Dig x ↔ 48 ≤ x.toNat ∧ x.toNat ≤ 57 := Iff.rfl
    by_cases k1 : (x.toNat : Int) < 48
    · rw [decide_eq_true k1, if_pos rfl, Option.bind_some, if_pos rfl, if_neg (by rw [hD]; omega)]
    · rw [decide_eq_false k1, if_neg (by simp), Option.bind_some]
      by_cases k2 : (57 : Int) < x.toNat
      · rw [decide_eq_true k2, if_pos rfl, if_neg (by rw [hD]; omega)]
      · rw [decide_eq_false k2, if_neg (by simp), if_pos (by rw [hD]; omega)]
  have e4 : i_ParseTime_L1 (str [a, b, c, d, e]) (4 : Int) = some (.dn (.go ())) := rfl
  have s0 := st 0 0 a rfl (by omega) (by omega) rfl
  have s1 := st 1 1 b rfl (by omega) (by omega) rfl
  have s2 := st 2 3 d rfl (by omega) (by omega) rfl
  have s3 := st 3 4 e rfl (by omega) (by omega) rfl
  by_cases ha : Dig a
  · rw [if_pos ha] at s0
    rw [iter_nx s0, show w64 (0 + 1) = 1 from rfl]
    by_cases hb : Dig b
    · rw [if_pos hb] at s1
      rw [iter_nx s1, show w64 (1 + 1) = 2 from rfl]
      by_cases hd : Dig d
      · rw [if_pos hd] at s2
        rw [iter_nx s2, show w64 (2 + 1) = 3 from rfl]
        by_cases he : Dig e
        · rw [if_pos he] at s3
          rw [iter_nx s3, show w64 (3 + 1) = 4 from rfl, iter_dn e4, if_pos ⟨ha, hb, hd, he⟩]
        · rw [if_neg he] at s3
          rw [iter_dn s3, if_neg (fun h => he h.2.2.2)]
      · rw [if_neg hd] at s2
        rw [iter_dn s2, if_neg (fun h => hd h.2.2.1)]
    · rw [if_neg hb] at s1
      rw [iter_dn s1, if_neg (fun h => hb h.2.1)]
  · rw [if_neg ha] at s0
    rw [iter_dn s0, if_neg (fun h => ha h.1)]
def pv (a b d e : UInt8) : Int := (((a.toNat : Int) - 48) * 10 + ((b.toNat : Int) - 48)) * 60 + ((d.toNat : Int) - 48) * 10 + ((e.toNat : Int) - 48)
theorem ptime_five (a b c d e : UInt8) : Tot (i_ParseTime (str [a, b, c, d, e])) fun r => Dig a → Dig b → c = 58 → Dig d → Dig e → d.toNat ≤ 53 → 0 ≤ pv a b d e ∧ pv a b d e ≤ 1799 → r = (pv a b d e, true) := by
  have ck : ∀ i : Int, 0 ≤ i → i < 5 → chk ((0 : Int) ≤ i ∧ i < ((str [a, b, c, d, e]).size : Int)) = some () := fun i h0 h1 => chk_of ⟨h0, by rw [str_s]; simpa using h1⟩
  unfold i_ParseTime
  rw [if_neg (by rw [str_s]; simp), ck 2 (by omega) (by omega), Option.bind_some, Option.bind_some]
  have g0 : (str [a, b, c, d, e]).data.toList.getD (0 : Int).toNat 0 = a := rfl
  have g1 : (str [a, b, c, d, e]).data.toList.getD (1 : Int).toNat 0 = b := rfl
  have g2 : (str [a, b, c, d, e]).data.toList.getD (2 : Int).toNat 0 = c := rfl
  have g3 : (str [a, b, c, d, e]).data.toList.getD (3 : Int).toNat 0 = d := rfl
  have g4 : (str [a, b, c, d, e]).data.toList.getD (4 : Int).toNat 0 = e := rfl
  rw [g0, g1, g2, g3, g4, ck 0 (by omega) (by omega), ck 1 (by omega) (by omega), ck 3 (by omega) (by omega), ck 4 (by omega) (by omega), ptime_loop]
  by_cases hc : c = 58
  · rw [if_neg (by simp [hc])]
    by_cases hd : Dig a ∧ Dig b ∧ Dig d ∧ Dig e
    · rw [if_pos hd]
      simp only [flb, Option.bind_some]
      have ha := hd.1; have hb := hd.2.1; have h3 := hd.2.2.1; have h4 := hd.2.2.2
      unfold Dig at ha hb h3 h4
      have ev : (w64 ((w64 ((w64 ((w64 ((w64 ((w64 ((IntKind.u8.wrap ((a.toNat : Int) - 48)))) * 10)) + (w64 ((IntKind.u8.wrap ((b.toNat : Int) - 48)))))) * 60)) + (w64 ((w64 ((IntKind.u8.wrap ((d.toNat : Int) - 48)))) * 10)))) + (w64 ((IntKind.u8.wrap ((e.toNat : Int) - 48)))))) = pv a b d e := by
        rw [IntKind.wrap_u8, IntKind.wrap_u8, IntKind.wrap_u8, IntKind.wrap_u8]
        have q1 : ((a.toNat : Int) - 48) % 256 = (a.toNat : Int) - 48 := by omega
        have q2 : ((b.toNat : Int) - 48) % 256 = (b.toNat : Int) - 48 := by omega
        have q3 : ((d.toNat : Int) - 48) % 256 = (d.toNat : Int) - 48 := by omega
        have q4 : ((e.toNat : Int) - 48) % 256 = (e.toNat : Int) - 48 := by omega
        rw [q1, q2, q3, q4]
        unfold pv
        simp (disch := omega) only [w64_id]
      rw [ev, itime_eq]
      by_cases h5 : (53 : Int) < d.toNat
      · rw [decide_eq_true h5]
        exact .ok fun _ _ _ _ _ h6 => absurd h6 (by omega)
      · rw [decide_eq_false h5]
        by_cases h7 : 0 ≤ pv a b d e ∧ pv a b d e ≤ 1799
        · rw [decide_eq_true h7]
          exact .ok fun _ _ _ _ _ _ _ => rfl
        · rw [decide_eq_false h7]
          exact .ok fun _ _ _ _ _ _ h8 => absurd h8 h7
    · rw [if_neg hd]
      exact .ok fun h1 h2 _ h3 h4 => absurd ⟨h1, h2, h3, h4⟩ hd
  · have : (((c.toNat : Int)) != 58) = true := by
      simp only [bne_iff_ne, ne_eq]
      intro h
      exact hc (UInt8.toNat_inj.1 (by show c.toNat = 58; omega))
    rw [if_pos this]
    exact .ok fun _ _ h => absurd h hc
theorem ptime_tot (w : List UInt8) : ∃ r, i_ParseTime (str w) = some r := by
  by_cases h : w.length = 5
  · obtain ⟨a, b, c, d, e, rfl⟩ := five h
    obtain ⟨r, hr, _⟩ := ptime_five a b c d e
    exact ⟨r, hr⟩
  · refine ⟨(0, false), ?_⟩
    unfold i_ParseTime
    rw [if_pos (by rw [str_s]; simp; omega)]
    rfl
theorem ptime_hit {a : Int} (ha : TmOK a) : i_ParseTime (str (clk a.toNat)) = some (a, true) := by
  obtain ⟨h0, h1⟩ := ha
  obtain ⟨n, rfl⟩ : ∃ n : Nat, a = n := ⟨a.toNat, by omega⟩
  have hn : n ≤ 1799 := by omega
  rw [Int.toNat_natCast]
  obtain ⟨r, hr, hq⟩ := ptime_five (UInt8.ofNat (48 + n / 60 / 10)) (UInt8.ofNat (48 + n / 60 % 10)) 58 (UInt8.ofNat (48 + n % 60 / 10)) (UInt8.ofNat (48 + n % 60 % 10))
  have e : pv (UInt8.ofNat (48 + n / 60 / 10)) (UInt8.ofNat (48 + n / 60 % 10)) (UInt8.ofNat (48 + n % 60 / 10)) (UInt8.ofNat (48 + n % 60 % 10)) = n := by
    unfold pv
    rw [UInt8.toNat_ofNat', UInt8.toNat_ofNat', UInt8.toNat_ofNat', UInt8.toNat_ofNat']
    omega
  have hr2 := hq (by unfold Dig; rw [UInt8.toNat_ofNat']; omega) (by unfold Dig; rw [UInt8.toNat_ofNat']; omega) rfl (by unfold Dig; rw [UInt8.toNat_ofNat']; omega) (by unfold Dig; rw [UInt8.toNat_ofNat']; omega) (by rw [UInt8.toNat_ofNat']; omega) (by rw [e]; omega)
  rw [e] at hr2
  rw [← hr2]
  exact hr
theorem pint_hit {n : Int} (h0 : 0 ≤ n) (h1 : n < 1000000) : i_ParseInt (str (num n.toNat)) = some (n, true) := by
  have hl := num_len (n := n.toNat) (by omega)
  obtain ⟨r, hr, h⟩ := ipi_ok (num n.toNat) (by omega)
  have e : Lib.itoa n = num n.toNat := itoa_n h0
  rcases h with ⟨k, hk, hs, rfl⟩ | ⟨_, h⟩
  · rw [← e] at hs
    rw [hr, itoa_inj hs]
  · exact absurd ⟨n, by unfold InI; omega, e.symm⟩ h
/-! The law. -/
theorem fld_any {l pat : List UInt8} {ps : List (Bool × List UInt8)} (hp : spl1 32 pat = ps.map ptx ∧ pat.length ≤ 1000 ∧ ∀ q ∈ ps, 42 ∉ q.2) (hn : ps.length ≤ 100) (hs : ∀ q ∈ ps, q.2.length ≤ 1000) (hl : l.length ≤ 1048576) :
    (∃ r : List (List UInt8), r.length = (ps.filter (·.1)).length ∧ (∀ w ∈ r, w.length ≤ 1048576) ∧ i_fields (str l) (str pat) = some (r.map str, true)) ∨ i_fields (str l) (str pat) = some ([], false) := by
  have h := fields_eq hp hn hs hl
  cases hf : flds ps (spl1 32 l) with
  | none => rw [hf] at h; exact .inr h
  | some r =>
    rw [hf] at h
    refine .inl ⟨r, flds_len hf, ?_, h⟩
    unfold flds at hf
    split at hf
    · exact fm_mem (fun w hw => Nat.le_trans (spl1_len 32 l w hw) hl) hf
    · cases hf
theorem fld_hit {l pat : List UInt8} {ps : List (Bool × List UInt8)} {ws r : List (List UInt8)} (hp : spl1 32 pat = ps.map ptx ∧ pat.length ≤ 1000 ∧ ∀ q ∈ ps, 42 ∉ q.2) (hn : ps.length ≤ 100) (hs : ∀ q ∈ ps, q.2.length ≤ 1000) (hl : l.length ≤ 1048576) (hw : spl1 32 l = ws) (hr : flds ps ws = some r) :
    i_fields (str l) (str pat) = some (r.map str, true) := by
  rw [fields_eq hp hn hs hl, hw, hr]
theorem fld_miss {l pat : List UInt8} {ps : List (Bool × List UInt8)} {ws : List (List UInt8)} (hp : spl1 32 pat = ps.map ptx ∧ pat.length ≤ 1000 ∧ ∀ q ∈ ps, 42 ∉ q.2) (hn : ps.length ≤ 100) (hs : ∀ q ∈ ps, q.2.length ≤ 1000) (hl : l.length ≤ 1048576) (hw : spl1 32 l = ws) (hr : flds ps ws = none) :
    i_fields (str l) (str pat) = some ([], false) := by
  rw [fields_eq hp hn hs hl, hw, hr]
theorem pint_tot (w : List UInt8) (h : w.length ≤ 1048576) : ∃ r, i_ParseInt (str w) = some r := by
  obtain ⟨r, hr, _⟩ := ipi_ok w (by omega)
  exact ⟨r, hr⟩
theorem pm_tot (l : List UInt8) (hl : l.length ≤ 1048576) : ∃ m, i_parseMessage (str l) = some m := by
  unfold i_parseMessage
  rcases fld_any pt1_ok (by decide) (by decide) hl with ⟨r, hr, hm, e⟩ | e
  · rw [e, Option.bind_some]
    match r, hr, hm with
    | [x, y, z], _, hm =>
      obtain ⟨v, hv⟩ := pint_tot y (hm y (by simp))
      rw [if_pos rfl, show idx (([x, y, z].map str, true) : List ByteArray × Bool).1 1 = some (str y) from rfl, Option.bind_some, hv, Option.bind_some]
      exact ⟨_, rfl⟩
  rw [e, Option.bind_some, if_neg (by simp)]
  rcases fld_any pt2_ok (by decide) (by decide) hl with ⟨r, hr, hm, e⟩ | e
  · rw [e, Option.bind_some]
    match r, hr, hm with
    | [x, y], _, hm =>
      obtain ⟨v, hv⟩ := ptime_tot y
      rw [if_pos rfl, show idx (([x, y].map str, true) : List ByteArray × Bool).1 1 = some (str y) from rfl, Option.bind_some, hv, Option.bind_some]
      exact ⟨_, rfl⟩
  rw [e, Option.bind_some, if_neg (by simp)]
  rcases fld_any pt3_ok (by decide) (by decide) hl with ⟨r, hr, hm, e⟩ | e
  · rw [e, Option.bind_some]
    match r, hr, hm with
    | [x, y, z], _, hm =>
      obtain ⟨v, hv⟩ := ptime_tot y
      obtain ⟨u, hu⟩ := ptime_tot z
      rw [if_pos rfl, show idx (([x, y, z].map str, true) : List ByteArray × Bool).1 1 = some (str y) from rfl, Option.bind_some, hv, Option.bind_some, show idx (([x, y, z].map str, true) : List ByteArray × Bool).1 2 = some (str z) from rfl, Option.bind_some, hu, Option.bind_some]
      exact ⟨_, rfl⟩
  rw [e, Option.bind_some, if_neg (by simp)]
  rcases fld_any pt4_ok (by decide) (by decide) hl with ⟨r, hr, hm, e⟩ | e
  · rw [e, Option.bind_some]
    match r, hr, hm with
    | [x, y, z, w], _, hm =>
      obtain ⟨v, hv⟩ := ptime_tot x
      obtain ⟨u, hu⟩ := ptime_tot y
      rw [if_pos rfl, show idx (([x, y, z, w].map str, true) : List ByteArray × Bool).1 0 = some (str x) from rfl, Option.bind_some, hv, Option.bind_some, show idx (([x, y, z, w].map str, true) : List ByteArray × Bool).1 1 = some (str y) from rfl, Option.bind_some, hu, Option.bind_some]
      exact ⟨_, rfl⟩
  rw [e, Option.bind_some, if_neg (by simp)]
  rcases fld_any pt5_ok (by decide) (by decide) hl with ⟨r, hr, hm, e⟩ | e
  · rw [e, Option.bind_some]
    match r, hr, hm with
    | [x, y], _, hm =>
      obtain ⟨v, hv⟩ := ptime_tot y
      rw [if_pos rfl, show idx (([x, y].map str, true) : List ByteArray × Bool).1 1 = some (str y) from rfl, Option.bind_some, hv, Option.bind_some]
      exact ⟨_, rfl⟩
  rw [e, Option.bind_some, if_neg (by simp)]
  exact ⟨_, rfl⟩
theorem pm_hit {m : Message} (h : MOK m) : i_parseMessage (str (sen m)) = some m := by
  have hl : (sen m).length ≤ 1048576 := Nat.le_trans (sen_len h) (by omega)
  have h32 : ∀ {L : List UInt8}, NmL L → 32 ∉ L := fun h => nm_no h (by decide)
  unfold i_parseMessage
  rcases mok_cases h with ⟨L, n, rfl, hL, h1, h2⟩ | ⟨L, a, rfl, hL, ha⟩ | ⟨S, a, b, rfl, hS, ha, hb⟩ | ⟨L, S, a, b, rfl, hL, hS, ha, hb⟩ | ⟨L, a, rfl, hL, ha⟩
  · have hw := spl_sen1 (n := n) (h32 hL)
    rw [fld_hit pt1_ok (by decide) (by decide) hl hw (f1_1 L n), Option.bind_some, if_pos rfl, show idx (([L, num n.toNat, unit0 n].map str, true) : List ByteArray × Bool).1 1 = some (str (num n.toNat)) from rfl, Option.bind_some, pint_hit (by omega) (by omega), Option.bind_some]
    rfl
  · have hw := spl_sen2 (h32 hL) ha
    rw [fld_miss pt1_ok (by decide) (by decide) hl hw (f1_2 L a), Option.bind_some, if_neg (by simp), fld_hit pt2_ok (by decide) (by decide) hl hw (f2_2 L a), Option.bind_some, if_pos rfl, show idx (([L, clk a.toNat].map str, true) : List ByteArray × Bool).1 1 = some (str (clk a.toNat)) from rfl, Option.bind_some, ptime_hit ha, Option.bind_some]
    rfl
  · have hw := spl_sen3 (h32 hS) ha hb
    rw [fld_miss pt1_ok (by decide) (by decide) hl hw (f1_3 S a b), Option.bind_some, if_neg (by simp), fld_miss pt2_ok (by decide) (by decide) hl hw (f2_3 S a b), Option.bind_some, if_neg (by simp), fld_hit pt3_ok (by decide) (by decide) hl hw (f3_3 S a b), Option.bind_some, if_pos rfl, show idx (([S, clk a.toNat, clk b.toNat].map str, true) : List ByteArray × Bool).1 1 = some (str (clk a.toNat)) from rfl, Option.bind_some, ptime_hit ha, Option.bind_some, show idx (([S, clk a.toNat, clk b.toNat].map str, true) : List ByteArray × Bool).1 2 = some (str (clk b.toNat)) from rfl, Option.bind_some, ptime_hit hb, Option.bind_some]
    rfl
  · have hw := spl_sen4 (h32 hL) (h32 hS) ha hb
    rw [fld_miss pt1_ok (by decide) (by decide) hl hw (f1_4 L S a b), Option.bind_some, if_neg (by simp), fld_miss pt2_ok (by decide) (by decide) hl hw (f2_4 L S a b), Option.bind_some, if_neg (by simp), fld_miss pt3_ok (by decide) (by decide) hl hw (f3_4 L S a b), Option.bind_some, if_neg (by simp), fld_hit pt4_ok (by decide) (by decide) hl hw (f4_4 L S a b), Option.bind_some, if_pos rfl, show idx (([clk a.toNat, clk b.toNat, L, S].map str, true) : List ByteArray × Bool).1 0 = some (str (clk a.toNat)) from rfl, Option.bind_some, ptime_hit ha, Option.bind_some, show idx (([clk a.toNat, clk b.toNat, L, S].map str, true) : List ByteArray × Bool).1 1 = some (str (clk b.toNat)) from rfl, Option.bind_some, ptime_hit hb, Option.bind_some]
    rfl
  · have hw := spl_sen5 (h32 hL) ha
    rw [fld_miss pt1_ok (by decide) (by decide) hl hw (f1_5 L a), Option.bind_some, if_neg (by simp), fld_miss pt2_ok (by decide) (by decide) hl hw (f2_5 L a), Option.bind_some, if_neg (by simp), fld_miss pt3_ok (by decide) (by decide) hl hw (f3_5 L a), Option.bind_some, if_neg (by simp), fld_miss pt4_ok (by decide) (by decide) hl hw (f4_5 L a), Option.bind_some, if_neg (by simp), fld_hit pt5_ok (by decide) (by decide) hl hw (f5_5 L a), Option.bind_some, if_pos rfl, show idx (([L, clk a.toNat].map str, true) : List ByteArray × Bool).1 1 = some (str (clk a.toNat)) from rfl, Option.bind_some, ptime_hit ha, Option.bind_some]
    rfl
def noM : Message := ⟨0, ByteArray.empty, ByteArray.empty, 0, 0, 0⟩
/-- What both answer. -/
def PM (l : List UInt8) (r : Message × Bool) : Prop := (∃ m, MOK m ∧ l = sen m ∧ r = (m, true)) ∨ (r = (noM, false) ∧ ¬ ∃ m, MOK m ∧ l = sen m)
theorem ipm_ok (l : List UInt8) (hl : l.length ≤ 1048576) : Tot (i_ParseMessage (str l)) (PM l) := by
  unfold i_ParseMessage
  obtain ⟨m, hm⟩ := pm_tot l hl
  rw [hm, Option.bind_some]
  have hno : ∀ m', MOK m' → l = sen m' → m = m' := fun m' h1 h2 => by
    rw [h2, pm_hit h1] at hm
    exact (Option.some.inj hm).symm
  refine .call (ivalid_ok m) fun b hb => ?_
  cases b with
  | false =>
    refine .ok (.inr ⟨rfl, fun ⟨m', h1, h2⟩ => ?_⟩)
    rw [hno m' h1 h2] at hb
    have := hb.2 h1; cases this
  | true =>
    have hM := hb.1 rfl
    rw [if_neg (by simp), itext_ok hM, Option.bind_some, beq_str, Option.bind_some]
    by_cases h : sen m = l
    · rw [decide_eq_true h]
      exact .ok (.inl ⟨m, hM, h.symm, rfl⟩)
    · rw [decide_eq_false h]
      refine .ok (.inr ⟨rfl, fun ⟨m', h1, h2⟩ => ?_⟩)
      rw [hno m' h1 h2] at h
      exact h h2.symm
theorem sen_inj {a b : Message} (ha : MOK a) (hb : MOK b) (h : sen a = sen b) : a = b := by
  have h1 := pm_hit ha
  rw [h, pm_hit hb] at h1
  exact (Option.some.inj h1).symm
theorem pm_same {l : List UInt8} {r s : Message × Bool} (h1 : PM l r) (h2 : PM l s) : r = s := by
  rcases h1 with ⟨m, a, b, rfl⟩ | ⟨rfl, a⟩ <;> rcases h2 with ⟨m', a', b', rfl⟩ | ⟨rfl, a'⟩
  · rw [sen_inj a a' (b.symm.trans b')]
  · exact absurd ⟨m, a, b⟩ a'
  · exact absurd ⟨m', a', b'⟩ a
  · rfl
theorem eqm_self (m : Message) : v_eqMessage m m = some true := by
  unfold v_eqMessage
  simp
/-! Notices and their texts. -/
def ntc (ms : List Message) : List UInt8 := Lib.join (ms.map sen) [32]
def NOK (ms : List Message) : Prop := ms.length ≤ 10 ∧ ∀ m ∈ ms, MOK m
theorem jn_nil : Lib.join [] [32] = [] := rfl
theorem jn_one (a : List UInt8) : Lib.join [a] [32] = a := by simp [Lib.join, List.intercalate]
theorem jn_cons (a b : List UInt8) (l : List (List UInt8)) : Lib.join (a :: b :: l) [32] = a ++ 32 :: Lib.join (b :: l) [32] := by simp [Lib.join, List.intercalate]
theorem jn_snoc : ∀ {xs : List (List UInt8)} (a : List UInt8), xs ≠ [] → Lib.join (xs ++ [a]) [32] = Lib.join xs [32] ++ 32 :: a
  | [x], a, _ => by rw [List.singleton_append, jn_cons, jn_one, jn_one]
  | x :: y :: xs, a, _ => by
    have ih := jn_snoc (xs := y :: xs) a (by simp)
    rw [List.cons_append] at ih
    rw [List.cons_append, List.cons_append, jn_cons, jn_cons, ih]
    simp
theorem ntc_snoc {ms : List Message} (m : Message) (h : ms ≠ []) : ntc (ms ++ [m]) = ntc ms ++ 32 :: sen m := by
  unfold ntc
  rw [List.map_append]
  exact jn_snoc _ (by simpa using h)
theorem ntc_one (m : Message) : ntc [m] = sen m := jn_one _
theorem ntc_cons (m n : Message) (ms : List Message) : ntc (m :: n :: ms) = sen m ++ 32 :: ntc (n :: ms) := jn_cons _ _ _
theorem ntc_len : ∀ {ms : List Message}, (∀ m ∈ ms, MOK m) → (ntc ms).length ≤ 101 * ms.length
  | [], _ => by simp [ntc, jn_nil]
  | [m], h => by rw [ntc_one]; have := sen_len (h m (by simp)); simp; omega
  | m :: n :: ms, h => by
    have ih := ntc_len (ms := n :: ms) (fun x hx => h x (by simp [hx]))
    have := sen_len (h m (by simp))
    rw [ntc_cons, List.length_append, List.length_cons]
    simp only [List.length_cons] at ih ⊢
    omega
theorem get_nat {α : Type} {l : List α} {i : Nat} {x : α} (h : l[(i : Int).toNat]? = some x) : l[i]? = some x := by rwa [Int.toNat_natCast] at h
theorem mem_take_succ {α : Type} {P : α → Prop} {l : List α} {i : Nat} {x : α} (hx : l[i]? = some x) (h : ∀ m ∈ l.take i, P m) (hp : P x) : ∀ m ∈ l.take (i + 1), P m := by
  intro m hm
  rw [take_succ hx] at hm
  rcases List.mem_append.1 hm with hm | hm
  · exact h m hm
  · simp at hm; subst hm; exact hp
theorem lnotice_ok (l : List Message) (hl : l.length ≤ 1000000) : Tot (s_l24Notice l) fun b => b = true ↔ NOK l := by
  unfold s_l24Notice
  refine Tot.flb (Tot.iter (fun n (v : Int) => ∃ i : Nat, n + i = l.length ∧ v = (i : Int) ∧ ∀ m ∈ l.take i, MOK m) (n := l.length) ⟨0, by omega, rfl, by simp⟩ ?_)
  rintro n _ ⟨i, hn, rfl, hi⟩
  unfold s_l24Notice_L1
  dsimp only
  refine .iteP (fun hlt => .idx (by omega) hlt fun x hx => .call (lgood_ok x) fun b hb => .ite (fun h => .dn ⟨fun r hr => ?_, fun u hu => (by cases hu)⟩) (fun h => .nx ⟨n - 1, by omega, i + 1, by omega, w64_succ (by omega), ?_⟩)) (fun hge => .dn ⟨fun r hr => (by cases hr), fun u _ => .ok ?_⟩)
  · cases hr
    refine ⟨fun h2 => (by cases h2), fun h2 => ?_⟩
    have := hb.2 (h2.2 x (List.mem_of_getElem? (get_nat hx)))
    rw [this] at h; cases h
  · exact mem_take_succ (get_nat hx) hi (hb.1 (by simpa using h))
  · have : i = l.length := by omega
    subst this
    rw [List.take_length] at hi
    rw [decide_eq_true_eq]
    exact ⟨fun h => ⟨by omega, hi⟩, fun h => by have := h.1; omega⟩
/-- What both answer about a message's text and a notice's. -/
def TM (m : Message) (r : ByteArray × Bool) : Prop := (MOK m ∧ r = (str (sen m), true)) ∨ (¬ MOK m ∧ r = (str [], false))
def TN (l : List Message) (r : ByteArray × Bool) : Prop := (NOK l ∧ r = (str (ntc l), true)) ∨ (¬ NOK l ∧ r = (str [], false))
/-! Notices that the reader reads. -/
def PN (l : List UInt8) (r : List Message × Bool) : Prop := (∃ ms, NOK ms ∧ l = ntc ms ∧ r = (ms, true)) ∨ (r = ([], false) ∧ ¬ ∃ ms, NOK ms ∧ l = ntc ms)
/-- Where the reader is: what it has read, and what lies before it. -/
def RS (l : List UInt8) (k : Nat) (s : List Message × ByteArray × Int × Bool) : Prop :=
  ∃ (out : List Message) (p q : List UInt8) (b : Bool), s = (out, str l, (p.length : Int), b) ∧ p ++ q = l ∧ k + out.length = 11 ∧ (b = false → p = ntc out) ∧ (∀ ms, NOK ms → l = ntc ms → b = false ∧ out <+: ms)
theorem rdr_of {l p q : List UInt8} {b : Bool} (h : p ++ q = l) : (⟨str l, (p.length : Int), b⟩ : l24Reader) = rdr p q b := by
  subst h; rfl
theorem pre_full {α : Type} {a b : List α} (h : a <+: b) (hl : b.length ≤ a.length) : a = b := by
  obtain ⟨t, rfl⟩ := h
  rw [List.length_append] at hl
  have : t = [] := List.eq_nil_of_length_eq_zero (by omega)
  rw [this, List.append_nil]
/-- What follows in the text of a notice. -/
theorem ntc_rest : ∀ {a : List Message} {m : Message} {t : List Message}, a ≠ [] → ∃ r, ntc (a ++ m :: t) = ntc a ++ 32 :: (sen m ++ r) ∧ (t = [] → r = [])
  | [x], m, [], _ => ⟨[], by rw [List.singleton_append, ntc_cons, ntc_one, ntc_one, List.append_nil], fun _ => rfl⟩
  | [x], m, n :: t, _ => ⟨32 :: ntc (n :: t), by rw [List.singleton_append, ntc_cons, ntc_cons, ntc_one], fun h => by cases h⟩
  | x :: y :: a, m, t, _ => by
    obtain ⟨r, h1, h2⟩ := ntc_rest (a := y :: a) (m := m) (t := t) (by simp)
    refine ⟨r, ?_, h2⟩
    rw [List.cons_append] at h1
    rw [List.cons_append, List.cons_append, ntc_cons, h1, ntc_cons]
    simp
theorem ntc_head {m : Message} : ∀ {t : List Message}, ∃ r, ntc (m :: t) = sen m ++ r
  | [] => ⟨[], by rw [ntc_one, List.append_nil]⟩
  | n :: t => ⟨32 :: ntc (n :: t), by rw [ntc_cons]⟩
theorem sen_pos {m : Message} (h : MOK m) : 0 < (sen m).length := by
  rcases mok_cases h with ⟨L, n, rfl, hL, h1, h2⟩ | ⟨L, a, rfl, hL, ha⟩ | ⟨S, a, b, rfl, hS, ha, hb⟩ | ⟨L, S, a, b, rfl, hL, hS, ha, hb⟩ | ⟨L, a, rfl, hL, ha⟩
  · unfold sen
    rw [if_pos rfl]
    simp
  · unfold sen; simp
  · unfold sen; simp
  · unfold sen; simp
  · unfold sen; simp
theorem sentence_bad {p q : List UInt8} (h : p.length + q.length ≤ 1048576) : ∃ m p2 q2, s_l24Reader_sentence (rdr p q true) = some (m, rdr p2 q2 true) ∧ p2 ++ q2 = p ++ q := by
  unfold s_l24Reader_sentence
  obtain ⟨w, l', e, hw, _⟩ := word_any (p := p) (l := q) (b := true) (by omega)
  rw [take_bad, Option.bind_some]
  dsimp only
  rw [if_neg (by simp), take_bad, Option.bind_some]
  dsimp only
  rw [if_neg (by simp), take_bad, Option.bind_some]
  dsimp only
  rw [if_neg (by simp), want_bad, Option.bind_some, e, Option.bind_some]
  dsimp only
  rw [want_bad, Option.bind_some, time_bad, Option.bind_some]
  dsimp only
  rw [take_bad, Option.bind_some]
  dsimp only
  rw [if_pos (by simp), want_bad, Option.bind_some]
  exact ⟨_, p ++ w, l', rfl, by rw [List.append_assoc, hw]⟩
theorem spn_ok (l : List UInt8) (hl : l.length ≤ 1048576) : Tot (s_ParseNotice (str l)) (PN l) := by
  unfold s_ParseNotice
  refine .call (P := fun o => ∃ (out : List Message) (p q : List UInt8) (b : Bool), o = (out, str l, (p.length : Int), b) ∧ p ++ q = l ∧ out.length ≤ 11 ∧ (b = false → p = ntc out) ∧ (∀ ms, NOK ms → l = ntc ms → b = false ∧ out = ms ∧ p = l)) (Tot.iter (RS l) (n := 11) ⟨[], [], l, false, rfl, rfl, rfl, fun _ => rfl, fun ms h1 h2 => ⟨rfl, List.nil_prefix⟩⟩ ?_) ?_
  · rintro k _ ⟨out, p, q, b, rfl, hpq, hk, hb, hc⟩
    unfold s_ParseNotice_L1
    dsimp only
    have hlen : p.length + q.length = l.length := by rw [← hpq, List.length_append]
    refine .call (P := fun v => v = true ↔ (b = false ∧ p.length < l.length ∧ out.length ≤ 10)) (.ite (fun h0 => .iteP (fun h1 => .ok ?_) (fun h1 => .ok ?_)) (fun h0 => .ok ?_)) fun v hv => .ite (fun h => ?_) (fun h => .dn ?_)
    · have : b = false := by simpa using h0
      rw [str_s] at h1
      rw [decide_eq_true_eq]
      exact ⟨fun h2 => ⟨this, by omega, by omega⟩, fun h2 => by have := h2.2.2; omega⟩
    · rw [str_s] at h1
      exact ⟨fun h => (by cases h), fun h => absurd h.2.1 (by omega)⟩
    · exact ⟨fun h => (by cases h), fun h => by rw [h.1] at h0; simp at h0⟩
    · obtain ⟨rfl, h1, h2⟩ := hv.1 h
      have hp := hb rfl
      refine .call (P := fun o => ∃ p1 q1 b1, o = (str l, (p1.length : Int), b1) ∧ p1 ++ q1 = l ∧ (b1 = false → p1 = (if out = [] then [] else ntc out ++ [32])) ∧ (∀ (m : Message) t, NOK (out ++ m :: t) → l = ntc (out ++ m :: t) → b1 = false ∧ ∃ r, q1 = sen m ++ r)) (.iteP (fun h0 => ?_) (fun h0 => ?_)) ?_
      · have hne : out ≠ [] := fun h => by subst h; simp at h0
        rw [rdr_of hpq]
        obtain ⟨p1, q1, b1, e1, s1, g1⟩ := want_any (p := p) (l := q) (b := false) [32] (by omega) (by simp)
        refine .eq e1 (.ok ⟨p1, q1, b1, ?_, s1.trans hpq, fun hb1 => ?_, fun m t k1 k2 => ?_⟩)
        · unfold rdr
          rw [s1, hpq]
        · rw [if_neg hne, (g1 hb1).2, hp]
        · obtain ⟨r, hr, _⟩ := ntc_rest (a := out) (m := m) (t := t) hne
          rw [hr, ← hp, ← hpq] at k2
          have k3 := List.append_cancel_left k2
          subst k3
          have k4 := want_hit (p := p) (l := sen m ++ r) (t := [32]) (by simp only [List.length_append, List.length_cons, List.length_nil] at hlen ⊢; omega) (by simp)
          have k5 : rdr p (32 :: (sen m ++ r)) false = rdr p ([32] ++ (sen m ++ r)) false := rfl
          rw [k5, k4] at e1
          have k6 := Option.some.inj e1
          unfold rdr at k6
          simp only [l24Reader.mk.injEq] at k6
          obtain ⟨_, k7, k8⟩ := k6
          refine ⟨k8.symm, r, ?_⟩
          have k9 := g1 k8.symm
          rw [k9.2] at s1
          rw [show p ++ 32 :: (sen m ++ r) = (p ++ [32]) ++ (sen m ++ r) by simp] at s1
          exact List.append_cancel_left s1
      · have hne : out = [] := List.eq_nil_of_length_eq_zero (by omega)
        subst hne
        have hp0 : p = [] := hp
        subst hp0
        refine .ok ⟨[], q, false, rfl, hpq, fun _ => by rw [if_pos rfl], fun m t k1 k2 => ⟨rfl, ?_⟩⟩
        obtain ⟨r, hr⟩ := ntc_head (m := m) (t := t)
        exact ⟨r, by rw [← hr]; rw [List.nil_append] at hpq k2; rw [hpq, k2]⟩
      · rintro _ ⟨p1, q1, b1, rfl, s1, g1, c1⟩
        dsimp only
        have hlen1 : p1.length + q1.length = l.length := by rw [← s1, List.length_append]
        rw [rdr_of s1]
        have key : Tot (s_l24Reader_sentence (rdr p1 q1 b1)) fun o => ∃ m p2 q2 b2, o = (m, rdr p2 q2 b2) ∧ p2 ++ q2 = l ∧ (b2 = false → b1 = false ∧ p2 = p1 ++ sen m) ∧ (b1 = false → ∀ m' r, MOK m' → q1 = sen m' ++ r → b2 = false ∧ m = m') := by
          cases b1 with
          | false =>
            obtain ⟨m, p2, q2, b2, e2, s2, g2⟩ := sentence_any (p := p1) (l := q1) (by omega)
            refine .of e2 ⟨m, p2, q2, b2, rfl, s2.trans s1, fun hb2 => ⟨rfl, g2 hb2⟩, fun _ m' r k1 k2 => ?_⟩
            subst k2
            rw [sent_hit k1 (by rw [List.length_append] at hlen1; omega)] at e2
            have k3 := Option.some.inj e2
            simp only [Prod.mk.injEq] at k3
            have k4 := k3.2
            unfold rdr at k4
            simp only [l24Reader.mk.injEq] at k4
            exact ⟨k4.2.2.symm, k3.1.symm⟩
          | true =>
            obtain ⟨m, p2, q2, e2, s2⟩ := sentence_bad (p := p1) (q := q1) (by omega)
            exact .of e2 ⟨m, p2, q2, true, rfl, s2.trans s1, fun hb2 => (by cases hb2), fun hb1 => by cases hb1⟩
        refine .call key ?_
        rintro _ ⟨m, p2, q2, b2, rfl, s2, g2, c2⟩
        refine .chk (by simp; omega) (.nx ⟨k - 1, by omega, out ++ [m], p2, q2, b2, ?_, s2, by simp; omega, fun hb2 => ?_, fun ms k1 k2 => ?_⟩)
        · unfold rdr
          rw [s2]
        · obtain ⟨hb1, rfl⟩ := g2 hb2
          rw [g1 hb1]
          by_cases h0 : out = []
          · subst h0; rw [if_pos rfl, List.nil_append, List.nil_append, ntc_one]
          · rw [if_neg h0, ntc_snoc _ h0]; simp
        · obtain ⟨_, t, ht⟩ := hc ms k1 k2
          cases t with
          | nil =>
            rw [List.append_nil] at ht
            subst ht
            rw [← hp] at k2
            rw [k2] at h1; omega
          | cons m' t =>
            subst ht
            obtain ⟨k3, r, k4⟩ := c1 m' t k1 k2
            obtain ⟨k5, rfl⟩ := c2 k3 m' r (k1.2 m' (by simp)) k4
            exact ⟨k5, t, by simp⟩
    · have hn : ¬ (b = false ∧ p.length < l.length ∧ out.length ≤ 10) := fun h2 => by have := hv.2 h2; rw [h] at this; cases this
      refine ⟨out, p, q, b, rfl, hpq, by omega, hb, fun ms k1 k2 => ?_⟩
      obtain ⟨rfl, k3⟩ := hc ms k1 k2
      have hp := hb rfl
      have hol : out.length ≤ 10 := Nat.le_trans k3.length_le k1.1
      have hpl : p = l := by
        rw [← hpq]
        have : q = [] := List.eq_nil_of_length_eq_zero (Classical.byContradiction fun hq => hn ⟨rfl, by omega, hol⟩)
        rw [this, List.append_nil]
      refine ⟨rfl, Classical.byContradiction fun hne => ?_, hpl⟩
      obtain ⟨t, ht⟩ := k3
      cases t with
      | nil => rw [List.append_nil] at ht; exact hne ht
      | cons m t =>
        subst ht
        by_cases h0 : out = []
        · subst h0
          obtain ⟨r, hr⟩ := ntc_head (m := m) (t := t)
          rw [List.nil_append, hr, ← hpl, hp] at k2
          have h3 := congrArg List.length k2
          rw [List.length_append] at h3
          have h4 : (ntc []).length = 0 := rfl
          have h5 := sen_pos (k1.2 m (by simp))
          omega
        · obtain ⟨r, hr, _⟩ := ntc_rest (a := out) (m := m) (t := t) h0
          rw [hr, ← hpl, ← hp] at k2
          have h3 := congrArg List.length k2
          simp at h3
  · rintro _ ⟨out, p, q, b, rfl, hpq, hk, hb, hc⟩
    dsimp only
    have hlen : p.length + q.length = l.length := by rw [← hpq, List.length_append]
    cases b with
    | true =>
      refine .ok (.inr ⟨rfl, fun ⟨ms, k1, k2⟩ => ?_⟩)
      have := (hc ms k1 k2).1; cases this
    | false =>
      rw [if_neg (by simp), str_s]
      by_cases hpl : p.length = l.length
      · have hpe : p = l := by
          have : q = [] := List.eq_nil_of_length_eq_zero (by omega)
          rw [← hpq, this, List.append_nil]
        rw [if_neg (by simp [hpl])]
        obtain ⟨g, hg, hgm⟩ := lnotice_ok out (by omega)
        rw [hg, Option.bind_some, Option.bind_some]
        cases g with
        | true => exact .ok (.inl ⟨out, hgm.1 rfl, by rw [← hpe]; exact hb rfl, rfl⟩)
        | false =>
          refine .ok (.inr ⟨rfl, fun ⟨ms, k1, k2⟩ => ?_⟩)
          obtain ⟨_, rfl, _⟩ := hc ms k1 k2
          have := hgm.2 k1; cases this
      · rw [if_pos (by simp; omega)]
        refine .ok (.inr ⟨rfl, fun ⟨ms, k1, k2⟩ => ?_⟩)
        obtain ⟨_, _, rfl⟩ := hc ms k1 k2
        exact hpl rfl
/-! Notices that are cut into sentences. -/
theorem index_two (l : List UInt8) : Lib.index l [46, 32] = -1 ∨ ∃ a b, l = a ++ 46 :: 32 :: b ∧ Lib.index l [46, 32] = (a.length : Int) := by
  induction l with
  | nil => exact .inl rfl
  | cons x r ih =>
    rw [Lib.index]
    by_cases h : ([46, 32] : List UInt8).isPrefixOf (x :: r) = true
    · rw [if_pos h]
      obtain ⟨t, ht⟩ := List.isPrefixOf_iff_prefix.1 h
      exact .inr ⟨[], t, by rw [← ht]; rfl, rfl⟩
    · rw [if_neg h]
      rcases ih with h1 | ⟨a, b, h1, h2⟩
      · rw [h1]; exact .inl rfl
      · rw [h2, if_neg (by rw [beq_iff_eq]; omega)]
        exact .inr ⟨x :: a, b, by rw [h1]; rfl, by simp⟩
theorem index_hit : ∀ {u : List UInt8} (r : List UInt8), 46 ∉ u → Lib.index (u ++ 46 :: 32 :: r) [46, 32] = (u.length : Int)
  | [], r, _ => by
    rw [List.nil_append, Lib.index, if_pos (by simp [List.isPrefixOf])]; rfl
  | x :: u, r, h => by
    simp only [List.mem_cons, not_or] at h
    have ih := index_hit (u := u) r h.2
    rw [List.cons_append, Lib.index, if_neg (by simp [List.isPrefixOf, h.1]), ih, if_neg (by rw [beq_iff_eq]; omega)]
    simp
theorem index_miss : ∀ {u : List UInt8}, 46 ∉ u → Lib.index (u ++ [46]) [46, 32] = -1
  | [], _ => by decide
  | x :: u, h => by
    simp only [List.mem_cons, not_or] at h
    have ih := index_miss (u := u) h.2
    rw [List.cons_append, Lib.index, if_neg (by simp [List.isPrefixOf, h.1]), ih]
    rfl
/-- The pieces: each but the last has the blank behind it. -/
def pcs : List (List UInt8) → List (List UInt8)
  | [] => []
  | [t] => [t]
  | t :: u :: r => (t ++ [32]) :: pcs (u :: r)
theorem pcs_cons (t : List UInt8) {r : List (List UInt8)} (h : r ≠ []) : pcs (t :: r) = (t ++ [32]) :: pcs r := by
  cases r with
  | nil => exact absurd rfl h
  | cons u r => rfl
theorem jnx_cons (a : List UInt8) {l : List (List UInt8)} (h : l ≠ []) : Lib.join (a :: l) [32] = a ++ 32 :: Lib.join l [32] := by
  cases l with
  | nil => exact absurd rfl h
  | cons b l => exact jn_cons a b l
theorem split_pcs : ∀ (k : Nat) (l : List UInt8), ∃ ts, ts ≠ [] ∧ Lib.splitK [46, 32] 2 k l = pcs ts ∧ Lib.join ts [32] = l
  | 0, l => ⟨[l], by simp, rfl, jn_one l⟩
  | k + 1, l => by
    rcases index_two l with h | ⟨a, b, hl, h⟩
    · refine ⟨[l], by simp, ?_, jn_one l⟩
      rw [Lib.splitK, h]; rfl
    · obtain ⟨ts, h1, h2, h3⟩ := split_pcs k b
      refine ⟨(a ++ [46]) :: ts, by simp, ?_, ?_⟩
      · rw [Lib.splitK, h, if_neg (by rw [beq_iff_eq]; omega), pcs_cons _ h1, Int.toNat_natCast]
        have e1 : l.take (a.length + 2) = a ++ [46] ++ [32] := by rw [hl, List.take_append, List.take_of_length_le (by omega), Nat.add_sub_cancel_left]; simp
        have e2 : l.drop (a.length + ([46, 32] : List UInt8).length) = b := by
          rw [hl, List.drop_append, List.drop_of_length_le (by simp)]
          simp
        rw [e1, e2, h2]
      · rw [jnx_cons _ h1, h3, hl]; simp
theorem sen_dot {m : Message} (h : MOK m) : ∃ u, sen m = u ++ [46] ∧ 46 ∉ u := by
  have h46 : ∀ {L : List UInt8}, NmL L → 46 ∉ L := fun h => nm_no h (by decide)
  rcases mok_cases h with ⟨L, n, rfl, hL, h1, h2⟩ | ⟨L, a, rfl, hL, ha⟩ | ⟨S, a, b, rfl, hS, ha, hb⟩ | ⟨L, S, a, b, rfl, hL, hS, ha, hb⟩ | ⟨L, a, rfl, hL, ha⟩
  · have hl := h46 hL
    have hn : 46 ∉ num n.toNat := num_no (by decide) _
    refine ⟨[76, 105, 110, 101, 32] ++ L ++ [32, 105, 115, 32, 100, 101, 108, 97, 121, 101, 100, 32, 98, 121, 32] ++ num n.toNat ++ (if n = 1 then [32, 109, 105, 110, 117, 116, 101] else [32, 109, 105, 110, 117, 116, 101, 115]), ?_, ?_⟩
    · unfold sen
      rw [if_pos rfl, str_l]
      dsimp only
      split <;> simp
    · split <;> simp [hl, hn]
  · have hl := h46 hL
    have hc : 46 ∉ clk a.toNat := clk_no _ (by have := ha.2; omega) (by decide)
    refine ⟨[84, 104, 101, 32, 100, 101, 112, 97, 114, 116, 117, 114, 101, 32, 111, 102, 32, 108, 105, 110, 101, 32] ++ L ++ [32, 97, 116, 32] ++ clk a.toNat ++ [32, 105, 115, 32, 99, 97, 110, 99, 101, 108, 108, 101, 100], ?_, ?_⟩
    · unfold sen; simp [str_l]
    · simp [hl, hc]
  · have hl := h46 hS
    have hc : 46 ∉ clk a.toNat := clk_no _ (by have := ha.2; omega) (by decide)
    have hd : 46 ∉ clk b.toNat := clk_no _ (by have := hb.2; omega) (by decide)
    refine ⟨[84, 104, 101, 32, 115, 116, 111, 112, 32] ++ S ++ [32, 105, 115, 32, 99, 108, 111, 115, 101, 100, 32, 102, 114, 111, 109, 32] ++ clk a.toNat ++ [32, 116, 111, 32] ++ clk b.toNat, ?_, ?_⟩
    · unfold sen; simp [str_l]
    · simp [hl, hc, hd]
  · have hl := h46 hS
    have hl2 := h46 hL
    have hc : 46 ∉ clk a.toNat := clk_no _ (by have := ha.2; omega) (by decide)
    have hd : 46 ∉ clk b.toNat := clk_no _ (by have := hb.2; omega) (by decide)
    refine ⟨[70, 114, 111, 109, 32] ++ clk a.toNat ++ [32, 116, 111, 32] ++ clk b.toNat ++ [44, 32, 108, 105, 110, 101, 32] ++ L ++ [32, 114, 117, 110, 115, 32, 111, 110, 108, 121, 32, 97, 115, 32, 102, 97, 114, 32, 97, 115, 32] ++ S, ?_, ?_⟩
    · unfold sen; simp [str_l]
    · simp [hl, hl2, hc, hd]
  · have hl := h46 hL
    have hc : 46 ∉ clk a.toNat := clk_no _ (by have := ha.2; omega) (by decide)
    refine ⟨[84, 104, 101, 32, 100, 101, 112, 97, 114, 116, 117, 114, 101, 32, 111, 102, 32, 108, 105, 110, 101, 32] ++ L ++ [32, 97, 116, 32] ++ clk a.toNat ++ [32, 105, 115, 32, 101, 120, 112, 101, 99, 116, 101, 100, 32, 116, 111, 32, 98, 101, 32, 99, 114, 111, 119, 100, 101, 100], ?_, ?_⟩
    · unfold sen; simp [str_l]
    · simp [hl, hc]
theorem split_ntc : ∀ (ms : List Message) (k : Nat), ms ≠ [] → (∀ m ∈ ms, MOK m) → ms.length ≤ k + 1 → Lib.splitK [46, 32] 2 k (ntc ms) = pcs (ms.map sen)
  | [m], k, _, h, _ => by
    obtain ⟨u, h1, h2⟩ := sen_dot (h m (by simp))
    have hi := index_miss h2
    rw [ntc_one]
    cases k with
    | zero => rfl
    | succ k => rw [Lib.splitK, h1, hi]; simp [pcs, h1]
  | m :: n :: ms, k, _, h, hk => by
    obtain ⟨u, h1, h2⟩ := sen_dot (h m (by simp))
    cases k with
    | zero => simp at hk
    | succ k =>
      have ih := split_ntc (n :: ms) k (by simp) (fun x hx => h x (by simp [hx])) (by simpa using hk)
      have e : ntc (m :: n :: ms) = u ++ 46 :: 32 :: ntc (n :: ms) := by rw [ntc_cons, h1]; simp
      have hi := index_hit (ntc (n :: ms)) h2
      rw [e, Lib.splitK, hi, if_neg (by rw [beq_iff_eq]; omega), Int.toNat_natCast]
      have e1 : (u ++ 46 :: 32 :: ntc (n :: ms)).take (u.length + 2) = u ++ [46] ++ [32] := by rw [List.take_append, List.take_of_length_le (by omega), Nat.add_sub_cancel_left]; simp
      have e2 : (u ++ 46 :: 32 :: ntc (n :: ms)).drop (u.length + ([46, 32] : List UInt8).length) = ntc (n :: ms) := by
        rw [List.drop_append, List.drop_of_length_le (by simp)]
        simp
      have e3 : (m :: n :: ms).map sen = sen m :: (n :: ms).map sen := rfl
      rw [e1, e2, ih, e3, pcs_cons (sen m) (by simp), h1]
theorem after_ok (l : List UInt8) (hl : l.length ≤ 1048576) : strings_SplitAfterN (str l) (str [46, 32]) 12 = some ((Lib.splitK [46, 32] 2 (min 12 (l.length + 1) - 1) l).map str) := by
  unfold strings_SplitAfterN strings_genSplit genSplitM
  have h := Lib.splitB_data (str [46, 32]) 2 (min 12 (l.length + 1) - 1) (str l)
  rw [str_l, str_l] at h
  rw [if_pos (by rw [str_s, str_s]; simp; omega), Option.bind_some, ← h, List.map_map]
  congr 1
  have : (str ∘ fun x : ByteArray => x.data.toList) = id := by funext x; exact (str_of x).symm
  rw [this, List.map_id]
  rfl
theorem pcs_len (ts : List (List UInt8)) : (pcs ts).length = ts.length := by
  induction ts with
  | nil => rfl
  | cons t r ih =>
    cases r with
    | nil => rfl
    | cons u r => rw [pcs, List.length_cons, ih]; rfl
theorem pcs_inj : ∀ {a b : List (List UInt8)}, pcs a = pcs b → a = b
  | [], [], _ => rfl
  | [], b :: bb, h => by have := congrArg List.length h; rw [pcs_len, pcs_len] at this; simp at this
  | a :: aa, [], h => by have := congrArg List.length h; rw [pcs_len, pcs_len] at this; simp at this
  | [a], [b], h => by rw [pcs, pcs] at h; exact h
  | [a], b :: c :: bb, h => by have := congrArg List.length h; rw [pcs_len, pcs_len] at this; simp at this
  | a :: c :: aa, [b], h => by have := congrArg List.length h; rw [pcs_len, pcs_len] at this; simp at this
  | a :: c :: aa, b :: d :: bb, h => by
    rw [pcs, pcs] at h
    have h1 := (List.cons.inj h).1
    have h2 := pcs_inj (List.cons.inj h).2
    rw [List.append_cancel_right h1, h2]
theorem splitK_len (s : List UInt8) (v : Nat) : ∀ (k : Nat) (l : List UInt8), (Lib.splitK s v k l).length ≤ k + 1
  | 0, l => by rw [Lib.splitK]; simp
  | k + 1, l => by
    rw [Lib.splitK]
    split
    · simp
    · have := splitK_len s v k (l.drop ((Lib.index l s).toNat + s.length))
      simp only [List.length_cons]; omega
theorem join_mem : ∀ {ts : List (List UInt8)} {t : List UInt8}, t ∈ ts → t.length ≤ (Lib.join ts [32]).length
  | [a], t, h => by rw [jn_one]; simp at h; subst h; exact Nat.le_refl _
  | a :: b :: l, t, h => by
    rw [jn_cons, List.length_append, List.length_cons]
    rcases List.mem_cons.1 h with rfl | h
    · omega
    · have := join_mem h; omega
theorem ntc_ge : ∀ {ms : List Message}, (∀ m ∈ ms, MOK m) → ms.length ≤ (ntc ms).length
  | [], _ => by simp
  | [m], h => by rw [ntc_one]; have := sen_pos (h m (by simp)); simp; omega
  | m :: n :: ms, h => by
    have ih := ntc_ge (ms := n :: ms) (fun x hx => h x (by simp [hx]))
    have := sen_pos (h m (by simp))
    rw [ntc_cons, List.length_append, List.length_cons]
    simp only [List.length_cons] at ih ⊢
    omega
theorem ipn_loop : ∀ (ts : List (List UInt8)) (pre : List (List UInt8)) (out : List Message), pre.length = out.length → out.length ≤ 10 → ts.length ≤ 1000 → (∀ t ∈ ts, t.length ≤ 1048576) →
    Tot (iter (i_ParseNotice_L1 ((pre ++ pcs ts).map str)) ((pre.length : Int), out)) fun r => (∃ ms, (∀ m ∈ ms, MOK m) ∧ ms.map sen = ts ∧ (out ++ ms).length ≤ 10 ∧ r = .go (out ++ ms)) ∨ (r = .ret ([], false) ∧ ¬ ∃ ms, (∀ m ∈ ms, MOK m) ∧ ms.map sen = ts ∧ (out ++ ms).length ≤ 10)
  | [], pre, out, h1, h2, _, _ => by
    refine .of (iter_dn (b := .go out) ?_) (.inl ⟨[], by simp, rfl, by simpa using h2, by simp⟩)
    unfold i_ParseNotice_L1
    dsimp only
    rw [if_neg (by simp [pcs])]
  | t :: ts, pre, out, h1, h2, h3, h4 => by
    simp only [List.length_cons] at h3
    have hpl := pcs_len (t :: ts)
    obtain ⟨x, P, hx, hxe⟩ : ∃ x P, pcs (t :: ts) = x :: P ∧ (x = if ts = [] then t else t ++ [32]) ∧ P = pcs ts := by
      cases ts with
      | nil => exact ⟨t, [], rfl, by simp, rfl⟩
      | cons u r => exact ⟨t ++ [32], pcs (u :: r), rfl, by simp, rfl⟩
    have hi : idx ((pre ++ x :: P).map str) (pre.length : Int) = some (str x) := ixs (by simp)
    have hPl : P.length = ts.length := by rw [hxe.2, pcs_len]
    obtain ⟨r, hr, hpm⟩ := ipm_ok t (Nat.le_trans (h4 t (by simp)) (by omega))
    have htl := h4 t (by simp)
    have hm : (if (decide ((pre.length : Int) < (w64 ((((pre ++ x :: P).map str).length : Int) - 1)))) = true then
        (chk ((0 : Int) ≤ 0 ∧ (0 : Int) ≤ (w64 (((str x).size : Int) - 1)) ∧ (w64 (((str x).size : Int) - 1)) ≤ ((str x).size : Int))).bind fun u =>
        some ((str x).extract (0 : Int).toNat (w64 (((str x).size : Int) - 1)).toNat)
      else some (str x)) = some (str t) := by
      have e0 : w64 ((((pre ++ x :: P).map str).length : Int) - 1) = (pre.length : Int) + P.length := by rw [w64_id (by simp; omega)]; simp; omega
      rw [e0]
      by_cases hts : ts = []
      · rw [if_pos hts] at hxe
        subst hts
        have : P = [] := List.eq_nil_of_length_eq_zero (by simpa using hPl)
        rw [if_neg (by rw [this]; simp), hxe.1]
      · rw [if_neg hts] at hxe
        have hpos : 0 < P.length := by rw [hPl]; exact List.length_pos_iff.2 hts
        have e1 : w64 (((str x).size : Int) - 1) = (t.length : Int) := by rw [hxe.1, str_s, w64_id (by simp; omega)]; simp
        rw [if_pos (by simp only [decide_eq_true_eq]; omega), e1, chk_of ⟨by omega, by omega, by rw [hxe.1, str_s]; simp; omega⟩, Option.bind_some, str_ext, hxe.1]
        simp
    have hlt : decide ((pre.length : Int) < (((pre ++ x :: P).map str).length : Int)) = true := by simp; omega
    rw [hx]
    have eP : (pre ++ [x]) ++ pcs ts = pre ++ x :: P := by rw [hxe.2]; simp
    rcases hpm with ⟨m, hM, ht, rfl⟩ | ⟨rfl, hno⟩
    · by_cases h10 : out.length = 10
      · refine .of (iter_dn (b := .ret ([], false)) ?_) (.inr ⟨rfl, fun ⟨ms, k1, k2, k3⟩ => ?_⟩)
        · unfold i_ParseNotice_L1
          dsimp only
          rw [if_pos hlt, hi, Option.bind_some, hm, Option.bind_some, hr, Option.bind_some]
          dsimp only
          rw [if_neg (by simp), Option.bind_some, if_pos (by simp [h10])]
        · cases ms with
          | nil => cases k2
          | cons a ms => simp at k3; omega
      · have step : i_ParseNotice_L1 ((pre ++ x :: P).map str) ((pre.length : Int), out) = some (.nx (((pre.length + 1 : Nat) : Int), out ++ [m])) := by
          unfold i_ParseNotice_L1
          dsimp only
          rw [if_pos hlt, hi, Option.bind_some, hm, Option.bind_some, hr, Option.bind_some]
          dsimp only
          rw [if_neg (by simp), Option.bind_some, if_neg (by simp; omega), chk_of (by simp; omega), Option.bind_some, w64_succ (by omega)]
        rw [iter_nx step]
        have ih := ipn_loop ts (pre ++ [x]) (out ++ [m]) (by simp [h1]) (by simp; omega) (by omega) (fun y hy => h4 y (by simp [hy]))
        rw [eP, List.length_append, List.length_cons, List.length_nil] at ih
        refine ih.mono fun r hr2 => ?_
        rcases hr2 with ⟨ms, k1, k2, k3, k4⟩ | ⟨k4, k5⟩
        · exact .inl ⟨m :: ms, by simpa using ⟨hM, k1⟩, by rw [List.map_cons, k2, ht], by simpa using k3, by rw [k4]; simp⟩
        · refine .inr ⟨k4, fun ⟨ms, k1, k2, k3⟩ => k5 ?_⟩
          cases ms with
          | nil => cases k2
          | cons a ms =>
            rw [List.map_cons] at k2
            have ha : a = m := sen_inj (k1 a (by simp)) hM ((List.cons.inj k2).1.trans ht)
            subst ha
            exact ⟨ms, fun y hy => k1 y (by simp [hy]), (List.cons.inj k2).2, by simpa using k3⟩
    · refine .of (iter_dn (b := .ret ([], false)) ?_) (.inr ⟨rfl, fun ⟨ms, k1, k2, k3⟩ => ?_⟩)
      · unfold i_ParseNotice_L1
        dsimp only
        rw [if_pos hlt, hi, Option.bind_some, hm, Option.bind_some, hr, Option.bind_some]
        rfl
      · cases ms with
        | nil => cases k2
        | cons a ms =>
          rw [List.map_cons] at k2
          exact hno ⟨a, k1 a (by simp), (List.cons.inj k2).1.symm⟩
theorem ipn_ok (l : List UInt8) (hl : l.length ≤ 1048576) : Tot (i_ParseNotice (str l)) (PN l) := by
  unfold i_ParseNotice
  rw [beq_str]
  refine .iteP (fun h0 => .ok (.inl ⟨[], ⟨by simp, by simp⟩, h0, rfl⟩)) (fun h0 => ?_)
  rw [after_ok l (by omega), Option.bind_some]
  obtain ⟨ts, h1, h2, h3⟩ := split_pcs (min 12 (l.length + 1) - 1) l
  have hpc : ∀ ms, NOK ms → l = ntc ms → ms.map sen = ts := by
    intro ms k1 k2
    have hne : ms ≠ [] := fun h => by subst h; exact h0 k2
    have hll : ms.length ≤ l.length := by
      rw [k2]
      exact ntc_ge k1.2
    have := split_ntc ms (min 12 (l.length + 1) - 1) hne k1.2 (by have := k1.1; omega)
    rw [← k2, h2] at this
    exact (pcs_inj this).symm
  have htl : ts.length ≤ 1000 := by
    have := congrArg List.length h2
    rw [pcs_len] at this
    have h5 := splitK_len [46, 32] 2 (min 12 (l.length + 1) - 1) l
    omega
  have htm : ∀ t ∈ ts, t.length ≤ 1048576 := fun t ht => by
    have := join_mem ht
    rw [h3] at this; omega
  have hlp := ipn_loop ts [] [] rfl (by simp) htl htm
  rw [List.nil_append] at hlp
  rw [h2]
  refine Tot.flb ?_
  refine Tot.mono hlp fun r hr => ?_
  rcases hr with ⟨ms, k1, k2, k3, rfl⟩ | ⟨rfl, hno⟩
  · refine ⟨fun r hr => (by cases hr), fun u hu => ?_⟩
    cases hu
    refine .ok (.inl ⟨ms, ⟨by simpa using k3, k1⟩, ?_, rfl⟩)
    unfold ntc
    rw [k2, h3]
  · refine ⟨fun r hr => ?_, fun u hu => (by cases hu)⟩
    cases hr
    exact .inr ⟨rfl, fun ⟨ms, k1, k2⟩ => hno ⟨ms, k1.2, hpc ms k1 k2, by simpa using k1.1⟩⟩
/-! Messages and notices: the law. -/
theorem tm_same {m : Message} {r s : ByteArray × Bool} (h1 : TM m r) (h2 : TM m s) : r = s := by
  rcases h1 with ⟨a, rfl⟩ | ⟨a, rfl⟩ <;> rcases h2 with ⟨b, rfl⟩ | ⟨b, rfl⟩
  · rfl
  · exact absurd a b
  · exact absurd b a
  · rfl
theorem tn_same {m : List Message} {r s : ByteArray × Bool} (h1 : TN m r) (h2 : TN m s) : r = s := by
  rcases h1 with ⟨a, rfl⟩ | ⟨a, rfl⟩ <;> rcases h2 with ⟨b, rfl⟩ | ⟨b, rfl⟩
  · rfl
  · exact absurd a b
  · exact absurd b a
  · rfl
theorem map_sen_inj : ∀ {a b : List Message}, (∀ m ∈ a, MOK m) → (∀ m ∈ b, MOK m) → a.map sen = b.map sen → a = b
  | [], [], _, _, _ => rfl
  | [], y :: b, _, _, h => by cases h
  | x :: a, [], _, _, h => by cases h
  | x :: a, y :: b, ha, hb, h => by
    rw [List.map_cons, List.map_cons] at h
    rw [sen_inj (ha x (by simp)) (hb y (by simp)) (List.cons.inj h).1, map_sen_inj (fun m hm => ha m (by simp [hm])) (fun m hm => hb m (by simp [hm])) (List.cons.inj h).2]
theorem ntc_inj {a b : List Message} (ha : NOK a) (hb : NOK b) (h : ntc a = ntc b) : a = b := by
  have la := ntc_ge ha.2
  have lb := ntc_ge hb.2
  by_cases h0 : a = []
  · subst h0
    rw [← h] at lb
    have : (ntc []).length = 0 := rfl
    exact (List.eq_nil_of_length_eq_zero (by omega)).symm
  by_cases h1 : b = []
  · subst h1
    rw [h] at la
    have : (ntc []).length = 0 := rfl
    exact List.eq_nil_of_length_eq_zero (by omega)
  have e1 := split_ntc a 10 h0 ha.2 (by have := ha.1; omega)
  have e2 := split_ntc b 10 h1 hb.2 (by have := hb.1; omega)
  rw [h, e2] at e1
  exact map_sen_inj ha.2 hb.2 (pcs_inj e1).symm
theorem pn_same {l : List UInt8} {r s : List Message × Bool} (h1 : PN l r) (h2 : PN l s) : r = s := by
  rcases h1 with ⟨m, a, b, rfl⟩ | ⟨rfl, a⟩ <;> rcases h2 with ⟨m', a', b', rfl⟩ | ⟨rfl, a'⟩
  · rw [ntc_inj a a' (b.symm.trans b')]
  · exact absurd ⟨m, a, b⟩ a'
  · exact absurd ⟨m', a', b'⟩ a
  · rfl
theorem tn_len {l : List Message} {r : ByteArray × Bool} (h : TN l r) : ∃ t, r.1 = str t ∧ t.length ≤ 1010 := by
  rcases h with ⟨a, rfl⟩ | ⟨_, rfl⟩
  · have := ntc_len a.2
    have := a.1
    exact ⟨_, rfl, by omega⟩
  · exact ⟨[], rfl, by simp⟩
/-! What is written into a result stays there: marks. -/
theorem mark_tot {k : Int} (h0 : 0 ≤ k) (h1 : k ≤ 1000000) : ∃ t, v_markText k = some t := by
  unfold v_markText
  by_cases hk : k ≤ 0
  · rw [decide_eq_true hk]; exact ⟨_, rfl⟩
  · rw [decide_eq_false hk, if_neg (by simp)]
    have h : Tot (iter v_markText_L1 (k, str [])) fun r => r.size ≤ 1000001 := by
      refine Tot.iter (fun (n : Nat) (s : Int × ByteArray) => s.1 = (n : Int) ∧ s.2.size + n ≤ 1000000) (n := k.toNat) ⟨by show k = _; omega, by rw [str_s]; simp; omega⟩ ?_
      rintro n ⟨v, t⟩ ⟨hv, ht⟩
      dsimp only at hv ht
      subst hv
      unfold v_markText_L1
      dsimp only
      refine .iteP (fun hlt => ?_) (fun hge => .dn (by omega))
      have hsz : ∀ x : UInt8, (bytS [x]).size = 1 := fun x => rfl
      have e1 : w64 ((n : Int).tdiv 10) = ((n / 10 : Nat) : Int) := by rw [Int.tdiv_eq_ediv_of_nonneg (by omega), w64_id (by omega)]; omega
      rw [e1]
      refine .chk (by decide) (.chk (by rw [hsz]; omega) (.chk (by decide) (.nx ⟨n / 10, by omega, rfl, ?_⟩)))
      show (bytS _ ++ t).size + n / 10 ≤ 1000000
      rw [ByteArray.size_append, hsz]; omega
    obtain ⟨r, hr, hs⟩ := h
    rw [hr, Option.bind_some, chk_of (by rw [str_s]; simp; omega)]
    exact ⟨_, rfl⟩
noncomputable def mt (k : Int) : ByteArray := (v_markText k).getD ByteArray.empty
theorem mark_is {k : Int} (h0 : 0 ≤ k) (h1 : k ≤ 1000000) : v_markText k = some (mt k) := by
  obtain ⟨t, ht⟩ := mark_tot h0 h1
  unfold mt
  rw [ht]; rfl
noncomputable def mkM (k : Int) : Message := ⟨k, mt (k + 1), mt (k + 2), k + 3, k + 4, k + 5⟩
theorem idx_setN {α : Type} {l : List α} {i : Nat} {x : α} (h : i < l.length) : idx (l.set i x) (i : Int) = some x := ixs (List.getElem?_set_self h)
theorem mark_step {l : List Message} {i : Nat} (h : i < l.length) (hi : i ≤ 1000) : v_markMessageS_w_L1 (((1 + 6 * i : Nat) : Int), (i : Int), l) = some (.nx (((1 + 6 * (i + 1) : Nat) : Int), ((i + 1 : Nat) : Int), l.set i (mkM ((1 + 6 * i : Nat) : Int)))) := by
  obtain ⟨e, he⟩ := get_ex h
  have w1 : w64 (((1 + 6 * i : Nat) : Int) + 1) = ((1 + 6 * i : Nat) : Int) + 1 := w64_id (by omega)
  have w2 : w64 (((1 + 6 * i : Nat) : Int) + 1 + 1) = ((1 + 6 * i : Nat) : Int) + 2 := by rw [w64_id (by omega)]; omega
  have w3 : w64 (((1 + 6 * i : Nat) : Int) + 2 + 1) = ((1 + 6 * i : Nat) : Int) + 3 := by rw [w64_id (by omega)]; omega
  have w4 : w64 (((1 + 6 * i : Nat) : Int) + 3 + 1) = ((1 + 6 * i : Nat) : Int) + 4 := by rw [w64_id (by omega)]; omega
  have w5 : w64 (((1 + 6 * i : Nat) : Int) + 4 + 1) = ((1 + 6 * i : Nat) : Int) + 5 := by rw [w64_id (by omega)]; omega
  have w6 : w64 (((1 + 6 * i : Nat) : Int) + 5 + 1) = ((1 + 6 * (i + 1) : Nat) : Int) := by rw [w64_id (by omega)]; omega
  unfold v_markMessageS_w_L1
  dsimp only
  rw [if_pos (by simp only [decide_eq_true_eq]; omega), ixs he, Option.bind_some, w1, mark_is (by omega) (by omega), Option.bind_some]
  rw [Int.toNat_natCast, idx_setN h, Option.bind_some, w2, mark_is (by omega) (by omega), Option.bind_some]
  simp only [List.set_set]
  rw [idx_setN h, Option.bind_some]
  simp only [w3, w4, w5, w6, List.set_set]
  rw [idx_setN h, Option.bind_some]
  simp only [List.set_set]
  rw [idx_setN h, Option.bind_some]
  simp only [List.set_set]
  rw [idx_setN h, Option.bind_some]
  simp only [List.set_set]
  rw [w64_succ (by omega)]
  rfl
/-- Marked. -/
def Mkd (n : Nat) (l : List Message) : Prop := ∀ j, j < n → l[j]? = some (mkM ((1 + 6 * j : Nat) : Int))
theorem mark_ok (l : List Message) (hl : l.length ≤ 1000) : Tot (v_markMessageS_w l 1) fun r => r.1 = ((1 + 6 * l.length : Nat) : Int) ∧ r.2.length = l.length ∧ Mkd l.length r.2 := by
  unfold v_markMessageS_w
  refine .call (P := fun r => r.1 = ((1 + 6 * l.length : Nat) : Int) ∧ r.2.length = l.length ∧ Mkd l.length r.2) (Tot.iter (fun n (s : Int × Int × List Message) => ∃ i : Nat, n + i = l.length ∧ s.1 = ((1 + 6 * i : Nat) : Int) ∧ s.2.1 = (i : Int) ∧ s.2.2.length = l.length ∧ Mkd i s.2.2) (n := l.length) ⟨0, by omega, rfl, rfl, rfl, fun j hj => by omega⟩ ?_) fun r hr => .ok hr
  rintro n ⟨k, v, a⟩ ⟨i, hn, hk, hv, ha, hm⟩
  dsimp only at hk hv ha hm
  subst hk; subst hv
  by_cases hlt : i < a.length
  · refine .of (mark_step hlt (by omega)) ⟨fun a' e => ?_, fun b e => by cases e⟩
    cases e
    refine ⟨n - 1, by omega, i + 1, by omega, rfl, rfl, by rw [List.length_set]; exact ha, fun j hj => ?_⟩
    by_cases hji : j = i
    · subst hji
      exact List.getElem?_set_self hlt
    · rw [List.getElem?_set_ne (by omega)]
      exact hm j (by omega)
  · have : i = l.length := by omega
    subst this
    unfold v_markMessageS_w_L1
    dsimp only
    rw [if_neg (by simp only [decide_eq_true_eq]; omega)]
    exact .dn ⟨rfl, ha, hm⟩
theorem held_ok {l : List Message} {n : Nat} (hn : l.length = n) (hl : n ≤ 1000) (h : Mkd n l) : v_heldMessageS l 1 = some ((1 + 6 * n : Nat) : Int) := by
  unfold v_heldMessageS
  refine Tot.val (Tot.flb (Tot.iter (fun m (s : Int × Int) => ∃ i : Nat, m + i = n ∧ s.1 = ((1 + 6 * i : Nat) : Int) ∧ s.2 = (i : Int)) (n := n) ⟨0, by omega, rfl, rfl⟩ ?_))
  rintro m ⟨k, v⟩ ⟨i, hm, hk, hv⟩
  dsimp only at hk hv
  subst hk; subst hv
  have w1 : w64 (((1 + 6 * i : Nat) : Int) + 1) = ((1 + 6 * i : Nat) : Int) + 1 := w64_id (by omega)
  have w2 : w64 (((1 + 6 * i : Nat) : Int) + 1 + 1) = ((1 + 6 * i : Nat) : Int) + 2 := by rw [w64_id (by omega)]; omega
  have w3 : w64 (((1 + 6 * i : Nat) : Int) + 2 + 1) = ((1 + 6 * i : Nat) : Int) + 3 := by rw [w64_id (by omega)]; omega
  have w4 : w64 (((1 + 6 * i : Nat) : Int) + 3 + 1) = ((1 + 6 * i : Nat) : Int) + 4 := by rw [w64_id (by omega)]; omega
  have w5 : w64 (((1 + 6 * i : Nat) : Int) + 4 + 1) = ((1 + 6 * i : Nat) : Int) + 5 := by rw [w64_id (by omega)]; omega
  have w6 : w64 (((1 + 6 * i : Nat) : Int) + 5 + 1) = ((1 + 6 * (i + 1) : Nat) : Int) := by rw [w64_id (by omega)]; omega
  unfold v_heldMessageS_L1
  dsimp only
  refine .iteP (fun hlt => ?_) (fun hge => .dn ⟨fun r hr => (by cases hr), fun u hu => ?_⟩)
  · have hx := ixs (h i (by omega))
    rw [hx, Option.bind_some, if_neg (by simp [mkM]), Option.bind_some, w1, mark_is (by omega) (by omega), Option.bind_some, if_neg (by simp [mkM]), Option.bind_some, w2, mark_is (by omega) (by omega), Option.bind_some, if_neg (by simp [mkM]), Option.bind_some, w3, if_neg (by simp [mkM]), Option.bind_some, w4, if_neg (by simp [mkM]), Option.bind_some, w5, if_neg (by simp [mkM]), w6]
    exact .nx ⟨m - 1, by omega, i + 1, by omega, rfl, w64_succ (by omega)⟩
  · cases hu
    have : i = n := by omega
    subst this
    exact .ok rfl
theorem eqms_self (l : List Message) (hl : l.length ≤ 1000000) : v_eqMessageS l l = some true := by
  unfold v_eqMessageS
  rw [if_neg (by simp)]
  refine Tot.val (Tot.flb (Tot.iter (fun n (v : Int) => ∃ i : Nat, n + i = l.length ∧ v = (i : Int)) (n := l.length) ⟨0, by omega, rfl⟩ ?_))
  rintro n _ ⟨i, hn, rfl⟩
  unfold v_eqMessageS_L1
  dsimp only
  refine .iteP (fun hlt => .idx (by omega) hlt fun x hx => ?_) (fun hge => .dn ⟨fun r hr => (by cases hr), fun u _ => .ok rfl⟩)
  have hx2 := ixs (get_nat hx)
  rw [hx2, Option.bind_some, eqm_self, Option.bind_some, if_neg (by simp)]
  exact .nx ⟨n - 1, by omega, i + 1, by omega, w64_succ (by omega)⟩
theorem noticex_true (aS : ByteArray) : v_FnExactParseNotice aS = some true := by
  unfold v_FnExactParseNotice
  by_cases h : 1048576 < (aS.size : Int)
  · rw [decide_eq_true h]; rfl
  · rw [decide_eq_false h, if_neg (by simp)]
    have hl : aS.data.toList.length ≤ 1048576 := by rw [bsize]; omega
    obtain ⟨r, hr, h1⟩ := spn_ok aS.data.toList hl
    obtain ⟨s, hs, h2⟩ := ipn_ok aS.data.toList hl
    have e := pn_same h2 h1
    subst e
    rw [← str_of aS] at hr hs
    have hll : s.1.length ≤ 10 := by
      rcases h1 with ⟨ms, a, _, rfl⟩ | ⟨rfl, _⟩
      · exact a.1
      · simp
    obtain ⟨m, hm, m1, m2, m3⟩ := mark_ok s.1 (by omega)
    have hh := held_ok (n := s.1.length) m2 (by omega) m3
    rw [hr, Option.bind_some, hs, Option.bind_some, eqms_self _ (by omega), Option.bind_some]
    rw [if_neg (by simp)]
    simp only [Option.bind_some, BEq.rfl, Bool.not_true, Bool.false_eq_true, if_false]
    rw [hm, Option.bind_some, hh, Option.bind_some, m1, if_neg (by simp only [decide_eq_true_eq]; omega), if_neg (by simp)]
    rw [eqms_self _ (by omega), Option.bind_some, if_neg (by simp), Option.bind_some, if_neg (by simp), Option.bind_some, if_neg (by simp only [decide_eq_true_eq]; omega), if_neg (by simp)]
end Go.Proofs.YteieacgaipcnoaaDoor
