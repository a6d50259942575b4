/- The plain law: what the models compute, no program in sight. -/
import Derived.Test.YtbedhobglodjbaaDoorSgM
import Derived.Test.YtbedhobglodjbaaDoorAbTot
namespace Go.Proofs.YtbedhobglodjbaaDoor
open Go Go.Ab
set_option maxHeartbeats 4000000
set_option linter.unusedVariables false
set_option linter.unusedSimpArgs false
/-! The cursor of the draws: it always answers. -/
def Cur (k : Nat) (c : l1Cur) : Prop := 0 ≤ c.at_ ∧ c.at_ ≤ k
theorem Cur.mono {k k' : Nat} {c : l1Cur} (h : Cur k c) (hk : k ≤ k') : Cur k' c := ⟨h.1, by have := h.2; omega⟩
theorem next_ok {k : Nat} {c : l1Cur} (h : Cur k c) (hk : k ≤ 4000000000) : ∃ r, s_l1Cur_next c = some r ∧ Cur (k + 1) r.2 ∧ 0 ≤ r.1 ∧ r.1 ≤ 255 := by
  obtain ⟨h0, h1⟩ := h
  have hw : w64 (c.at_ + 1) = c.at_ + 1 := w64_id (by omega)
  have hcur : ∀ s, Cur (k + 1) ⟨c.code_, w64 (c.at_ + 1), s⟩ := fun s => by rw [hw]; exact ⟨by show 0 ≤ c.at_ + 1; omega, by show c.at_ + 1 ≤ _; omega⟩
  unfold s_l1Cur_next
  have hv : ∃ v, (if (decide (c.at_ < (c.code_.length : Int))) = true then (idx c.code_ c.at_).bind fun e1 => some (w64 ((e1.toNat : Int))) else some 0) = some v ∧ 0 ≤ v ∧ v ≤ 255 := by
    by_cases hlt : c.at_ < c.code_.length
    · obtain ⟨x, hx, _, _⟩ := idx_lt h0 hlt
      have := x.toNat_lt
      refine ⟨(x.toNat : Int), ?_, by omega, by omega⟩
      simp only [hlt, decide_true, if_true, hx, Option.bind_some]
      rw [w64_id (by omega)]
    · exact ⟨0, by simp [hlt], by omega, by omega⟩
  obtain ⟨v, hv, hv0, hv1⟩ := hv
  rw [hv]
  simp only [Option.bind_some]
  split
  · exact ⟨_, rfl, hcur _, hv0, hv1⟩
  · rw [chk_of (by omega)]
    exact ⟨_, rfl, hcur _, and255 _⟩
theorem pick_ok {k : Nat} {c : l1Cur} (n : Int) (h : Cur k c) (hk : k ≤ 3000000000) : ∃ r, s_l1Cur_pick c n = some r ∧ Cur (k + 2) r.2 ∧ 0 ≤ r.1 ∧ (r.1 < n ∨ r.1 = 0) := by
  unfold s_l1Cur_pick
  by_cases hn : n ≤ 1
  · exact ⟨(0, c), by simp [hn], h.mono (by omega), by simp, .inr rfl⟩
  · obtain ⟨r, hr, hc, h0, h1⟩ := next_ok h (by omega)
    have hn' : decide (n ≤ 1) = false := by simpa using hn
    simp only [hn', Bool.false_eq_true, if_false, hr, Option.bind_some]
    have hne : chk (n ≠ 0) = some () := chk_of (by omega)
    by_cases h2 : 200 < n
    · obtain ⟨r', hr', hc', h0', h1'⟩ := next_ok hc (by omega)
      have e1 : w64 (r.1 * 256) = r.1 * 256 := w64_id (by omega)
      have e2 : w64 (r.1 * 256 + r'.1) = r.1 * 256 + r'.1 := w64_id (by omega)
      have h3 := tmod_rng (a := r.1 * 256 + r'.1) (b := n) (by omega) (by omega)
      simp only [h2, decide_true, if_true, hr', Option.bind_some, hne, e1, e2]
      exact ⟨_, rfl, hc'.mono (by omega), h3.1, .inl h3.2⟩
    · have h2' : decide (200 < n) = false := by simpa using h2
      have h3 := tmod_rng (a := r.1) (b := n) (by omega) (by omega)
      simp only [h2', Bool.false_eq_true, if_false, Option.bind_some, hne]
      exact ⟨_, rfl, hc.mono (by omega), h3.1, .inl h3.2⟩
theorem one_ok {k : Nat} {c : l1Cur} (n : Int) (h : Cur k c) (hk : k ≤ 3000000000) : ∃ r, s_l1Cur_one c n = some r ∧ Cur (k + 2) r.2 := by
  unfold s_l1Cur_one
  obtain ⟨r, hr, hc, _, _⟩ := pick_ok n h hk
  simp only [hr, Option.bind_some]
  exact ⟨_, rfl, hc⟩
theorem of_ok {k : Nat} {c : l1Cur} (l : List ByteArray) (hl : l ≠ []) (h : Cur k c) (hk : k ≤ 3000000000) : ∃ r, s_l1Cur_of c l = some r ∧ Cur (k + 2) r.2 ∧ r.1 ∈ l := by
  unfold s_l1Cur_of
  obtain ⟨r, hr, hc, h0, h1⟩ := pick_ok (l.length : Int) h hk
  have hpos : 0 < l.length := List.length_pos_iff.2 hl
  obtain ⟨x, hx, _, hm⟩ := idx_lt (l := l) h0 (by omega)
  simp only [hr, Option.bind_some, hx]
  exact ⟨_, rfl, hc, hm⟩
theorem cur0 (code : List UInt8) : Cur 0 ⟨code, 0, ⟨0⟩⟩ := ⟨by show (0 : Int) ≤ 0; omega, by show (0 : Int) ≤ _; omega⟩
/-! Texts: parts between bytes, no program in sight. -/
/-- The parts of a text between the occurrences of a byte. -/
def spl1 (c : UInt8) : List UInt8 → List (List UInt8)
  | [] => [[]]
  | x :: r => if x = c then [] :: spl1 c r else match spl1 c r with
    | [] => [[x]]
    | h :: t => (x :: h) :: t
theorem spl1_ne (c : UInt8) : ∀ l, spl1 c l ≠ []
  | [] => by simp [spl1]
  | x :: r => by
    unfold spl1
    split
    · simp
    · split <;> simp
theorem spl1_cons {c x : UInt8} {r : List UInt8} (h : x ≠ c) : ∃ a t, spl1 c r = a :: t ∧ spl1 c (x :: r) = (x :: a) :: t := by
  cases hs : spl1 c r with
  | nil => exact absurd hs (spl1_ne c r)
  | cons a t => exact ⟨a, t, rfl, by rw [spl1, if_neg h, hs]⟩
theorem index1_cons {c x : UInt8} {r : List UInt8} : Lib.index (x :: r) [c] = if x = c then 0 else if Lib.index r [c] = -1 then -1 else Lib.index r [c] + 1 := by
  rw [Lib.index]
  by_cases h : x = c
  · subst h; simp
  · have h1 : ([c] : List UInt8).isPrefixOf (x :: r) = false := by
      simp [List.isPrefixOf, Ne.symm h]
    rw [h1, if_neg h]
    simp only [Bool.false_eq_true, if_false, beq_iff_eq]
theorem splitK_spl1 (c : UInt8) : ∀ (l : List UInt8) (k : Nat), l.count c ≤ k → Lib.splitK [c] 0 k l = spl1 c l
  | [], k, _ => by
    cases k with
    | zero => rfl
    | succ k => rw [Lib.splitK]; simp [Lib.index, spl1]
  | x :: r, k, hk => by
    by_cases h : x = c
    · subst h
      rw [List.count_cons_self] at hk
      cases k with
      | zero => omega
      | succ k =>
        have ih := splitK_spl1 x r k (by omega)
        rw [Lib.splitK, index1_cons, if_pos rfl, spl1, if_pos rfl]
        simpa using ih
    · rw [List.count_cons_of_ne h] at hk
      have ih := splitK_spl1 c r k hk
      obtain ⟨a, t, h1, h2⟩ := spl1_cons (r := r) h
      rw [h2]
      cases k with
      | zero =>
        rw [Lib.splitK] at ih ⊢
        rw [h1] at ih
        cases ih; rfl
      | succ k =>
        rw [Lib.splitK, index1_cons, if_neg h]
        rw [Lib.splitK, h1] at ih
        by_cases hi : Lib.index r [c] = -1
        · rw [if_pos (by rw [hi]; rfl)] at ih
          rw [if_pos hi]
          cases ih
          simp
        · have hge := Lib.index_ge r [c]
          rw [if_neg (by simpa using hi)] at ih
          rw [if_neg hi, if_neg (by simp only [beq_iff_eq]; omega)]
          have e : (Lib.index r [c] + 1).toNat = (Lib.index r [c]).toNat + 1 := by omega
          rw [e]
          simp only [Nat.add_zero, List.length_cons, List.length_nil] at ih ⊢
          cases ih
          simp
theorem count1 (c : UInt8) (s : List UInt8) : Lib.count s [c] = s.count c := Lib.count_one c s
theorem splitB_one {s t : ByteArray} {c : UInt8} (h : t = ⟨#[c]⟩) : (Lib.splitB t 0 (Lib.countB s t) s).map (·.data.toList) = spl1 c s.data.toList := by
  subst h
  rw [Lib.splitB_data]
  exact splitK_spl1 c _ _ (by rw [show Lib.countB s ⟨#[c]⟩ = Lib.count s.data.toList [c] from rfl, count1]; exact Nat.le_refl _)
/-- Put together again. -/
theorem join_spl1 (c : UInt8) : ∀ l, Lib.join (spl1 c l) [c] = l
  | [] => rfl
  | x :: r => by
    have ih := join_spl1 c r
    by_cases h : x = c
    · subst h
      rw [spl1, if_pos rfl]
      cases hs : spl1 x r with
      | nil => exact absurd hs (spl1_ne x r)
      | cons a t =>
        rw [hs] at ih
        rw [Lib.join_cons] at ih ⊢
        simp only [Lib.joinTail, List.map_cons, List.flatten_cons, List.nil_append, List.singleton_append] at ih ⊢
        rw [List.cons_append, ih]
    · obtain ⟨a, t, h1, h2⟩ := spl1_cons (r := r) h
      rw [h1, Lib.join_cons] at ih
      rw [h2, Lib.join_cons, List.cons_append, ih]
theorem spl1_free (c : UInt8) : ∀ l, ∀ p ∈ spl1 c l, c ∉ p
  | [], p, hp => by simp [spl1] at hp; subst hp; simp
  | x :: r, p, hp => by
    have ih := spl1_free c r
    by_cases h : x = c
    · rw [spl1, if_pos h] at hp
      rcases List.mem_cons.1 hp with rfl | hp
      · simp
      · exact ih p hp
    · obtain ⟨a, t, h1, h2⟩ := spl1_cons (r := r) h
      rw [h2] at hp
      rw [h1] at ih
      rcases List.mem_cons.1 hp with rfl | hp
      · simp only [List.mem_cons, not_or]
        exact ⟨Ne.symm h, ih a (List.mem_cons_self ..)⟩
      · exact ih p (List.mem_cons_of_mem _ hp)
theorem spl1_app {c : UInt8} : ∀ {p : List UInt8}, c ∉ p → ∀ l, spl1 c (p ++ c :: l) = p :: spl1 c l
  | [], _, l => by rw [List.nil_append, spl1, if_pos rfl]
  | x :: p, hp, l => by
    simp only [List.mem_cons, not_or] at hp
    have ih := spl1_app hp.2 l
    rw [List.cons_append, spl1, if_neg (Ne.symm hp.1), ih]
theorem spl1_self {c : UInt8} : ∀ {p : List UInt8}, c ∉ p → spl1 c p = [p]
  | [], _ => rfl
  | x :: p, hp => by
    simp only [List.mem_cons, not_or] at hp
    rw [spl1, if_neg (Ne.symm hp.1), spl1_self hp.2]
/-- Taken apart again. -/
theorem spl1_join {c : UInt8} : ∀ {l : List (List UInt8)}, l ≠ [] → (∀ p ∈ l, c ∉ p) → spl1 c (Lib.join l [c]) = l
  | [], h, _ => absurd rfl h
  | [p], _, hp => by rw [Lib.join_one]; exact spl1_self (hp p (List.mem_cons_self ..))
  | p :: q :: r, _, hp => by
    have ih := spl1_join (l := q :: r) (by simp) (fun x hx => hp x (List.mem_cons_of_mem _ hx))
    rw [Lib.join_cons] at ih ⊢
    have e : p ++ Lib.joinTail [c] (q :: r) = p ++ c :: (q ++ Lib.joinTail [c] r) := by simp [Lib.joinTail]
    rw [e, spl1_app (hp p (List.mem_cons_self ..)), ih]
theorem contains1 (c : UInt8) (l : List UInt8) : Lib.contains l [c] = decide (c ∈ l) := by
  rw [Lib.contains]
  congr 1
  apply propext
  induction l with
  | nil => simp [Lib.index]
  | cons x r ih =>
    rw [index1_cons]
    have hge := Lib.index_ge r [c]
    by_cases h : x = c
    · subst h; simp
    · rw [if_neg h]
      simp only [List.mem_cons, Ne.symm h, false_or]
      rw [← ih]
      split <;> omega
/-- Cut at the first occurrence of a byte. -/
theorem cut1_hit {c : UInt8} : ∀ {p : List UInt8}, c ∉ p → ∀ l, Lib.cut (p ++ c :: l) [c] = (p, l, true) := by
  intro p hp l
  have hi : ∀ p : List UInt8, c ∉ p → Lib.index (p ++ c :: l) [c] = p.length := by
    intro p
    induction p with
    | nil => intro _; rw [List.nil_append, index1_cons, if_pos rfl]; rfl
    | cons x p ih =>
      intro hp
      simp only [List.mem_cons, not_or] at hp
      rw [List.cons_append, index1_cons, if_neg (Ne.symm hp.1), ih hp.2]
      simp only [List.length_cons]
      rw [if_neg (by omega)]
      omega
  rw [Lib.cut, hi p hp, if_pos (by omega)]
  have e : (p.length : Int).toNat = p.length := by omega
  rw [e]
  have e2 : p ++ c :: l = (p ++ [c]) ++ l := by simp
  refine Prod.ext ?_ (Prod.ext ?_ rfl)
  · show (p ++ c :: l).take p.length = p
    exact List.take_left' rfl
  · show (p ++ c :: l).drop (p.length + [c].length) = l
    rw [e2]
    exact List.drop_left' (by simp)
theorem cut1_miss {c : UInt8} {l : List UInt8} (h : c ∉ l) : Lib.cut l [c] = (l, [], false) := by
  have := contains1 c l
  rw [Lib.contains] at this
  rw [Lib.cut, if_neg]
  intro h0
  rw [decide_eq_true h0] at this
  exact h (of_decide_eq_true this.symm)
theorem cut1 (c : UInt8) : ∀ l : List UInt8, (c ∉ l ∧ Lib.cut l [c] = (l, [], false)) ∨ ∃ p q, c ∉ p ∧ l = p ++ c :: q ∧ Lib.cut l [c] = (p, q, true) := by
  intro l
  by_cases h : c ∈ l
  · obtain ⟨p, q, rfl, hp⟩ := List.eq_append_cons_of_mem h
    exact .inr ⟨p, q, hp, rfl, cut1_hit hp q⟩
  · exact .inl ⟨h, cut1_miss h⟩
/-! Texts as lists of bytes; numbers' texts; a test of every byte. -/
theorem bsize (x : ByteArray) : x.data.toList.length = x.size := rfl
theorem tl_eq (x : ByteArray) : x.toList = x.data.toList := by
  have h : ∀ (n i : Nat) (r : List UInt8), x.size - i = n → ByteArray.toList.loop x i r = r.reverse ++ x.data.toList.drop i := by
    intro n
    induction n with
    | zero =>
      intro i r hn
      rw [ByteArray.toList.loop, if_neg (by omega), List.drop_of_length_le (by rw [bsize]; omega), List.append_nil]
    | succ n ih =>
      intro i r hn
      have hi : i < x.data.toList.length := by rw [bsize]; omega
      rw [ByteArray.toList.loop, if_pos (by omega), ih (i + 1) _ (by omega), List.drop_eq_getElem_cons hi]
      have : x.get! i = x.data.toList[i] := by
        have h2 : i < x.data.size := by simpa using hi
        show x.data[i]! = _
        rw [getElem!_pos x.data i h2]
        simp
      rw [this]
      simp
  show ByteArray.toList.loop x 0 [] = _
  rw [h _ 0 [] rfl]
  simp
theorem str_of (x : ByteArray) : x = str x.data.toList := rfl
theorem str_l (l : List UInt8) : (str l).data.toList = l := rfl
theorem str_t (l : List UInt8) : (str l).toList = l := tl_eq _
theorem str_s (l : List UInt8) : (str l).size = l.length := rfl
theorem str_app (a b : List UInt8) : str a ++ str b = str (a ++ b) := by
  apply ByteArray.ext; simp [str]
theorem str_ext (l : List UInt8) (i j : Nat) : (str l).extract i j = str ((l.take j).drop i) := by
  apply ByteArray.ext
  simp [str, List.drop_take]
theorem str_inj {a b : List UInt8} : str a = str b ↔ a = b := ⟨fun h => congrArg (fun x : ByteArray => x.data.toList) h, fun h => by rw [h]⟩
theorem str_empty : ByteArray.empty = str [] := rfl
theorem getD_some {l : List UInt8} {i : Nat} {x : UInt8} (h : l[i]? = some x) : l.getD i 0 = x := by rw [List.getD_eq_getElem?_getD, h]; rfl
theorem beq_str (a b : List UInt8) : ((str a).toList == (str b).toList) = decide (a = b) := by
  rw [str_t, str_t]
  by_cases h : a = b <;> simp [h]
theorem u8_eq (x c : UInt8) : (((x.toNat : Nat) : Int) == ((c.toNat : Nat) : Int)) = decide (x = c) := by
  by_cases h : x = c
  · subst h; simp
  · have : ¬ (x.toNat : Int) = c.toNat := fun e => h (UInt8.toNat_inj.1 (by omega))
    simp [h, this]
/-- A separator, and what is on its two sides. -/
theorem sep_inj {c : UInt8} : ∀ {a b x y : List UInt8}, c ∉ a → c ∉ b → a ++ c :: x = b ++ c :: y → a = b ∧ x = y
  | [], [], _, _, _, _, h => by simpa using h
  | [], z :: b, _, _, _, hb, h => by
    simp only [List.nil_append, List.cons_append, List.cons.injEq] at h
    exact absurd (by rw [h.1]; exact List.mem_cons_self ..) hb
  | z :: a, [], _, _, ha, _, h => by
    simp only [List.nil_append, List.cons_append, List.cons.injEq] at h
    exact absurd (by rw [← h.1]; exact List.mem_cons_self ..) ha
  | z :: a, w :: b, x, y, ha, hb, h => by
    simp only [List.cons_append, List.cons.injEq] at h
    simp only [List.mem_cons, not_or] at ha hb
    obtain ⟨h1, h2⟩ := sep_inj ha.2 hb.2 h.2
    exact ⟨by rw [h.1, h1], h2⟩
/-- Every byte passes a test. -/
theorem all_loop {α : Type} (l : List α) (p : α → Prop) [DecidablePred p] {step : Int → Option (Lp Int (Fl Bool Unit))} (hl : l.length ≤ 4294967296) (b : Bool)
    (h1 : ∀ (i : Nat) x, l[i]? = some x → p x → step (i : Int) = some (.nx (w64 ((i : Int) + 1)))) (h2 : ∀ (i : Nat) x, l[i]? = some x → ¬ p x → step (i : Int) = some (.dn (.ret b)))
    (h3 : step (l.length : Int) = some (.dn (.go ()))) : iter step (0 : Int) = if (∀ x ∈ l, p x) then some (.go ()) else some (.ret b) := by
  have h : ∀ k i : Nat, k + i = l.length → (∀ x ∈ l.take i, p x) → iter step (i : Int) = if (∀ x ∈ l, p x) then some (.go ()) else some (.ret b) := by
    intro k
    induction k with
    | zero =>
      intro i hi hp
      have e : i = l.length := by omega
      subst e
      rw [List.take_length] at hp
      rw [iter_dn h3, if_pos hp]
    | succ k ih =>
      intro i hi hp
      obtain ⟨x, hx⟩ := get_ex (l := l) (i := i) (by omega)
      by_cases hpx : p x
      · rw [iter_nx (h1 i x hx hpx), w64_succ (by omega)]
        refine ih (i + 1) (by omega) fun y hy => ?_
        rw [take_succ hx] at hy
        rcases List.mem_append.1 hy with hy | hy
        · exact hp y hy
        · simp at hy; subst hy; exact hpx
      · rw [iter_dn (h2 i x hx hpx), if_neg (fun h => hpx (h x (List.mem_of_getElem? hx)))]
  exact h l.length 0 (by omega) (by simp)
/-- Numbers. -/
def num (n : Nat) : List UInt8 := Lib.decDigits n
theorem num_dig : ∀ (n : Nat), ∀ b ∈ num n, 48 ≤ b.toNat ∧ b.toNat ≤ 57 := by
  intro n
  induction n using Nat.strongRecOn with
  | _ n ih =>
    intro b hb
    unfold num at hb ih
    rw [Lib.decDigits] at hb
    split at hb
    · simp only [List.mem_singleton] at hb
      subst hb
      rw [UInt8.toNat_ofNat']; omega
    · rcases List.mem_append.1 hb with hb | hb
      · exact ih (n / 10) (by omega) b hb
      · simp only [List.mem_singleton] at hb
        subst hb
        rw [UInt8.toNat_ofNat']; omega
theorem num_len {n : Nat} (h : n < 1000000) : 1 ≤ (num n).length ∧ (num n).length ≤ 6 := by
  unfold num
  rw [Lib.decDigits_length]
  have h1 : ∀ n : Nat, n < 10 → Lib.nDigits n = 1 := fun n h => Lib.nDigits_small h
  have h2 : ∀ n k : Nat, ¬ n < 10 → Lib.nDigits (n / 10) ≤ k → Lib.nDigits n ≤ k + 1 := fun n k h hk => by rw [Lib.nDigits_big h]; omega
  have key : ∀ (k n : Nat), n < 10 ^ (k + 1) → Lib.nDigits n ≤ k + 1 := by
    intro k
    induction k with
    | zero => intro n h; rw [h1 n (by simpa using h)]; omega
    | succ k ih =>
      intro n h
      by_cases h0 : n < 10
      · rw [h1 n h0]; omega
      · exact h2 n _ h0 (ih (n / 10) (by rw [Nat.pow_succ] at h; omega))
  exact ⟨Lib.nDigits_pos n, key 5 n (by simpa using h)⟩
theorem num_no {c : UInt8} (hc : c.toNat < 48 ∨ 57 < c.toNat) (n : Nat) : c ∉ num n := fun h => by
  have := num_dig n c h
  omega
theorem dd_big {u : Nat} (h : ¬ u < 10) : Lib.decDigits u = Lib.decDigits (u / 10) ++ [UInt8.ofNat (48 + u % 10)] := by
  rw [Lib.decDigits, dif_neg h]
theorem num_inj : ∀ {a b : Nat}, num a = num b → a = b := by
  intro a
  induction a using Nat.strongRecOn with
  | _ a ih =>
    intro b h
    unfold num at h ih
    have hl := congrArg List.length h
    rw [Lib.decDigits_length, Lib.decDigits_length] at hl
    by_cases ha : a < 10
    · by_cases hb : b < 10
      · rw [Lib.decDigits_one ha, Lib.decDigits_one hb] at h
        simp only [List.cons.injEq, and_true] at h
        have := congrArg UInt8.toNat h
        rw [UInt8.toNat_ofNat', UInt8.toNat_ofNat'] at this; omega
      · rw [Lib.nDigits_small ha, Lib.nDigits_big hb] at hl
        have := Lib.nDigits_pos (b / 10); omega
    · by_cases hb : b < 10
      · rw [Lib.nDigits_small hb, Lib.nDigits_big ha] at hl
        have := Lib.nDigits_pos (a / 10); omega
      · rw [dd_big ha, dd_big hb] at h
        rw [Lib.nDigits_big ha, Lib.nDigits_big hb] at hl
        obtain ⟨h1, h2⟩ := List.append_inj h (by rw [Lib.decDigits_length, Lib.decDigits_length]; omega)
        have h3 := ih (a / 10) (by omega) h1
        simp only [List.cons.injEq, and_true] at h2
        have := congrArg UInt8.toNat h2
        rw [UInt8.toNat_ofNat', UInt8.toNat_ofNat'] at this; omega
theorem itoa_num {n : Int} (h0 : 0 ≤ n) (h1 : n < 1000000) : strconv_Itoa n = some (str (num n.toNat)) := by
  unfold strconv_Itoa itoaM
  rw [if_pos (by omega)]
  unfold Lib.itoa
  rw [if_neg (by omega)]
  rfl
theorem dig_ext {n : Int} (h0 : 0 ≤ n) (h1 : n < 10) : (str [48, 49, 50, 51, 52, 53, 54, 55, 56, 57]).extract n.toNat (w64 (n + 1)).toNat = str [UInt8.ofNat (48 + n.toNat)] := by
  rw [w64_id (by omega)]
  have : n = 0 ∨ n = 1 ∨ n = 2 ∨ n = 3 ∨ n = 4 ∨ n = 5 ∨ n = 6 ∨ n = 7 ∨ n = 8 ∨ n = 9 := by omega
  rcases this with rfl | rfl | rfl | rfl | rfl | rfl | rfl | rfl | rfl | rfl <;> rw [str_ext] <;> rfl
theorem lnum_k : ∀ (d : Nat) (k : Nat) (n : Int), 0 ≤ n → n < 10 ^ (d + 1) → d ≤ 8 → d < k → s_l1Num_k k n = some (str (num n.toNat))
  | d, k, n, h0, h1, hd, hk => by
    obtain ⟨k, rfl⟩ : ∃ j, k = j + 1 := ⟨k - 1, by omega⟩
    have hb : n < 1000000000 := by
      have h9 : (10 : Nat) ^ (d + 1) ≤ 10 ^ 9 := Nat.pow_le_pow_right (by decide) (by omega)
      have h10 : ((10 ^ (d + 1) : Nat) : Int) = (10 : Int) ^ (d + 1) := by simp
      omega
    show s_l1Num_F (s_l1Num_k k) n = _
    unfold s_l1Num_F
    by_cases hn : n < 10
    · have e2 : decide (n < 0) = false := decide_eq_false (by omega)
      simp only [e2, hn, decide_true, Bool.false_eq_true, if_false, if_true]
      rw [chk_of (by rw [w64_id (by omega)]; exact ⟨h0, by omega, by show n + 1 ≤ 10; omega⟩), Option.bind_some, dig_ext h0 hn]
      unfold num
      rw [Lib.decDigits_one (by omega)]
    · match d, h1, hd, hk with
      | 0, h1, _, _ => simp at h1; omega
      | d + 1, h1, hd, hk =>
        have e2 : decide (n < 0) = false := decide_eq_false (by omega)
        have e3 : decide (n < 10) = false := decide_eq_false hn
        have et : n.tdiv 10 = n / 10 := Int.tdiv_eq_ediv_of_nonneg h0
        have em : n.tmod 10 = n % 10 := Int.tmod_eq_emod_of_nonneg h0
        have ew : w64 (n.tdiv 10) = n / 10 := by rw [et, w64_id (by omega)]
        have hr := lnum_k d k (n / 10) (by omega) (by rw [Int.pow_succ] at h1; omega) (by omega) (by omega)
        have hm0 : 0 ≤ n % 10 := by omega
        have hm1 : n % 10 < 10 := by omega
        simp only [e2, e3, Bool.false_eq_true, if_false, ew, hr, em]
        have c10 : chk ((10 : Int) ≠ 0) = some () := chk_of (by decide)
        simp only [c10, Option.bind_some]
        rw [chk_of (by rw [w64_id (by omega)]; exact ⟨hm0, by omega, by show n % 10 + 1 ≤ 10; omega⟩), Option.bind_some, dig_ext hm0 hm1]
        have hlen : (num (n / 10).toNat).length ≤ 100 := by
          unfold num
          rw [Lib.decDigits_length]
          have key : ∀ (k n : Nat), n < 10 ^ (k + 1) → Lib.nDigits n ≤ k + 1 := by
            intro k
            induction k with
            | zero => intro n h; rw [Lib.nDigits_small (by simpa using h)]; omega
            | succ k ih =>
              intro n h
              by_cases h0 : n < 10
              · rw [Lib.nDigits_small h0]; omega
              · rw [Lib.nDigits_big h0]
                have := ih (n / 10) (by rw [Nat.pow_succ] at h; omega)
                omega
          have := key 9 (n / 10).toNat (by omega)
          omega
        rw [chk_of (by rw [str_s, str_s]; simp; omega), Option.bind_some, str_app]
        unfold num
        rw [dd_big (u := n.toNat) (by omega)]
        have e5 : (n / 10).toNat = n.toNat / 10 := by omega
        have e6 : (n % 10).toNat = n.toNat % 10 := by omega
        rw [e5, e6]
theorem lnum_ok {n : Int} (h0 : 0 ≤ n) (h1 : n < 1000000) : s_l1Num n = some (str (num n.toNat)) := by
  unfold s_l1Num
  exact lnum_k 5 4294967296 n h0 (by simpa using h1) (by omega) (by omega)
/-! Numbers, sums, seals. -/
theorem lin_eq (x a b : Int) : s_l1In x a b = some (decide (a ≤ x ∧ x ≤ b)) := by
  unfold s_l1In
  by_cases h1 : a ≤ x <;> by_cases h2 : x ≤ b <;> simp [h1, h2]
theorem stands_ok (l : List UInt8) (b : UInt8) (hl : l.length ≤ 1000000) : s_l1Stands (str l) b = some (decide (b ∈ l)) := by
  unfold s_l1Stands
  have e1 : ∀ (i : Nat) x, l[i]? = some x → s_l1Stands_L1 (str l) b (i : Int) = if x ≠ b then some (.nx (w64 ((i : Int) + 1))) else some (.dn (.ret true)) := by
    intro i x hx
    have hlt := get_lt hx
    unfold s_l1Stands_L1
    dsimp only
    rw [str_s, if_pos (by simpa using hlt), chk_of ⟨by omega, by omega⟩, Option.bind_some, str_l, show (i : Int).toNat = i by omega, getD_some hx, u8_eq]
    by_cases h : x = b <;> simp [h]
  rw [all_loop l (fun x => x ≠ b) (by omega) true (fun i x hx hp => by rw [e1 i x hx, if_pos hp]) (fun i x hx hp => by rw [e1 i x hx, if_neg hp]) (by unfold s_l1Stands_L1; simp [str_s])]
  by_cases hp : b ∈ l
  · have : ¬ ∀ x ∈ l, x ≠ b := fun h => h b hp rfl
    rw [if_neg this]
    simp [flb, hp]
  · have : ∀ x ∈ l, x ≠ b := fun x hx e => hp (e ▸ hx)
    rw [if_pos this]
    simp [flb, hp]
theorem contains_ok (l : List UInt8) (c : UInt8) (hl : l.length ≤ 1000000) : strings_Contains (str l) (str [c]) = some (decide (c ∈ l)) := by
  unfold strings_Contains containsM
  rw [if_pos (by rw [str_s]; omega), str_l, str_l, contains1]
def sumF (i : Int) (b : UInt8) : Int := (41 * i + b.toNat + 1).tmod 999979
def sumL (l : List UInt8) : Int := l.foldl sumF 7
theorem sumF_rng {i : Int} (h : 0 ≤ i) (b : UInt8) : 0 ≤ sumF i b ∧ sumF i b < 999979 := by
  unfold sumF
  exact tmod_rng (by omega) (by omega)
theorem sum_rng : ∀ (l : List UInt8) (a : Int), 0 ≤ a ∧ a < 999979 → 0 ≤ l.foldl sumF a ∧ l.foldl sumF a < 999979
  | [], a, h => h
  | b :: l, a, h => sum_rng l _ (sumF_rng h.1 b)
theorem lsum_ok (l : List UInt8) (hl : l.length ≤ 1000000) : s_l1Sum (str l) = some (sumL l) := by
  have h := fold_loop (step := s_l1Sum_L1 (str l)) l sumF 7 (fun i a => (a, (i : Int))) (fun a => a) (fun i x hx => ?_) (by unfold s_l1Sum_L1; simp [str_s])
  · unfold s_l1Sum
    have e : ((7 : Int), ((0 : Nat) : Int)) = ((7 : Int), (0 : Int)) := rfl
    rw [e] at h
    rw [h]; rfl
  · have hlt := get_lt hx
    have hb := x.toNat_lt
    have hr := sum_rng (l.take i) 7 (by omega)
    unfold s_l1Sum_L1
    dsimp only
    rw [str_s, if_pos (by simpa using hlt), chk_of ⟨by omega, by omega⟩, Option.bind_some, chk_of (by decide), Option.bind_some, str_l, show (i : Int).toNat = i by omega, getD_some hx, w64_succ (by omega), w64_id (x := (x.toNat : Int)) (by omega), w64_id (x := 41 * _) (by omega), w64_id (x := 41 * _ + _) (by omega), w64_id (by omega)]
    rfl
theorem csum_eq (s : ByteArray) : i_checksum s = s_l1Sum s := rfl
def tail (l : List UInt8) : List UInt8 := l ++ 35 :: num (sumL l).toNat
theorem sumN (l : List UInt8) : 0 ≤ sumL l ∧ sumL l < 1000000 := by
  have := sum_rng l 7 (by omega)
  unfold sumL; omega
theorem tail_len (l : List UInt8) : l.length + 2 ≤ (tail l).length ∧ (tail l).length ≤ l.length + 7 := by
  have h := sumN l
  have := num_len (n := (sumL l).toNat) (by omega)
  unfold tail; simp; omega
theorem seal_ok (l : List UInt8) (hl : l.length ≤ 1000000) : s_l1Seal (str l) = some (str (tail l)) := by
  have h := sumN l
  have := num_len (n := (sumL l).toNat) (by omega)
  unfold s_l1Seal
  rw [chk_of (by rw [str_s, str_s]; simp; omega), Option.bind_some, lsum_ok l hl, Option.bind_some, lnum_ok h.1 (by omega), Option.bind_some, str_app, chk_of (by rw [str_s, str_s]; simp; omega), Option.bind_some, str_app]
  unfold tail; simp
theorem itoa_n {n : Int} (h : 0 ≤ n) : Lib.itoa n = num n.toNat := by
  unfold Lib.itoa; rw [if_neg (by omega)]; rfl
theorem itoa_nat (n : Nat) : Lib.itoa (n : Int) = num n := by rw [itoa_n (by omega)]; rfl
theorem itoa_len {n : Int} (h0 : -1000000 < n) (h1 : n < 1000000) : 1 ≤ (Lib.itoa n).length ∧ (Lib.itoa n).length ≤ 7 := by
  unfold Lib.itoa
  split
  · have := num_len (n := n.natAbs) (by omega)
    unfold num at this; simp; omega
  · have := num_len (n := n.toNat) (by omega)
    unfold num at this; omega
theorem lnumI {n : Int} (h0 : -1000000 < n) (h1 : n < 1000000) : s_l1Num n = some (str (Lib.itoa n)) := by
  by_cases hn : n < 0
  · have e : s_l1Num n = s_l1Num_F (s_l1Num_k 4294967295) n := by
      unfold s_l1Num
      show s_l1Num_k (4294967295 + 1) n = _
      rfl
    rw [e]
    unfold s_l1Num_F
    have ew : w64 (0 - n) = -n := by rw [w64_id (by omega)]; omega
    have hl := num_len (n := (-n).toNat) (by omega)
    simp only [hn, decide_true, if_true, ew]
    rw [lnum_k 5 4294967295 (-n) (by omega) (by simp; omega) (by omega) (by omega), Option.bind_some, chk_of (by rw [str_s, str_s]; simp; omega), Option.bind_some, str_app]
    unfold Lib.itoa
    rw [if_pos hn, show n.natAbs = (-n).toNat by omega]
    rfl
  · rw [lnum_ok (by omega) h1, itoa_n (by omega)]
theorem iItoa {n : Int} (h0 : -1000000 < n) (h1 : n < 1000000) : strconv_Itoa n = some (str (Lib.itoa n)) := by
  unfold strconv_Itoa itoaM
  rw [if_pos (by omega)]
  rfl
def valD (l : List UInt8) : Nat := l.foldl (fun a b => 10 * a + (b.toNat - 48)) 0
def Dig (b : UInt8) : Prop := 48 ≤ b.toNat ∧ b.toNat ≤ 57
def CanD (d : List UInt8) : Prop := d ≠ [] ∧ (∀ b ∈ d, Dig b) ∧ (2 ≤ d.length → d.head? ≠ some 48)
def NoDig (l : List UInt8) : Prop := ∀ b, l.head? = some b → ¬ Dig b
theorem valD_snoc (l : List UInt8) (b : UInt8) : valD (l ++ [b]) = 10 * valD l + (b.toNat - 48) := by unfold valD; simp
theorem valD_lt : ∀ (k : Nat) (l : List UInt8), l.length = k → (∀ b ∈ l, Dig b) → valD l < 10 ^ k := by
  intro k
  induction k with
  | zero => intro l hl _; have : l = [] := List.length_eq_zero_iff.1 hl; subst this; simp [valD]
  | succ k ih =>
    intro l hl hd
    obtain ⟨a, b, rfl⟩ : ∃ a b, l = a ++ [b] := ⟨l.dropLast, l.getLast (by intro e; simp [e] at hl), (List.dropLast_concat_getLast _).symm⟩
    have h1 := ih a (by simpa using hl) (fun x hx => hd x (List.mem_append_left _ hx))
    have h2 := hd b (by simp)
    rw [valD_snoc, Nat.pow_succ]
    have := h2.2
    omega
theorem num_val : ∀ (k : Nat) (d : List UInt8), d.length = k + 1 → (∀ b ∈ d, Dig b) → (2 ≤ d.length → d.head? ≠ some 48) → num (valD d) = d := by
  intro k
  induction k with
  | zero =>
    intro d hl hd _
    match d, hl with
    | [b], _ =>
      have h := hd b (by simp)
      have hv : valD [b] = b.toNat - 48 := by simp [valD]
      rw [hv]
      unfold num
      rw [Lib.decDigits_one (by have := h.2; omega)]
      congr 1
      rw [show 48 + (b.toNat - 48) = b.toNat by have := h.1; omega]
      exact UInt8.ofNat_toNat
  | succ k ih =>
    intro d hl hd hh
    obtain ⟨a, b, rfl⟩ : ∃ a b, d = a ++ [b] := ⟨d.dropLast, d.getLast (by intro e; simp [e] at hl), (List.dropLast_concat_getLast _).symm⟩
    have hal : a.length = k + 1 := by simpa using hl
    have hha : a.head? = (a ++ [b]).head? := by
      cases a with
      | nil => simp at hal
      | cons x a => rfl
    have hne : a.head? ≠ some 48 := by rw [hha]; exact hh (by simp; omega)
    have h1 := ih a hal (fun x hx => hd x (List.mem_append_left _ hx)) (fun _ => hne)
    have hb := hd b (by simp)
    have hpos : 1 ≤ valD a := by
      apply Classical.byContradiction
      intro hn
      have h0 : valD a = 0 := by omega
      rw [h0] at h1
      unfold num at h1
      rw [Lib.decDigits_one (by omega)] at h1
      rw [← h1] at hne
      exact hne rfl
    rw [valD_snoc]
    unfold num at h1 ⊢
    have h2 := hb.1; have h3 := hb.2
    rw [dd_big (by omega), show (10 * valD a + (b.toNat - 48)) / 10 = valD a by omega, show (10 * valD a + (b.toNat - 48)) % 10 = b.toNat - 48 by omega, h1]
    congr 2
    rw [show 48 + (b.toNat - 48) = b.toNat by omega]
    exact UInt8.ofNat_toNat
theorem num_head : ∀ (n : Nat), 10 ≤ n → (num n).head? ≠ some 48 := by
  intro n
  induction n using Nat.strongRecOn with
  | _ n ih =>
    intro hn
    unfold num at ih ⊢
    rw [dd_big (by omega)]
    by_cases h : n / 10 < 10
    · rw [Lib.decDigits_one h]
      simp only [List.cons_append, List.head?_cons, ne_eq, Option.some.injEq]
      intro e
      have := congrArg UInt8.toNat e
      rw [UInt8.toNat_ofNat'] at this
      simp at this; omega
    · have := ih (n / 10) (by omega) (by omega)
      have hp := Lib.nDigits_pos (n / 10)
      rw [← Lib.decDigits_length] at hp
      cases hd : Lib.decDigits (n / 10) with
      | nil => rw [hd] at hp; simp at hp
      | cons x r => rw [hd] at this; simpa using this
theorem num_can (n : Nat) : CanD (num n) := by
  refine ⟨?_, fun b hb => num_dig n b hb, fun h2 => ?_⟩
  · intro e
    have hp := Lib.nDigits_pos n
    rw [← Lib.decDigits_length] at hp
    unfold num at e
    rw [e] at hp; simp at hp
  · by_cases h : n < 10
    · unfold num at h2
      rw [Lib.decDigits_one h] at h2; simp at h2
    · exact num_head n (by omega)
theorem can_num {d : List UInt8} (h : CanD d) : num (valD d) = d := by
  have hp := List.length_pos_iff.2 h.1
  exact num_val (d.length - 1) d (by omega) h.2.1 h.2.2
theorem val_num (n : Nat) : valD (num n) = n := num_inj (can_num (num_can n))
theorem dig_inj : ∀ {a b x y : List UInt8}, (∀ c ∈ a, Dig c) → (∀ c ∈ b, Dig c) → NoDig x → NoDig y → a ++ x = b ++ y → a = b ∧ x = y
  | [], [], _, _, _, _, _, _, h => ⟨rfl, by simpa using h⟩
  | [], z :: b, x, y, _, hb, hx, _, h => by
    simp only [List.nil_append, List.cons_append] at h
    exact absurd (hb z (by simp)) (hx z (by rw [h]; rfl))
  | z :: a, [], x, y, ha, _, _, hy, h => by
    simp only [List.nil_append, List.cons_append] at h
    exact absurd (ha z (by simp)) (hy z (by rw [← h]; rfl))
  | z :: a, w :: b, x, y, ha, hb, hx, hy, h => by
    simp only [List.cons_append, List.cons.injEq] at h
    obtain ⟨h1, h2⟩ := dig_inj (fun c hc => ha c (List.mem_cons_of_mem _ hc)) (fun c hc => hb c (List.mem_cons_of_mem _ hc)) hx hy h.2
    exact ⟨by rw [h.1, h1], h2⟩
theorem num_split {n m : Nat} {x y : List UInt8} (hx : NoDig x) (hy : NoDig y) (h : num n ++ x = num m ++ y) : n = m ∧ x = y := by
  obtain ⟨h1, h2⟩ := dig_inj (num_can n).2.1 (num_can m).2.1 hx hy h
  exact ⟨num_inj h1, h2⟩
theorem natural_ok (s : List UInt8) (hs : s.length ≤ 1000000) :
    Tot (i_natural (str s)) fun r => (r.2.2 = true → ∃ (n : Nat) (rest : List UInt8), n < 1000000 ∧ s = num n ++ rest ∧ NoDig rest ∧ r.1 = (n : Int) ∧ r.2.1 = str rest) ∧ (∀ (n : Nat) rest, n < 1000000 → s = num n ++ rest → NoDig rest → r = ((n : Int), str rest, true)) := by
  have hl : Tot (iter (i_natural_L1 (str s)) ((0 : Int), (0 : Int))) fun r =>
      (∃ n : Nat, n ≤ 6 ∧ n ≤ s.length ∧ r = .go ((valD (s.take n) : Int), (n : Int)) ∧ (∀ b ∈ s.take n, Dig b) ∧ NoDig (s.drop n) ∧ (2 ≤ n → s.head? ≠ some 48)) ∨
      (r = .ret (0, str [], false) ∧ ∃ n : Nat, (∀ b ∈ s.take (n + 1), Dig b) ∧ n + 1 ≤ s.length ∧ (n = 6 ∨ n = 1 ∧ s.head? = some 48)) := by
    refine Tot.iter (fun k a => ∃ n : Nat, k + n = s.length ∧ n ≤ 6 ∧ a = ((valD (s.take n) : Int), (n : Int)) ∧ (∀ b ∈ s.take n, Dig b) ∧ (2 ≤ n → s.head? ≠ some 48)) (n := s.length) ⟨0, rfl, by omega, rfl, by simp, by omega⟩ ?_
    rintro k _ ⟨n, hk, hn6, rfl, hd, hh⟩
    have hvl : valD (s.take n) < 10 ^ n := valD_lt n _ (by simp; omega) hd
    have hv6 : valD (s.take n) < 1000000 := Nat.lt_of_lt_of_le hvl (Nat.pow_le_pow_right (by omega) hn6)
    unfold i_natural_L1
    dsimp only
    rw [str_s, str_l, show (n : Int).toNat = n by omega]
    refine .call (P := fun b => b = true ↔ ∃ x, s[n]? = some x ∧ Dig x) (.iteP (fun hlt => ?_) (fun hge => .ok ?_)) fun b hb => .ite (fun h => ?_) (fun h => .dn (.inl ⟨n, hn6, by omega, rfl, hd, fun b' hb' => ?_, hh⟩))
    · obtain ⟨x, hx⟩ := get_ex (l := s) (i := n) (by omega)
      rw [getD_some hx]
      refine .chk ⟨by omega, by omega⟩ (.iteP (fun h1 => .chk ⟨by omega, by omega⟩ (.ok ?_)) (fun h1 => .ok ?_))
      · rw [decide_eq_true_eq]
        constructor
        · intro h2; exact ⟨x, hx, by omega, by omega⟩
        · rintro ⟨y, hy, h2⟩; rw [hx] at hy; cases hy; have := h2.2; omega
      · constructor
        · intro h2; cases h2
        · rintro ⟨y, hy, h2⟩; rw [hx] at hy; cases hy; have := h2.1; omega
    · constructor
      · intro h2; cases h2
      · rintro ⟨y, hy, h2⟩; have := get_lt hy; omega
    · obtain ⟨x, hx, hdx⟩ := hb.1 h
      have hlt := get_lt hx
      have hd1 : ∀ b ∈ s.take (n + 1), Dig b := fun b hb' => by
        rw [take_succ hx] at hb'
        rcases List.mem_append.1 hb' with hb' | hb'
        · exact hd b hb'
        · simp at hb'; subst hb'; exact hdx
      refine .call (P := fun v => v = true ↔ (n = 6 ∨ n = 1 ∧ valD (s.take n) = 0)) (.ite (fun h1 => .ok ?_) (fun h1 => .ite (fun h2 => .ok ?_) (fun h2 => .ok ?_))) fun v hv => .ite (fun h3 => .dn (.inr ⟨rfl, n, hd1, by omega, ?_⟩)) (fun h3 => ?_)
      · have := eq_of_beq h1; simp only [true_iff]; omega
      · have e1 : n = 1 := by have := eq_of_beq h2; omega
        simp only [beq_iff_eq, e1, true_and]
        constructor
        · intro h; right; omega
        · intro h; omega
      · have e1 : ¬ n = 6 := fun e => by rw [e] at h1; simp at h1
        have e2 : ¬ n = 1 := fun e => by rw [e] at h2; simp at h2
        simp [e1, e2]
      · rcases hv.1 h3 with h4 | ⟨h4, h5⟩
        · exact .inl h4
        · right
          refine ⟨h4, ?_⟩
          subst h4
          match s, hlt with
          | z :: r, _ =>
            have hz := hd z (by simp)
            have : valD [z] = z.toNat - 48 := by simp [valD]
            simp only [List.take_succ_cons, List.take_zero] at h5
            rw [this] at h5
            have h6 := hz.1
            have : z = 48 := UInt8.toNat_inj.1 (by show z.toNat = 48; omega)
            rw [this]; rfl
      · have hnv : ¬ (n = 6 ∨ n = 1 ∧ valD (s.take n) = 0) := fun hh => by have := hv.2 hh; rw [h3] at this; cases this
        rw [getD_some hx]
        have h6 := hdx.1; have h7 := hdx.2
        refine .chk ⟨by omega, by omega⟩ (.nx ⟨k - 1, by omega, n + 1, by omega, by omega, ?_, hd1, fun h2 => ?_⟩)
        · rw [IntKind.wrap_u8, w64_id (x := (valD (s.take n) : Int) * 10) (by omega), w64_id (x := ((x.toNat : Int) - 48) % 256) (by omega), w64_id (by omega), w64_succ (by omega), take_succ hx, valD_snoc]
          refine Prod.ext ?_ rfl
          show (_ : Int) = _
          omega
        · by_cases h8 : 2 ≤ n
          · exact hh h8
          · have e1 : n = 1 := by omega
            subst e1
            intro he
            apply hnv
            right
            refine ⟨rfl, ?_⟩
            match s, hlt, he with
            | z :: r, _, he =>
              simp only [List.head?_cons, Option.some.injEq] at he
              subst he
              rfl
    · intro hdb
      have : s[n]? = some b' := by rw [← List.head?_drop]; exact hb'
      have := hb.2 ⟨b', this, hdb⟩
      rw [h] at this; cases this
  unfold i_natural
  obtain ⟨r, hr, ⟨n, hn6, hnl, rfl, hd, hnd, hh⟩ | ⟨rfl, n, hd, hnl, hcase⟩⟩ := hl
  · rw [hr]
    have hvl : valD (s.take n) < 10 ^ n := valD_lt n _ (by simp; omega) hd
    have hv6 : valD (s.take n) < 1000000 := Nat.lt_of_lt_of_le hvl (Nat.pow_le_pow_right (by omega) hn6)
    have hst : s = s.take n ++ s.drop n := (List.take_append_drop n s).symm
    have ee : (str s).extract (n : Int).toNat (str s).size = str (s.drop n) := by rw [str_ext, str_s, List.take_length]; rfl
    refine ⟨((valD (s.take n) : Int), str (s.drop n), decide (0 < n)), ?_, fun h => ?_, fun m rest hm he hn => ?_⟩
    · show ((chk ((0 : Int) ≤ (n : Int) ∧ (n : Int) ≤ ((str s).size : Int))).bind _) = _
      rw [chk_of (by rw [str_s]; omega), Option.bind_some, ee]
      congr 3
      exact decide_eq_decide.2 (by omega)
    · have h0 : 0 < n := of_decide_eq_true h
      have hc : CanD (s.take n) := ⟨by intro e; have := congrArg List.length e; rw [List.length_take, List.length_nil] at this; omega, hd, fun h2 => by
        have e1 : (s.take n).head? = s.head? := by
          cases s with
          | nil => simp at hnl; omega
          | cons z r => obtain ⟨m, rfl⟩ : ∃ m, n = m + 1 := ⟨n - 1, by omega⟩; rfl
        rw [e1]; exact hh (by simp at h2; omega)⟩
      exact ⟨_, s.drop n, hv6, by rw [can_num hc]; exact hst, hnd, rfl, rfl⟩
    · rw [he] at hst
      obtain ⟨h1, h2⟩ := dig_inj (num_can m).2.1 (by rw [he] at hd; exact hd) hn (by rw [he] at hnd; exact hnd) hst
      rw [he, ← h1, ← h2, val_num]
      have h3 := congrArg List.length h1
      have h4 := (num_len hm).1
      simp at h3
      rw [decide_eq_true (by omega)]
  · rw [hr]
    refine ⟨(0, str [], false), rfl, fun h => (by cases h), fun m rest hm he hn => ?_⟩
    exfalso
    have hml := num_len hm
    have hle : n + 1 ≤ (num m).length := by
      apply Classical.byContradiction
      intro hlt
      have e1 : s.take (n + 1) = num m ++ rest.take (n + 1 - (num m).length) := by rw [he, List.take_append, List.take_of_length_le (by omega)]
      have hln := congrArg List.length e1
      simp at hln
      cases rest with
      | nil => rw [he] at hnl; simp at hnl; omega
      | cons z r =>
        refine hn z rfl (hd z ?_)
        rw [e1]
        obtain ⟨j, hj⟩ : ∃ j, n + 1 - (num m).length = j + 1 := ⟨n - (num m).length, by omega⟩
        rw [hj]
        simp
    rcases hcase with h6 | ⟨h6, h7⟩
    · omega
    · have hc := (num_can m).2.2 (by omega)
      apply hc
      rw [← h7, he]
      cases hx : num m with
      | nil => rw [hx] at hle; simp at hle
      | cons z r => rfl
theorem lread_loop (l : List UInt8) (hl : l.length ≤ 6) : iter (s_l1Read_L1 (str l)) ((0 : Int), (0 : Int)) = some (.go (valD l : Int)) ∧ (∀ b ∈ l, Dig b) ∨ iter (s_l1Read_L1 (str l)) ((0 : Int), (0 : Int)) = some (.ret (0, false)) ∧ ¬ ∀ b ∈ l, Dig b := by
  have h : Tot (iter (s_l1Read_L1 (str l)) ((0 : Int), (0 : Int))) fun r => (r = .go (valD l : Int) ∧ ∀ b ∈ l, Dig b) ∨ (r = .ret (0, false) ∧ ¬ ∀ b ∈ l, Dig b) := by
    refine Tot.iter (fun k a => ∃ n : Nat, k + n = l.length ∧ a = ((valD (l.take n) : Int), (n : Int)) ∧ ∀ b ∈ l.take n, Dig b) (n := l.length) ⟨0, rfl, rfl, by simp⟩ ?_
    rintro k _ ⟨n, hk, rfl, hd⟩
    have hvl : valD (l.take n) < 10 ^ n := valD_lt n _ (by simp; omega) hd
    have hv6 : valD (l.take n) < 1000000 := Nat.lt_of_lt_of_le hvl (Nat.pow_le_pow_right (by omega) (by omega : n ≤ 6))
    unfold s_l1Read_L1
    dsimp only
    rw [str_s, str_l, show (n : Int).toNat = n by omega]
    refine .iteP (fun hlt => ?_) (fun hge => .dn (.inl ?_))
    · obtain ⟨x, hx⟩ := get_ex (l := l) (i := n) (by omega)
      rw [getD_some hx]
      have hb := x.toNat_lt
      refine .chk ⟨by omega, by omega⟩ (.call (P := fun v => v = true ↔ ¬ Dig x) (.iteP (fun h => .ok ?_) (fun h => .chk ⟨by omega, by omega⟩ (.ok ?_))) fun v hv => .ite (fun h => .dn (.inr ⟨rfl, fun hh => hv.1 h (hh x (List.mem_of_getElem? hx))⟩)) (fun h => ?_))
      · simp only [true_iff]; intro hh; have := hh.1; omega
      · rw [decide_eq_true_eq]
        constructor
        · intro h2 hh; have := hh.2; omega
        · intro hh
          apply Classical.byContradiction
          intro h2
          exact hh ⟨by omega, by omega⟩
      · have hdx : Dig x := Classical.byContradiction fun hn => by have := hv.2 hn; rw [h] at this; cases this
        have h6 := hdx.1; have h7 := hdx.2
        refine .chk ⟨by omega, by omega⟩ (.nx ⟨k - 1, by omega, n + 1, by omega, ?_, fun b hb' => ?_⟩)
        · rw [IntKind.wrap_u8, w64_id (x := 10 * (valD (l.take n) : Int)) (by omega), w64_id (x := ((x.toNat : Int) - 48) % 256) (by omega), w64_id (by omega), w64_succ (by omega), take_succ hx, valD_snoc]
          refine Prod.ext ?_ rfl
          show (_ : Int) = _
          omega
        · rw [take_succ hx] at hb'
          rcases List.mem_append.1 hb' with hb' | hb'
          · exact hd b hb'
          · simp at hb'; subst hb'; exact hdx
    · have e : n = l.length := by omega
      subst e
      rw [List.take_length] at hd ⊢
      exact ⟨rfl, hd⟩
  obtain ⟨r, hr, ⟨rfl, h⟩ | ⟨rfl, h⟩⟩ := h
  · exact .inl ⟨hr, h⟩
  · exact .inr ⟨hr, h⟩
/-! Texts: the law. -/
theorem vBig_eq (code : List UInt8) : v_vBig code = some (decide (65536 < (code.length : Int))) := rfl
def InI (n : Int) : Prop := -1000000 < n ∧ n < 1000000
theorem fi_ok (n : Int) : (InI n ∧ i_FormatInt n = some (str (Lib.itoa n), true) ∧ s_FormatInt n = some (str (Lib.itoa n), true)) ∨ (¬ InI n ∧ i_FormatInt n = some (str [], false) ∧ s_FormatInt n = some (str [], false)) := by
  unfold i_FormatInt s_FormatInt
  rw [lin_eq]
  simp only [Option.bind_some]
  by_cases h : InI n
  · refine .inl ⟨h, ?_, ?_⟩
    · have h1 := h.1; have h2 := h.2
      rw [decide_eq_false (by omega : ¬ n < -999999), decide_eq_false (by omega : ¬ 999999 < n)]
      simp only [Bool.false_eq_true, if_false, Option.bind_some]
      rw [iItoa h1 h2]; rfl
    · have h1 := h.1; have h2 := h.2
      rw [decide_eq_true (by omega : -999999 ≤ n ∧ n ≤ 999999), lnumI h1 h2]; rfl
  · refine .inr ⟨h, ?_, ?_⟩
    · by_cases h1 : n < -999999
      · rw [decide_eq_true h1]; rfl
      · rw [decide_eq_false h1, decide_eq_true (by unfold InI at h; omega : 999999 < n)]; rfl
    · rw [decide_eq_false (by unfold InI at h; omega)]; rfl
def PI (s : List UInt8) (r : Int × Bool) : Prop := (∃ n, InI n ∧ s = Lib.itoa n ∧ r = (n, true)) ∨ (r = (0, false) ∧ ¬ ∃ n, InI n ∧ s = Lib.itoa n)
theorem itoa_neg {n : Int} (h : n < 0) : Lib.itoa n = 45 :: num (-n).toNat := by
  unfold Lib.itoa
  rw [if_pos h, show n.natAbs = (-n).toNat by omega]; rfl
theorem num_first (n : Nat) : ∃ b r, num n = b :: r ∧ Dig b := by
  have hc := num_can n
  cases hx : num n with
  | nil => exact absurd hx hc.1
  | cons b r => exact ⟨b, r, rfl, hc.2.1 b (by rw [hx]; simp)⟩
theorem itoa_inj {a b : Int} (h : Lib.itoa a = Lib.itoa b) : a = b := by
  by_cases ha : a < 0
  · rw [itoa_neg ha] at h
    by_cases hb : b < 0
    · rw [itoa_neg hb] at h
      simp only [List.cons.injEq, true_and] at h
      have := num_inj h; omega
    · rw [itoa_n (by omega)] at h
      obtain ⟨c, r, hc, hd⟩ := num_first b.toNat
      rw [hc] at h
      simp only [List.cons.injEq] at h
      have := hd.1; rw [← h.1] at this; simp at this
  · rw [itoa_n (by omega)] at h
    by_cases hb : b < 0
    · rw [itoa_neg hb] at h
      obtain ⟨c, r, hc, hd⟩ := num_first a.toNat
      rw [hc] at h
      simp only [List.cons.injEq] at h
      have := hd.1; rw [h.1] at this; simp at this
    · rw [itoa_n (by omega)] at h
      have := num_inj h; omega
theorem num_small {n : Nat} (h : (num n).length ≤ 6) : n < 1000000 := by
  have := valD_lt _ (num n) rfl (num_can n).2.1
  rw [val_num] at this
  exact Nat.lt_of_lt_of_le this (Nat.pow_le_pow_right (by omega) h)
theorem cutp_ok (s : List UInt8) : strings_CutPrefix (str s) (str [45]) = some (if s.head? = some 45 then (str (s.drop 1), true) else (str s, false)) := by
  unfold strings_CutPrefix cutPrefixM Lib.trimPrefix Lib.hasPrefix
  rw [str_l, str_l]
  cases s with
  | nil => simp [List.isPrefixOf, str]
  | cons b r =>
    by_cases h : b = 45
    · subst h; simp [List.isPrefixOf, str]
    · simp [List.isPrefixOf, h, Ne.symm h, str]
theorem nodig_nil : NoDig [] := fun b hb => by cases hb
theorem ipi_ok (s : List UInt8) (hs : s.length ≤ 100000) : Tot (i_ParseInt (str s)) (PI s) := by
  unfold i_ParseInt
  rw [cutp_ok, Option.bind_some]
  have key : ∀ (t : List UInt8) (neg : Bool), t.length ≤ 100000 → (∀ n, InI n → s = Lib.itoa n → (if neg = true then n < 0 else 0 ≤ n) ∧ t = num n.natAbs) → (∀ m : Nat, m < 1000000 → t = num m → (neg = true → m ≠ 0) → s = Lib.itoa (if neg = true then -(m : Int) else m)) →
      Tot ((i_natural (str t)).bind fun r1 => (if (!r1.2.2) = true then some true else if (!(r1.2.1.toList == (str []).toList)) = true then some true else if neg = true then some (r1.1 == 0) else some false).bind fun (v : Bool) =>
        if v = true then some ((0 : Int), false) else (if neg = true then some (w64 (0 - r1.1)) else some r1.1).bind fun (rest : Int) => some (rest, true)) (PI s) := by
    intro t neg ht h1 h2
    refine .call (natural_ok t (by omega)) fun ⟨v, rs, ok⟩ ⟨a1, a2⟩ => ?_
    dsimp only at a1 a2 ⊢
    have hno : ∀ n, InI n → s = Lib.itoa n → (v, rs, ok) = (((n.natAbs : Nat) : Int), str [], true) := by
      intro n hn he
      have h3 := h1 n hn he
      unfold InI at hn
      exact a2 n.natAbs [] (by omega) (by rw [h3.2, List.append_nil]) nodig_nil
    refine .call (P := fun b => b = true ↔ ¬ (ok = true ∧ rs = str [] ∧ (neg = true → v ≠ 0))) (.ite (fun h => .ok ?_) (fun h => ?_)) fun b hb => .ite (fun h => .ok (.inr ⟨rfl, fun ⟨n, hn, he⟩ => hb.1 h ?_⟩)) (fun h => ?_)
    · simp only [true_iff]; intro hh; rw [hh.1] at h; simp at h
    · have hok : ok = true := by cases ok <;> simp_all
      obtain ⟨l, hl⟩ : ∃ l, rs = str l := ⟨rs.data.toList, rfl⟩
      rw [hl, beq_str]
      refine .iteN (fun hne => .ok ?_) (fun he => ?_)
      · simp only [true_iff]
        intro hh; exact hne (str_inj.1 hh.2.1)
      · subst he
        cases neg
        · simp only [Bool.false_eq_true, if_false]
          exact .ok (by simp [hok])
        · simp only [if_true]
          refine .ok ?_
          by_cases h0 : v = 0
          · simp [h0]
          · simp [h0, hok]
    · have h3 := hno n hn he
      simp only [Prod.mk.injEq] at h3
      refine ⟨h3.2.2, h3.2.1, fun hneg hv => ?_⟩
      have h4 := (h1 n hn he).1
      rw [if_pos hneg] at h4
      omega
    · obtain ⟨b1, b2, b3⟩ : ok = true ∧ rs = str [] ∧ (neg = true → v ≠ 0) := Classical.byContradiction fun hn => by have := hb.2 hn; rw [h] at this; cases this
      obtain ⟨m, rest, m1, m2, m3, m4, m5⟩ := a1 b1
      rw [b2] at m5
      have := str_inj.1 m5
      subst this
      rw [List.append_nil] at m2
      subst m4
      have hsm := h2 m m1 m2 (fun hn h0 => b3 hn (by omega))
      cases neg
      · simp only [Bool.false_eq_true, if_false, Option.bind_some]
        exact .ok (.inl ⟨m, by unfold InI; omega, by simpa using hsm, rfl⟩)
      · simp only [if_true, Option.bind_some]
        refine .ok (.inl ⟨-(m : Int), by unfold InI; omega, by simpa using hsm, ?_⟩)
        rw [w64_id (by omega)]; simp
  by_cases hh : s.head? = some 45
  · rw [if_pos hh]
    obtain ⟨r, rfl⟩ : ∃ r, s = 45 :: r := by
      cases s with
      | nil => cases hh
      | cons b r => simp only [List.head?_cons, Option.some.injEq] at hh; exact ⟨r, by rw [hh]⟩
    refine key r true (by simp at hs; omega) (fun n hn he => ?_) (fun m hm ht h0 => ?_)
    · by_cases h0 : n < 0
      · rw [itoa_neg h0] at he
        simp only [List.cons.injEq, true_and] at he
        exact ⟨by rw [if_pos rfl]; exact h0, by rw [he, show n.natAbs = (-n).toNat by omega]⟩
      · exfalso
        rw [itoa_n (by omega)] at he
        obtain ⟨c, q, hc, hd⟩ := num_first n.toNat
        rw [hc] at he
        simp only [List.cons.injEq] at he
        have := hd.1; rw [← he.1] at this; simp at this
    · have := h0 rfl
      rw [if_pos rfl, itoa_neg (by omega), ht]; simp
  · rw [if_neg hh]
    refine key s false hs (fun n hn he => ?_) (fun m hm ht _ => ?_)
    · by_cases h0 : n < 0
      · rw [itoa_neg h0] at he; rw [he] at hh; exact absurd rfl hh
      · rw [itoa_n (by omega)] at he
        exact ⟨by simp; omega, by rw [he, show n.natAbs = n.toNat by omega]⟩
    · simp [ht, itoa_nat]
theorem spi_ok (s : List UInt8) (hs : s.length ≤ 100000) : Tot (s_l1Read (str s)) (PI s) := by
  unfold s_l1Read
  rw [str_s]
  refine .call (P := fun nn => ∃ (l : List UInt8) (neg : Bool), nn = str l ∧ (neg = true → s = 45 :: l ∧ 1 ≤ l.length) ∧ (neg = false → s = l ∧ (l.head? = some 45 → l.length ≤ 1)))
    (.call (P := fun v => v = true ↔ s.head? = some 45 ∧ 1 < s.length) (.iteP (fun h => .chk ⟨by omega, by omega⟩ (.ok ?_)) (fun h => .ok ?_)) fun v hv => .ite (fun h => ?_) (fun h => .ok ⟨s, false, rfl, fun h => (by cases h), fun _ => ⟨rfl, fun hh => ?_⟩⟩)) fun nn ⟨l, neg, hl, p1, p2⟩ => ?_
  · cases s with
    | nil => simp at h
    | cons b r =>
      have e1 : (((str (b :: r)).data.toList.getD (0 : Int).toNat 0).toNat : Int) = (b.toNat : Int) := rfl
      have e2 : ((b.toNat : Int) == 45) = decide (b = 45) := u8_eq b 45
      rw [e1, e2]
      simp only [decide_eq_true_eq, List.head?_cons, Option.some.injEq]
      constructor
      · intro hb; exact ⟨hb, by omega⟩
      · intro hb; exact hb.1
  · constructor
    · intro h2; cases h2
    · intro h2; exact absurd h2.2 (by omega)
  · obtain ⟨h1, h2⟩ := hv.1 h
    obtain ⟨r, rfl⟩ : ∃ r, s = 45 :: r := by
      cases s with
      | nil => cases h1
      | cons b r => simp only [List.head?_cons, Option.some.injEq] at h1; exact ⟨r, by rw [h1]⟩
    refine .chk ⟨by omega, by omega⟩ (.ok ⟨r, true, ?_, fun _ => ⟨rfl, by simp at h2; omega⟩, fun h => (by cases h)⟩)
    rw [str_ext, List.take_length]; rfl
  · apply Classical.byContradiction
    intro hn
    have := hv.2 ⟨hh, by omega⟩
    rw [h] at this; cases this
  subst hl
  rw [str_s, lin_eq, Option.bind_some]
  have hfit : ∀ n, InI n → s = Lib.itoa n → (neg = true → l = num (-n).toNat ∧ n < 0) ∧ (neg = false → l = num n.toNat ∧ 0 ≤ n) := by
    intro n hn he
    constructor
    · intro hneg
      obtain ⟨q1, q2⟩ := p1 hneg
      rw [q1] at he
      by_cases h0 : n < 0
      · rw [itoa_neg h0] at he
        simp only [List.cons.injEq, true_and] at he
        exact ⟨he, h0⟩
      · exfalso
        rw [itoa_n (by omega)] at he
        obtain ⟨c, q, hc, hd⟩ := num_first n.toNat
        rw [hc] at he
        simp only [List.cons.injEq] at he
        have := hd.1; rw [← he.1] at this; simp at this
    · intro hneg
      obtain ⟨q1, q2⟩ := p2 hneg
      rw [q1] at he
      by_cases h0 : n < 0
      · exfalso
        rw [itoa_neg h0] at he
        have h3 := q2 (by rw [he]; rfl)
        obtain ⟨c, q, hc, hd⟩ := num_first (-n).toNat
        rw [he, hc] at h3; simp at h3
      · exact ⟨by rw [he, itoa_n (by omega)], by omega⟩
  have hll : ∀ n, InI n → s = Lib.itoa n → 1 ≤ l.length ∧ l.length ≤ 6 ∧ ∀ b ∈ l, Dig b := by
    intro n hn he
    have h1 := hfit n hn he
    unfold InI at hn
    cases neg
    · rw [(h1.2 rfl).1]
      have := num_len (n := n.toNat) (by omega)
      exact ⟨this.1, this.2, (num_can _).2.1⟩
    · rw [(h1.1 rfl).1]
      have := num_len (n := (-n).toNat) (by omega)
      exact ⟨this.1, this.2, (num_can _).2.1⟩
  refine .iteN (fun h => .ok (.inr ⟨rfl, fun ⟨n, hn, he⟩ => h (by have := hll n hn he; omega)⟩)) (fun h6 => ?_)
  rcases lread_loop l (by omega) with ⟨h, hd⟩ | ⟨h, hnd⟩
  · rw [h]
    have hvl : valD l < 10 ^ l.length := valD_lt _ l rfl hd
    have hv6 : valD l < 1000000 := Nat.lt_of_lt_of_le hvl (Nat.pow_le_pow_right (by omega) (by omega : l.length ≤ 6))
    show Tot ((if (decide (((l.length : Int)) < (s.length : Int))) = true then some (w64 (0 - (valD l : Int))) else some (valD l : Int)).bind _) _
    refine .call (P := fun i => i = if neg = true then -(valD l : Int) else (valD l : Int)) (.iteP (fun hlt => .ok ?_) (fun hge => .ok ?_)) fun i hi => ?_
    · rw [w64_id (by omega)]
      cases neg
      · have := (p2 rfl).1; rw [this] at hlt; omega
      · simp
    · cases neg
      · simp
      · have := (p1 rfl).1; rw [this] at hge; simp at hge; omega
    · have hir : InI i := by unfold InI; rw [hi]; split <;> omega
      refine .eq (lnumI hir.1 hir.2) ?_
      rw [beq_str]
      refine .iteN (fun hne => .ok (.inr ⟨rfl, fun ⟨n, hn, he⟩ => hne ?_⟩)) (fun he => .ok (.inl ⟨i, hir, he.symm, rfl⟩))
      have h1 := hfit n hn he
      have hni : i = n := by
        cases neg
        · have h2 := h1.2 rfl
          rw [hi, h2.1, val_num]; simp; omega
        · have h2 := h1.1 rfl
          rw [hi, h2.1, val_num]; simp; omega
      rw [hni, he]
  · rw [h]
    exact ⟨_, rfl, .inr ⟨rfl, fun ⟨n, hn, he⟩ => hnd (hll n hn he).2.2⟩⟩
theorem pi_same (s : List UInt8) (hs : s.length ≤ 100000) : ∃ r, i_ParseInt (str s) = some r ∧ s_ParseInt (str s) = some r ∧ PI s r := by
  obtain ⟨r, h1, h2⟩ := ipi_ok s hs
  obtain ⟨q, h3, h4⟩ := spi_ok s hs
  have : q = r := by
    rcases h2 with ⟨n, a, b, rfl⟩ | ⟨rfl, hn⟩
    · rcases h4 with ⟨m, c, d, rfl⟩ | ⟨_, hm⟩
      · rw [itoa_inj (b.symm.trans d)]
      · exact absurd ⟨n, a, b⟩ hm
    · rcases h4 with ⟨m, c, d, _⟩ | ⟨rfl, _⟩
      · exact absurd ⟨m, c, d⟩ hn
      · rfl
  subst this
  exact ⟨q, h1, by unfold s_ParseInt; rw [h3]; rfl, h2⟩
def SealOK (l : List UInt8) : Prop := l.length ≤ 4000 ∧ 35 ∉ l ∧ (tail l).length ≤ 4000
theorem iac_ok (l : List UInt8) (hl : l.length ≤ 100000) : (SealOK l ∧ i_AppendChecksum (str l) = some (str (tail l), true)) ∨ (¬ SealOK l ∧ i_AppendChecksum (str l) = some (str [], false)) := by
  unfold i_AppendChecksum
  rw [str_s]
  by_cases h1 : l.length ≤ 4000
  · rw [decide_eq_false (by omega : ¬ (4000 : Int) < (l.length : Int)), contains_ok _ _ (by omega)]
    simp only [Bool.false_eq_true, if_false, Option.bind_some]
    by_cases h2 : 35 ∈ l
    · rw [decide_eq_true h2]
      exact .inr ⟨fun h => h.2.1 h2, rfl⟩
    · have hs := sumN l
      have hn := num_len (n := (sumL l).toNat) (by omega)
      rw [decide_eq_false h2]
      simp only [Bool.false_eq_true, if_false]
      rw [chk_of (by rw [str_s]; simp; omega), Option.bind_some, csum_eq, lsum_ok _ (by omega), Option.bind_some, iItoa (by omega) (by omega), Option.bind_some, itoa_n hs.1, str_app, chk_of (by rw [str_s, str_s]; simp; omega), Option.bind_some, str_app, str_s]
      have et : l ++ [35] ++ num (sumL l).toNat = tail l := by unfold tail; simp
      rw [et]
      by_cases h3 : (tail l).length ≤ 4000
      · rw [decide_eq_false (by omega)]
        exact .inl ⟨⟨h1, h2, h3⟩, rfl⟩
      · rw [decide_eq_true (by omega)]
        exact .inr ⟨fun h => h3 h.2.2, rfl⟩
  · rw [decide_eq_true (by omega)]
    exact .inr ⟨fun h => h1 h.1, rfl⟩
theorem sac_ok (l : List UInt8) (hl : l.length ≤ 100000) : s_AppendChecksum (str l) = i_AppendChecksum (str l) := by
  have e35 : mkU8 35 = 35 := rfl
  unfold s_AppendChecksum
  rw [str_s, e35]
  rcases iac_ok l hl with ⟨h, e⟩ | ⟨h, e⟩
  · rw [e, decide_eq_false (by have := h.1; omega), stands_ok _ _ (by omega), decide_eq_false h.2.1, seal_ok _ (by omega)]
    simp only [Bool.false_eq_true, if_false, Option.bind_some]
    rw [str_s, decide_eq_false (by have := h.2.2; omega)]; rfl
  · rw [e]
    by_cases h1 : l.length ≤ 4000
    · rw [decide_eq_false (by omega), stands_ok _ _ (by omega), seal_ok _ (by omega)]
      simp only [Bool.false_eq_true, if_false, Option.bind_some]
      by_cases h2 : 35 ∈ l
      · rw [decide_eq_true h2]; rfl
      · rw [decide_eq_false h2]
        simp only [Bool.false_eq_true, if_false, Option.bind_some]
        rw [str_s, decide_eq_true (by
          have h3 : ¬ (tail l).length ≤ 4000 := fun h3 => h ⟨h1, h2, h3⟩
          omega)]; rfl
    · rw [decide_eq_true (by omega)]; rfl
theorem ver_ok (s : List UInt8) (hs : s.length ≤ 100000) : Tot (i_VerifyChecksum (str s)) fun r => (r.2 = true → ∃ l, SealOK l ∧ s = tail l ∧ r.1 = str l) ∧ ∀ l, SealOK l → s = tail l → r = (str l, true) := by
  unfold i_VerifyChecksum strings_Cut cutM
  rw [if_pos (by rw [str_s]; omega), str_l, str_l, Option.bind_some]
  rcases cut1 35 s with ⟨h, e⟩ | ⟨p, q, hp, he, e⟩
  · rw [e]
    refine .ok ⟨fun h => (by cases h), fun l hl hs2 => ?_⟩
    exact absurd (by rw [hs2]; unfold tail; simp) h
  · rw [e]
    simp only [Bool.not_true, Bool.false_eq_true, if_false]
    have hps : p.length ≤ s.length := by rw [he]; simp
    have ep : (⟨p.toArray⟩ : ByteArray) = str p := rfl
    rw [ep]
    have huq : ∀ l, SealOK l → s = tail l → l = p := fun l hl hs2 => by
      rw [he] at hs2
      unfold tail at hs2
      exact (sep_inj hp hl.2.1 hs2).1.symm
    rcases iac_ok p (by omega) with ⟨h, e2⟩ | ⟨h, e2⟩
    · rw [e2, Option.bind_some]
      simp only [Bool.not_true, Bool.false_eq_true, if_false]
      rw [beq_str]
      by_cases h3 : tail p = s
      · rw [decide_eq_true h3]
        exact .ok ⟨fun _ => ⟨p, h, h3.symm, rfl⟩, fun l hl hs2 => by rw [huq l hl hs2]⟩
      · rw [decide_eq_false h3]
        exact .ok ⟨fun h => (by cases h), fun l hl hs2 => absurd (by rw [huq l hl hs2] at hs2; exact hs2.symm) h3⟩
    · rw [e2, Option.bind_some]
      exact .ok ⟨fun h => (by cases h), fun l hl hs2 => absurd (huq l hl hs2 ▸ hl) h⟩
theorem sumF_inj {i j : Int} {b : UInt8} (hi : 0 ≤ i ∧ i < 999979) (hj : 0 ≤ j ∧ j < 999979) (h : sumF i b = sumF j b) : i = j := by
  unfold sumF at h
  rw [Int.tmod_eq_emod_of_nonneg (by omega), Int.tmod_eq_emod_of_nonneg (by omega)] at h
  omega
theorem sumF_injb {i : Int} {b c : UInt8} (hi : 0 ≤ i) (h : sumF i b = sumF i c) : b = c := by
  have h1 := b.toNat_lt; have h2 := c.toNat_lt
  unfold sumF at h
  rw [Int.tmod_eq_emod_of_nonneg (by omega), Int.tmod_eq_emod_of_nonneg (by omega)] at h
  exact UInt8.toNat_inj.1 (by omega)
theorem fold_inj : ∀ (l : List UInt8) {i j : Int}, 0 ≤ i ∧ i < 999979 → 0 ≤ j ∧ j < 999979 → l.foldl sumF i = l.foldl sumF j → i = j
  | [], _, _, _, _, h => h
  | b :: l, i, j, hi, hj, h => sumF_inj hi hj (fold_inj l (sumF_rng hi.1 b) (sumF_rng hj.1 b) h)
theorem sum_set {a c : List UInt8} {x y : UInt8} (h : sumL (a ++ x :: c) = sumL (a ++ y :: c)) : x = y := by
  unfold sumL at h
  rw [List.foldl_append, List.foldl_append, List.foldl_cons, List.foldl_cons] at h
  have hr := sum_rng a 7 (by omega)
  exact sumF_injb hr.1 (fold_inj c (sumF_rng hr.1 x) (sumF_rng hr.1 y) h)
theorem flip_no {l a c : List UInt8} {x y : UInt8} (hl : SealOK l) (ht : tail l = a ++ x :: c) (hxy : y ≠ x) : ¬ ∃ r, SealOK r ∧ a ++ y :: c = tail r := by
  rintro ⟨r, hr, he⟩
  have nd : ∀ n, 35 ∉ num n := num_no (.inl (by decide))
  unfold tail at ht he
  rcases Nat.lt_trichotomy a.length l.length with h | h | h
  · -- ahead of the seal
    obtain ⟨u, hu⟩ : ∃ u, l = a ++ u := by
      refine ⟨l.drop a.length, ?_⟩
      have := congrArg (List.take a.length) ht
      rw [List.take_append_of_le_length (by omega), List.take_left] at this
      have h9 := List.take_append_drop a.length l
      rw [this] at h9; exact h9.symm
    subst hu
    rw [List.append_assoc] at ht
    have ht2 := List.append_cancel_left ht
    cases u with
    | nil => simp at h
    | cons z u =>
      simp only [List.cons_append, List.cons.injEq] at ht2
      obtain ⟨rfl, rfl⟩ := ht2
      by_cases h35 : y = 35
      · subst h35
        have ha : 35 ∉ a := fun hm => hl.2.1 (List.mem_append_left _ hm)
        obtain ⟨h1, h2⟩ := sep_inj ha hr.2.1 he
        exact nd _ (by rw [← h2]; simp)
      · have hm : 35 ∉ a ++ y :: u := by
          intro hm
          rcases List.mem_append.1 hm with hm | hm
          · exact hl.2.1 (List.mem_append_left _ hm)
          · rcases List.mem_cons.1 hm with hm | hm
            · exact h35 hm.symm
            · exact hl.2.1 (by simp [hm])
        rw [show a ++ y :: (u ++ 35 :: num (sumL (a ++ z :: u)).toNat) = (a ++ y :: u) ++ 35 :: num (sumL (a ++ z :: u)).toNat by simp] at he
        obtain ⟨h1, h2⟩ := sep_inj hm hr.2.1 he
        have h3 := num_inj h2
        rw [← h1] at h3
        have s1 := sumN (a ++ z :: u); have s2 := sumN (a ++ y :: u)
        exact hxy (sum_set (a := a) (c := u) (by omega)).symm
  · -- the seal
    have := List.append_inj ht h.symm
    obtain ⟨rfl, h2⟩ := this
    simp only [List.cons.injEq] at h2
    obtain ⟨rfl, rfl⟩ := h2
    have hm : 35 ∉ l ++ y :: num (sumL l).toNat := by
      intro hm
      rcases List.mem_append.1 hm with hm | hm
      · exact hl.2.1 hm
      · rcases List.mem_cons.1 hm with hm | hm
        · exact hxy hm.symm
        · exact nd _ hm
    exact hm (by rw [he]; simp)
  · -- behind the seal
    obtain ⟨u, hu⟩ : ∃ u, a = l ++ 35 :: u := by
      refine ⟨a.drop (l.length + 1), ?_⟩
      have := congrArg (List.take a.length) ht
      rw [List.take_left] at this
      have h2 : (l ++ 35 :: num (sumL l).toNat).take a.length = l ++ 35 :: (num (sumL l).toNat).take (a.length - l.length - 1) := by
        rw [List.take_append, List.take_of_length_le (by omega)]
        obtain ⟨k, hk⟩ : ∃ k, a.length - l.length = k + 1 := ⟨a.length - l.length - 1, by omega⟩
        rw [hk]; simp
      rw [h2] at this
      rw [← this]
      simp
    subst hu
    rw [List.append_assoc] at ht he
    have ht2 := List.append_cancel_left ht
    simp only [List.cons_append, List.cons.injEq, true_and] at ht2
    obtain ⟨h1, h2⟩ := sep_inj hl.2.1 hr.2.1 (show l ++ 35 :: (u ++ y :: c) = r ++ 35 :: num (sumL r).toNat from he)
    rw [← h1, ht2] at h2
    have := List.append_cancel_left h2
    simp only [List.cons.injEq, and_true] at this
    exact hxy this
theorem vat_ok (code : List UInt8) (i : Int) (h0 : 0 ≤ i) (h1 : i ≤ 100) (hc : code.length ≤ 100000) : Tot (v_vAt code i) fun r => 0 ≤ r ∧ r ≤ 255 := by
  unfold v_vAt
  refine .iteP (fun h => ?_) (fun h => ?_)
  · refine .idx h0 h fun x hx => .ok ?_
    have := x.toNat_lt
    rw [w64_id (by omega)]; omega
  · refine .chk (by decide) (.ok ?_)
    rw [w64_id (x := i * 7) (by omega), w64_id (by omega)]
    have := tmod_rng (a := i * 7 + code.length) (b := 256) (by omega) (by omega)
    omega
theorem xor_ne (e : UInt8) (d : Int) (h0 : 1 ≤ d) (h1 : d ≤ 255) : mkU8 (IntKind.u8.wrap ((BitVec.ofInt (IntKind.u8).bits (e.toNat : Int) ^^^ BitVec.ofInt (IntKind.u8).bits (IntKind.u8.wrap d)).toNat : Int)) ≠ e := by
  intro h
  have h2 := congrArg UInt8.toNat h
  have hb : (IntKind.u8).bits = 8 := rfl
  have he := e.toNat_lt
  unfold mkU8 at h2
  rw [UInt8.toNat_ofNat', IntKind.wrap_u8, IntKind.wrap_u8, hb] at h2
  obtain ⟨v, hv⟩ : ∃ v : BitVec 8, v = BitVec.ofInt 8 (e.toNat : Int) ^^^ BitVec.ofInt 8 (d % 256) := ⟨_, rfl⟩
  rw [← hv] at h2
  have hvl := v.isLt
  have h3 : v.toNat = e.toNat := by omega
  have h4 : v = BitVec.ofInt 8 (e.toNat : Int) := by
    apply BitVec.eq_of_toNat_eq
    rw [h3, BitVec.toNat_ofInt]; omega
  rw [hv] at h4
  have h5 : BitVec.ofInt 8 (d % 256) = 0#8 := by
    have := congrArg (fun x => BitVec.ofInt 8 (e.toNat : Int) ^^^ x) h4
    simp only [← BitVec.xor_assoc, BitVec.xor_self, BitVec.zero_xor] at this
    exact this
  have h6 := congrArg BitVec.toNat h5
  rw [BitVec.toNat_ofInt] at h6
  simp at h6; omega
theorem dpi_ok (code : List UInt8) : Tot (s_DrawParseInt code) fun r => r.data.toList.length ≤ 1000 := by
  unfold s_DrawParseInt
  refine .call (one_ok 2 (cur0 code) (by omega)) fun r h1 => .ite (fun _ => .call (of_ok _ (by simp) h1 (by omega)) fun r1 ⟨_, m⟩ => .ok ?_) (fun _ => .call (pick_ok 2000 h1 (by omega)) fun r2 ⟨_, a0, a1⟩ => ?_)
  · have : ([(str []), (str [45]), (str [45, 48]), (str [48, 48]), (str [48, 49]), (str [45, 45, 49]), (str [49, 120]), (str [57, 57, 57, 57, 57, 57]), (str [49, 48, 48, 48, 48, 48, 48]), (str [45, 57, 57, 57, 57, 57, 57]), (str [49, 56, 52, 52, 54, 55, 52, 52, 48, 55, 51, 55, 48, 57, 53, 53, 49, 54, 49, 55])] : List ByteArray).all (fun x => decide (x.size ≤ 1000)) = true := by rfl
    exact of_decide_eq_true (List.all_eq_true.1 this _ m)
  · rw [w64_id (by omega)]
    have hl := itoa_len (n := r2.1 - 1000) (by omega) (by omega)
    refine .eq (lnumI (by omega) (by omega)) (.ok ?_)
    rw [str_l]; omega
theorem dac_ok (code : List UInt8) : Tot (s_DrawAppendChecksum code) fun r => r.data.toList.length ≤ 5000 := by
  unfold s_DrawAppendChecksum
  refine .call (one_ok 20 (cur0 code) (by omega)) fun r h1 => .ite (fun _ => .call (pick_ok 10 h1 (by omega)) fun r1 ⟨_, a0, a1⟩ => ?_) (fun _ => ?_)
  · rw [w64_id (x := 3990 + r1.1) (by omega)]
    refine .chk (by omega) (.ok ?_)
    show (List.replicate _ _).length ≤ _
    simp; omega
  · unfold s_l1Cur_any1
    refine .call (P := fun r => r.1.data.toList.length ≤ 5000) (.call (of_ok _ (by simp) h1 (by omega)) fun r2 ⟨_, m⟩ => .ok ?_) fun r2 hr2 => .ok hr2
    have : ([(str []), (str [97]), (str [97, 44, 98]), (str [115, 111, 109, 101, 32, 119, 111, 114, 100, 115]), (str [120, 35, 121]), (str [45, 49, 50]), (str [0, 255]), (str [44, 44]), (str [48])] : List ByteArray).all (fun x => decide (x.size ≤ 5000)) = true := by rfl
    exact of_decide_eq_true (List.all_eq_true.1 this _ m)
theorem dfi_ok (code : List UInt8) : Tot (s_DrawFormatInt code) fun _ => True := by
  unfold s_DrawFormatInt s_l1Cur_among
  refine .call (pick_ok 1000 (cur0 code) (by omega)) fun r ⟨h1, _, _⟩ => .call (P := fun _ => True) (.call (pick_ok _ h1 (by omega)) fun r1 ⟨_, a0, a1⟩ => ?_) fun _ _ => .ok trivial
  refine .idx a0 ?_ fun x hx => .ok trivial
  simp at a1 ⊢; omega
theorem text_true (code : List UInt8) : v_FnStrings code = some true := by
  unfold v_FnStrings
  refine Tot.val (.eq (vBig_eq code) (.iteP (fun _ => .ok rfl) (fun hbig => ?_)))
  refine .call (dfi_ok code) fun n _ => ?_
  obtain ⟨f, f1, f2, hf⟩ : ∃ f, i_FormatInt n = some f ∧ s_FormatInt n = some f ∧ ((InI n ∧ f = (str (Lib.itoa n), true)) ∨ f = (str [], false)) := by
    rcases fi_ok n with ⟨h, a, b⟩ | ⟨_, a, b⟩
    · exact ⟨_, a, b, .inl ⟨h, rfl⟩⟩
    · exact ⟨_, a, b, .inr rfl⟩
  refine .eq f1 (.eq f2 (.call (dpi_ok code) fun s hs => ?_))
  obtain ⟨p, p1, p2, _⟩ := pi_same s.data.toList (by omega)
  have p1' : i_ParseInt s = some p := p1
  have p2' : s_ParseInt s = some p := p2
  refine .eq p1' (.eq p2' (.call (dac_ok code) fun t ht => ?_))
  obtain ⟨tl, htl⟩ : ∃ tl, tl = t.data.toList := ⟨_, rfl⟩
  have hte : t = str tl := by rw [htl]; rfl
  rw [← htl] at ht
  subst hte
  have hsa := sac_ok tl (by omega)
  obtain ⟨a, a1, ha⟩ : ∃ a, i_AppendChecksum (str tl) = some a ∧ ((SealOK tl ∧ a = (str (tail tl), true)) ∨ a = (str [], false)) := by
    rcases iac_ok tl (by omega) with ⟨h, e⟩ | ⟨_, e⟩
    · exact ⟨_, e, .inl ⟨h, rfl⟩⟩
    · exact ⟨_, e, .inr rfl⟩
  rw [a1] at hsa
  refine .eq a1 (.eq hsa (.eq (a := false) (by simp) ?_))
  simp only [Bool.false_eq_true, if_false]
  have hfl : f.1.data.toList.length ≤ 100 := by
    rcases hf with ⟨h, rfl⟩ | rfl
    · have := itoa_len h.1 h.2
      rw [str_l]; omega
    · rw [str_l]; simp
  obtain ⟨q, q1, _, q3⟩ := pi_same f.1.data.toList (by omega)
  have q1' : i_ParseInt f.1 = some q := q1
  refine .eq q1' (.eq (a := false) ?_ ?_)
  · rcases hf with ⟨h, rfl⟩ | rfl
    · have : q = (n, true) := by
        rcases q3 with ⟨m, _, e, rfl⟩ | ⟨_, hno⟩
        · rw [itoa_inj (show Lib.itoa n = Lib.itoa m from e)]
        · exact absurd ⟨n, h, rfl⟩ hno
      subst this
      simp
    · simp
  simp only [Bool.false_eq_true, if_false]
  rcases ha with ⟨hl, rfl⟩ | rfl
  · simp only [Bool.not_true, Bool.false_eq_true, if_false]
    have h4 := hl.2.2
    have htp := tail_len tl
    refine .call (ver_ok (tail tl) (by omega)) fun r11 ⟨_, v2⟩ => ?_
    have hr11 := v2 tl hl rfl
    subst hr11
    have hcl : code.length ≤ 100000 := by omega
    rw [str_s, str_l]
    refine .chk (by omega) (.call (vat_ok code 9 (by omega) (by omega) hcl) fun r12 ⟨b0, b1⟩ => .chk (by omega) ?_)
    have hm := tmod_rng (a := r12) (b := ((tail tl).length : Int)) b0 (by omega)
    obtain ⟨k, hk⟩ : ∃ k : Nat, r12.tmod ((tail tl).length : Int) = k := ⟨(r12.tmod ((tail tl).length : Int)).toNat, by omega⟩
    rw [hk] at hm ⊢
    obtain ⟨x, hx⟩ := get_ex (l := tail tl) (i := k) (by omega)
    refine .eq (ixs hx) (.call (vat_ok code 10 (by omega) (by omega) hcl) fun r14 ⟨c0, c1⟩ => .chk (by decide) (.eq (ixs hx) ?_))
    have hd := tmod_rng (a := r14) (b := 255) c0 (by omega)
    rw [w64_id (x := 1 + r14.tmod 255) (by omega), show (k : Int).toNat = k by omega]
    have hne := xor_ne x (1 + r14.tmod 255) (by omega) (by omega)
    obtain ⟨y, hy⟩ : ∃ y, y = mkU8 (IntKind.u8.wrap ((BitVec.ofInt (IntKind.u8).bits (x.toNat : Int) ^^^ BitVec.ofInt (IntKind.u8).bits (IntKind.u8.wrap (1 + r14.tmod 255))).toNat : Int)) := ⟨_, rfl⟩
    rw [← hy] at hne ⊢
    have hsplit : tail tl = (tail tl).take k ++ x :: (tail tl).drop (k + 1) := by
      have hlt : k < (tail tl).length := by omega
      have e1 : (tail tl).drop k = x :: (tail tl).drop (k + 1) := by
        rw [List.drop_eq_getElem_cons hlt]
        congr 1
        exact (List.getElem?_eq_some_iff.1 hx).2
      rw [← e1, List.take_append_drop]
    have hset : (tail tl).set k y = (tail tl).take k ++ y :: (tail tl).drop (k + 1) := by
      rw [List.set_eq_take_append_cons_drop, if_pos (by omega)]
    have hbs : bytS ((tail tl).set k y) = str ((tail tl).set k y) := rfl
    rw [hbs]
    refine .call (ver_ok _ (by simp; omega)) fun r15 ⟨w1, _⟩ => ?_
    have hf15 : r15.2 = false := by
      cases h : r15.2 with
      | false => rfl
      | true =>
        exfalso
        obtain ⟨r, g1, g2, _⟩ := w1 h
        exact flip_no hl hsplit hne ⟨r, g1, by rw [← hset]; exact g2⟩
    rw [hf15]
    simp only [if_true, beq_self_eq_true, Bool.not_false, Option.bind_some]
    exact .ok rfl
  · simp only [Bool.not_false, if_true, beq_self_eq_true]
    exact .ok rfl
end Go.Proofs.YtbedhobglodjbaaDoor
