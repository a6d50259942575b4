/- The plain law: what the models compute, no program in sight. -/
import Derived.Test.YtbedhobglodjbaaDoorCrM
import Derived.Test.YtbedhobglodjbaaDoorAbTot
namespace Go.Proofs.YtbedhobglodjbaaDoor
open Go Go.Ab
set_option maxHeartbeats 4000000
set_option linter.unusedVariables false
set_option linter.unusedSimpArgs false
/-! The cursor of the draws: it always answers. -/
def Cur (k : Nat) (c : l1Cur) : Prop := 0 ≤ c.at_ ∧ c.at_ ≤ k
theorem Cur.mono {k k' : Nat} {c : l1Cur} (h : Cur k c) (hk : k ≤ k') : Cur k' c := ⟨h.1, by have := h.2; omega⟩
theorem next_ok {k : Nat} {c : l1Cur} (h : Cur k c) (hk : k ≤ 4000000000) : ∃ r, s_l1Cur_next c = some r ∧ Cur (k + 1) r.2 ∧ 0 ≤ r.1 ∧ r.1 ≤ 255 := by
  obtain ⟨h0, h1⟩ := h
  have hw : w64 (c.at_ + 1) = c.at_ + 1 := w64_id (by omega)
  have hcur : ∀ s, Cur (k + 1) ⟨c.code_, w64 (c.at_ + 1), s⟩ := fun s => by rw [hw]; exact ⟨by show 0 ≤ c.at_ + 1; omega, by show c.at_ + 1 ≤ _; omega⟩
  unfold s_l1Cur_next
  have hv : ∃ v, (if (decide (c.at_ < (c.code_.length : Int))) = true then (idx c.code_ c.at_).bind fun e1 => some (w64 ((e1.toNat : Int))) else some 0) = some v ∧ 0 ≤ v ∧ v ≤ 255 := by
    by_cases hlt : c.at_ < c.code_.length
    · obtain ⟨x, hx, _, _⟩ := idx_lt h0 hlt
      have := x.toNat_lt
      refine ⟨(x.toNat : Int), ?_, by omega, by omega⟩
      simp only [hlt, decide_true, if_true, hx, Option.bind_some]
      rw [w64_id (by omega)]
    · exact ⟨0, by simp [hlt], by omega, by omega⟩
  obtain ⟨v, hv, hv0, hv1⟩ := hv
  rw [hv]
  simp only [Option.bind_some]
  split
  · exact ⟨_, rfl, hcur _, hv0, hv1⟩
  · rw [chk_of (by omega)]
    exact ⟨_, rfl, hcur _, and255 _⟩
theorem pick_ok {k : Nat} {c : l1Cur} (n : Int) (h : Cur k c) (hk : k ≤ 3000000000) : ∃ r, s_l1Cur_pick c n = some r ∧ Cur (k + 2) r.2 ∧ 0 ≤ r.1 ∧ (r.1 < n ∨ r.1 = 0) := by
  unfold s_l1Cur_pick
  by_cases hn : n ≤ 1
  · exact ⟨(0, c), by simp [hn], h.mono (by omega), by simp, .inr rfl⟩
  · obtain ⟨r, hr, hc, h0, h1⟩ := next_ok h (by omega)
    have hn' : decide (n ≤ 1) = false := by simpa using hn
    simp only [hn', Bool.false_eq_true, if_false, hr, Option.bind_some]
    have hne : chk (n ≠ 0) = some () := chk_of (by omega)
    by_cases h2 : 200 < n
    · obtain ⟨r', hr', hc', h0', h1'⟩ := next_ok hc (by omega)
      have e1 : w64 (r.1 * 256) = r.1 * 256 := w64_id (by omega)
      have e2 : w64 (r.1 * 256 + r'.1) = r.1 * 256 + r'.1 := w64_id (by omega)
      have h3 := tmod_rng (a := r.1 * 256 + r'.1) (b := n) (by omega) (by omega)
      simp only [h2, decide_true, if_true, hr', Option.bind_some, hne, e1, e2]
      exact ⟨_, rfl, hc'.mono (by omega), h3.1, .inl h3.2⟩
    · have h2' : decide (200 < n) = false := by simpa using h2
      have h3 := tmod_rng (a := r.1) (b := n) (by omega) (by omega)
      simp only [h2', Bool.false_eq_true, if_false, Option.bind_some, hne]
      exact ⟨_, rfl, hc.mono (by omega), h3.1, .inl h3.2⟩
theorem one_ok {k : Nat} {c : l1Cur} (n : Int) (h : Cur k c) (hk : k ≤ 3000000000) : ∃ r, s_l1Cur_one c n = some r ∧ Cur (k + 2) r.2 := by
  unfold s_l1Cur_one
  obtain ⟨r, hr, hc, _, _⟩ := pick_ok n h hk
  simp only [hr, Option.bind_some]
  exact ⟨_, rfl, hc⟩
theorem of_ok {k : Nat} {c : l1Cur} (l : List ByteArray) (hl : l ≠ []) (h : Cur k c) (hk : k ≤ 3000000000) : ∃ r, s_l1Cur_of c l = some r ∧ Cur (k + 2) r.2 ∧ r.1 ∈ l := by
  unfold s_l1Cur_of
  obtain ⟨r, hr, hc, h0, h1⟩ := pick_ok (l.length : Int) h hk
  have hpos : 0 < l.length := List.length_pos_iff.2 hl
  obtain ⟨x, hx, _, hm⟩ := idx_lt (l := l) h0 (by omega)
  simp only [hr, Option.bind_some, hx]
  exact ⟨_, rfl, hc, hm⟩
theorem cur0 (code : List UInt8) : Cur 0 ⟨code, 0, ⟨0⟩⟩ := ⟨by show (0 : Int) ≤ 0; omega, by show (0 : Int) ≤ _; omega⟩
/-! Texts: parts between bytes, no program in sight. -/
/-- The parts of a text between the occurrences of a byte. -/
def spl1 (c : UInt8) : List UInt8 → List (List UInt8)
  | [] => [[]]
  | x :: r => if x = c then [] :: spl1 c r else match spl1 c r with
    | [] => [[x]]
    | h :: t => (x :: h) :: t
theorem spl1_ne (c : UInt8) : ∀ l, spl1 c l ≠ []
  | [] => by simp [spl1]
  | x :: r => by
    unfold spl1
    split
    · simp
    · split <;> simp
theorem spl1_cons {c x : UInt8} {r : List UInt8} (h : x ≠ c) : ∃ a t, spl1 c r = a :: t ∧ spl1 c (x :: r) = (x :: a) :: t := by
  cases hs : spl1 c r with
  | nil => exact absurd hs (spl1_ne c r)
  | cons a t => exact ⟨a, t, rfl, by rw [spl1, if_neg h, hs]⟩
theorem index1_cons {c x : UInt8} {r : List UInt8} : Lib.index (x :: r) [c] = if x = c then 0 else if Lib.index r [c] = -1 then -1 else Lib.index r [c] + 1 := by
  rw [Lib.index]
  by_cases h : x = c
  · subst h; simp
  · have h1 : ([c] : List UInt8).isPrefixOf (x :: r) = false := by
      simp [List.isPrefixOf, Ne.symm h]
    rw [h1, if_neg h]
    simp only [Bool.false_eq_true, if_false, beq_iff_eq]
theorem splitK_spl1 (c : UInt8) : ∀ (l : List UInt8) (k : Nat), l.count c ≤ k → Lib.splitK [c] 0 k l = spl1 c l
  | [], k, _ => by
    cases k with
    | zero => rfl
    | succ k => rw [Lib.splitK]; simp [Lib.index, spl1]
  | x :: r, k, hk => by
    by_cases h : x = c
    · subst h
      rw [List.count_cons_self] at hk
      cases k with
      | zero => omega
      | succ k =>
        have ih := splitK_spl1 x r k (by omega)
        rw [Lib.splitK, index1_cons, if_pos rfl, spl1, if_pos rfl]
        simpa using ih
    · rw [List.count_cons_of_ne h] at hk
      have ih := splitK_spl1 c r k hk
      obtain ⟨a, t, h1, h2⟩ := spl1_cons (r := r) h
      rw [h2]
      cases k with
      | zero =>
        rw [Lib.splitK] at ih ⊢
        rw [h1] at ih
        cases ih; rfl
      | succ k =>
        rw [Lib.splitK, index1_cons, if_neg h]
        rw [Lib.splitK, h1] at ih
        by_cases hi : Lib.index r [c] = -1
        · rw [if_pos (by rw [hi]; rfl)] at ih
          rw [if_pos hi]
          cases ih
          simp
        · have hge := Lib.index_ge r [c]
          rw [if_neg (by simpa using hi)] at ih
          rw [if_neg hi, if_neg (by simp only [beq_iff_eq]; omega)]
          have e : (Lib.index r [c] + 1).toNat = (Lib.index r [c]).toNat + 1 := by omega
          rw [e]
          simp only [Nat.add_zero, List.length_cons, List.length_nil] at ih ⊢
          cases ih
          simp
theorem count1 (c : UInt8) (s : List UInt8) : Lib.count s [c] = s.count c := Lib.count_one c s
theorem splitB_one {s t : ByteArray} {c : UInt8} (h : t = ⟨#[c]⟩) : (Lib.splitB t 0 (Lib.countB s t) s).map (·.data.toList) = spl1 c s.data.toList := by
  subst h
  rw [Lib.splitB_data]
  exact splitK_spl1 c _ _ (by rw [show Lib.countB s ⟨#[c]⟩ = Lib.count s.data.toList [c] from rfl, count1]; exact Nat.le_refl _)
/-- Put together again. -/
theorem join_spl1 (c : UInt8) : ∀ l, Lib.join (spl1 c l) [c] = l
  | [] => rfl
  | x :: r => by
    have ih := join_spl1 c r
    by_cases h : x = c
    · subst h
      rw [spl1, if_pos rfl]
      cases hs : spl1 x r with
      | nil => exact absurd hs (spl1_ne x r)
      | cons a t =>
        rw [hs] at ih
        rw [Lib.join_cons] at ih ⊢
        simp only [Lib.joinTail, List.map_cons, List.flatten_cons, List.nil_append, List.singleton_append] at ih ⊢
        rw [List.cons_append, ih]
    · obtain ⟨a, t, h1, h2⟩ := spl1_cons (r := r) h
      rw [h1, Lib.join_cons] at ih
      rw [h2, Lib.join_cons, List.cons_append, ih]
theorem spl1_free (c : UInt8) : ∀ l, ∀ p ∈ spl1 c l, c ∉ p
  | [], p, hp => by simp [spl1] at hp; subst hp; simp
  | x :: r, p, hp => by
    have ih := spl1_free c r
    by_cases h : x = c
    · rw [spl1, if_pos h] at hp
      rcases List.mem_cons.1 hp with rfl | hp
      · simp
      · exact ih p hp
    · obtain ⟨a, t, h1, h2⟩ := spl1_cons (r := r) h
      rw [h2] at hp
      rw [h1] at ih
      rcases List.mem_cons.1 hp with rfl | hp
      · simp only [List.mem_cons, not_or]
        exact ⟨Ne.symm h, ih a (List.mem_cons_self ..)⟩
      · exact ih p (List.mem_cons_of_mem _ hp)
theorem spl1_app {c : UInt8} : ∀ {p : List UInt8}, c ∉ p → ∀ l, spl1 c (p ++ c :: l) = p :: spl1 c l
  | [], _, l => by rw [List.nil_append, spl1, if_pos rfl]
  | x :: p, hp, l => by
    simp only [List.mem_cons, not_or] at hp
    have ih := spl1_app hp.2 l
    rw [List.cons_append, spl1, if_neg (Ne.symm hp.1), ih]
theorem spl1_self {c : UInt8} : ∀ {p : List UInt8}, c ∉ p → spl1 c p = [p]
  | [], _ => rfl
  | x :: p, hp => by
    simp only [List.mem_cons, not_or] at hp
    rw [spl1, if_neg (Ne.symm hp.1), spl1_self hp.2]
/-- Taken apart again. -/
theorem spl1_join {c : UInt8} : ∀ {l : List (List UInt8)}, l ≠ [] → (∀ p ∈ l, c ∉ p) → spl1 c (Lib.join l [c]) = l
  | [], h, _ => absurd rfl h
  | [p], _, hp => by rw [Lib.join_one]; exact spl1_self (hp p (List.mem_cons_self ..))
  | p :: q :: r, _, hp => by
    have ih := spl1_join (l := q :: r) (by simp) (fun x hx => hp x (List.mem_cons_of_mem _ hx))
    rw [Lib.join_cons] at ih ⊢
    have e : p ++ Lib.joinTail [c] (q :: r) = p ++ c :: (q ++ Lib.joinTail [c] r) := by simp [Lib.joinTail]
    rw [e, spl1_app (hp p (List.mem_cons_self ..)), ih]
theorem contains1 (c : UInt8) (l : List UInt8) : Lib.contains l [c] = decide (c ∈ l) := by
  rw [Lib.contains]
  congr 1
  apply propext
  induction l with
  | nil => simp [Lib.index]
  | cons x r ih =>
    rw [index1_cons]
    have hge := Lib.index_ge r [c]
    by_cases h : x = c
    · subst h; simp
    · rw [if_neg h]
      simp only [List.mem_cons, Ne.symm h, false_or]
      rw [← ih]
      split <;> omega
/-- Cut at the first occurrence of a byte. -/
theorem cut1_hit {c : UInt8} : ∀ {p : List UInt8}, c ∉ p → ∀ l, Lib.cut (p ++ c :: l) [c] = (p, l, true) := by
  intro p hp l
  have hi : ∀ p : List UInt8, c ∉ p → Lib.index (p ++ c :: l) [c] = p.length := by
    intro p
    induction p with
    | nil => intro _; rw [List.nil_append, index1_cons, if_pos rfl]; rfl
    | cons x p ih =>
      intro hp
      simp only [List.mem_cons, not_or] at hp
      rw [List.cons_append, index1_cons, if_neg (Ne.symm hp.1), ih hp.2]
      simp only [List.length_cons]
      rw [if_neg (by omega)]
      omega
  rw [Lib.cut, hi p hp, if_pos (by omega)]
  have e : (p.length : Int).toNat = p.length := by omega
  rw [e]
  have e2 : p ++ c :: l = (p ++ [c]) ++ l := by simp
  refine Prod.ext ?_ (Prod.ext ?_ rfl)
  · show (p ++ c :: l).take p.length = p
    exact List.take_left' rfl
  · show (p ++ c :: l).drop (p.length + [c].length) = l
    rw [e2]
    exact List.drop_left' (by simp)
theorem cut1_miss {c : UInt8} {l : List UInt8} (h : c ∉ l) : Lib.cut l [c] = (l, [], false) := by
  have := contains1 c l
  rw [Lib.contains] at this
  rw [Lib.cut, if_neg]
  intro h0
  rw [decide_eq_true h0] at this
  exact h (of_decide_eq_true this.symm)
theorem cut1 (c : UInt8) : ∀ l : List UInt8, (c ∉ l ∧ Lib.cut l [c] = (l, [], false)) ∨ ∃ p q, c ∉ p ∧ l = p ++ c :: q ∧ Lib.cut l [c] = (p, q, true) := by
  intro l
  by_cases h : c ∈ l
  · obtain ⟨p, q, rfl, hp⟩ := List.eq_append_cons_of_mem h
    exact .inr ⟨p, q, hp, rfl, cut1_hit hp q⟩
  · exact .inl ⟨h, cut1_miss h⟩
/-! Texts as lists of bytes; numbers' texts; a test of every byte. -/
theorem bsize (x : ByteArray) : x.data.toList.length = x.size := rfl
theorem tl_eq (x : ByteArray) : x.toList = x.data.toList := by
  have h : ∀ (n i : Nat) (r : List UInt8), x.size - i = n → ByteArray.toList.loop x i r = r.reverse ++ x.data.toList.drop i := by
    intro n
    induction n with
    | zero =>
      intro i r hn
      rw [ByteArray.toList.loop, if_neg (by omega), List.drop_of_length_le (by rw [bsize]; omega), List.append_nil]
    | succ n ih =>
      intro i r hn
      have hi : i < x.data.toList.length := by rw [bsize]; omega
      rw [ByteArray.toList.loop, if_pos (by omega), ih (i + 1) _ (by omega), List.drop_eq_getElem_cons hi]
      have : x.get! i = x.data.toList[i] := by
        have h2 : i < x.data.size := by simpa using hi
        show x.data[i]! = _
        rw [getElem!_pos x.data i h2]
        simp
      rw [this]
      simp
  show ByteArray.toList.loop x 0 [] = _
  rw [h _ 0 [] rfl]
  simp
theorem str_of (x : ByteArray) : x = str x.data.toList := rfl
theorem str_l (l : List UInt8) : (str l).data.toList = l := rfl
theorem str_t (l : List UInt8) : (str l).toList = l := tl_eq _
theorem str_s (l : List UInt8) : (str l).size = l.length := rfl
theorem str_app (a b : List UInt8) : str a ++ str b = str (a ++ b) := by
  apply ByteArray.ext; simp [str]
theorem str_ext (l : List UInt8) (i j : Nat) : (str l).extract i j = str ((l.take j).drop i) := by
  apply ByteArray.ext
  simp [str, List.drop_take]
theorem str_inj {a b : List UInt8} : str a = str b ↔ a = b := ⟨fun h => congrArg (fun x : ByteArray => x.data.toList) h, fun h => by rw [h]⟩
theorem str_empty : ByteArray.empty = str [] := rfl
theorem getD_some {l : List UInt8} {i : Nat} {x : UInt8} (h : l[i]? = some x) : l.getD i 0 = x := by rw [List.getD_eq_getElem?_getD, h]; rfl
theorem beq_str (a b : List UInt8) : ((str a).toList == (str b).toList) = decide (a = b) := by
  rw [str_t, str_t]
  by_cases h : a = b <;> simp [h]
theorem u8_eq (x c : UInt8) : (((x.toNat : Nat) : Int) == ((c.toNat : Nat) : Int)) = decide (x = c) := by
  by_cases h : x = c
  · subst h; simp
  · have : ¬ (x.toNat : Int) = c.toNat := fun e => h (UInt8.toNat_inj.1 (by omega))
    simp [h, this]
/-- A separator, and what is on its two sides. -/
theorem sep_inj {c : UInt8} : ∀ {a b x y : List UInt8}, c ∉ a → c ∉ b → a ++ c :: x = b ++ c :: y → a = b ∧ x = y
  | [], [], _, _, _, _, h => by simpa using h
  | [], z :: b, _, _, _, hb, h => by
    simp only [List.nil_append, List.cons_append, List.cons.injEq] at h
    exact absurd (by rw [h.1]; exact List.mem_cons_self ..) hb
  | z :: a, [], _, _, ha, _, h => by
    simp only [List.nil_append, List.cons_append, List.cons.injEq] at h
    exact absurd (by rw [← h.1]; exact List.mem_cons_self ..) ha
  | z :: a, w :: b, x, y, ha, hb, h => by
    simp only [List.cons_append, List.cons.injEq] at h
    simp only [List.mem_cons, not_or] at ha hb
    obtain ⟨h1, h2⟩ := sep_inj ha.2 hb.2 h.2
    exact ⟨by rw [h.1, h1], h2⟩
/-- Every byte passes a test. -/
theorem all_loop {α : Type} (l : List α) (p : α → Prop) [DecidablePred p] {step : Int → Option (Lp Int (Fl Bool Unit))} (hl : l.length ≤ 4294967296) (b : Bool)
    (h1 : ∀ (i : Nat) x, l[i]? = some x → p x → step (i : Int) = some (.nx (w64 ((i : Int) + 1)))) (h2 : ∀ (i : Nat) x, l[i]? = some x → ¬ p x → step (i : Int) = some (.dn (.ret b)))
    (h3 : step (l.length : Int) = some (.dn (.go ()))) : iter step (0 : Int) = if (∀ x ∈ l, p x) then some (.go ()) else some (.ret b) := by
  have h : ∀ k i : Nat, k + i = l.length → (∀ x ∈ l.take i, p x) → iter step (i : Int) = if (∀ x ∈ l, p x) then some (.go ()) else some (.ret b) := by
    intro k
    induction k with
    | zero =>
      intro i hi hp
      have e : i = l.length := by omega
      subst e
      rw [List.take_length] at hp
      rw [iter_dn h3, if_pos hp]
    | succ k ih =>
      intro i hi hp
      obtain ⟨x, hx⟩ := get_ex (l := l) (i := i) (by omega)
      by_cases hpx : p x
      · rw [iter_nx (h1 i x hx hpx), w64_succ (by omega)]
        refine ih (i + 1) (by omega) fun y hy => ?_
        rw [take_succ hx] at hy
        rcases List.mem_append.1 hy with hy | hy
        · exact hp y hy
        · simp at hy; subst hy; exact hpx
      · rw [iter_dn (h2 i x hx hpx), if_neg (fun h => hpx (h x (List.mem_of_getElem? hx)))]
  exact h l.length 0 (by omega) (by simp)
/-- Numbers. -/
def num (n : Nat) : List UInt8 := Lib.decDigits n
theorem num_dig : ∀ (n : Nat), ∀ b ∈ num n, 48 ≤ b.toNat ∧ b.toNat ≤ 57 := by
  intro n
  induction n using Nat.strongRecOn with
  | _ n ih =>
    intro b hb
    unfold num at hb ih
    rw [Lib.decDigits] at hb
    split at hb
    · simp only [List.mem_singleton] at hb
      subst hb
      rw [UInt8.toNat_ofNat']; omega
    · rcases List.mem_append.1 hb with hb | hb
      · exact ih (n / 10) (by omega) b hb
      · simp only [List.mem_singleton] at hb
        subst hb
        rw [UInt8.toNat_ofNat']; omega
theorem num_len {n : Nat} (h : n < 1000000) : 1 ≤ (num n).length ∧ (num n).length ≤ 6 := by
  unfold num
  rw [Lib.decDigits_length]
  have h1 : ∀ n : Nat, n < 10 → Lib.nDigits n = 1 := fun n h => Lib.nDigits_small h
  have h2 : ∀ n k : Nat, ¬ n < 10 → Lib.nDigits (n / 10) ≤ k → Lib.nDigits n ≤ k + 1 := fun n k h hk => by rw [Lib.nDigits_big h]; omega
  have key : ∀ (k n : Nat), n < 10 ^ (k + 1) → Lib.nDigits n ≤ k + 1 := by
    intro k
    induction k with
    | zero => intro n h; rw [h1 n (by simpa using h)]; omega
    | succ k ih =>
      intro n h
      by_cases h0 : n < 10
      · rw [h1 n h0]; omega
      · exact h2 n _ h0 (ih (n / 10) (by rw [Nat.pow_succ] at h; omega))
  exact ⟨Lib.nDigits_pos n, key 5 n (by simpa using h)⟩
theorem num_no {c : UInt8} (hc : c.toNat < 48 ∨ 57 < c.toNat) (n : Nat) : c ∉ num n := fun h => by
  have := num_dig n c h
  omega
theorem dd_big {u : Nat} (h : ¬ u < 10) : Lib.decDigits u = Lib.decDigits (u / 10) ++ [UInt8.ofNat (48 + u % 10)] := by
  rw [Lib.decDigits, dif_neg h]
theorem num_inj : ∀ {a b : Nat}, num a = num b → a = b := by
  intro a
  induction a using Nat.strongRecOn with
  | _ a ih =>
    intro b h
    unfold num at h ih
    have hl := congrArg List.length h
    rw [Lib.decDigits_length, Lib.decDigits_length] at hl
    by_cases ha : a < 10
    · by_cases hb : b < 10
      · rw [Lib.decDigits_one ha, Lib.decDigits_one hb] at h
        simp only [List.cons.injEq, and_true] at h
        have := congrArg UInt8.toNat h
        rw [UInt8.toNat_ofNat', UInt8.toNat_ofNat'] at this; omega
      · rw [Lib.nDigits_small ha, Lib.nDigits_big hb] at hl
        have := Lib.nDigits_pos (b / 10); omega
    · by_cases hb : b < 10
      · rw [Lib.nDigits_small hb, Lib.nDigits_big ha] at hl
        have := Lib.nDigits_pos (a / 10); omega
      · rw [dd_big ha, dd_big hb] at h
        rw [Lib.nDigits_big ha, Lib.nDigits_big hb] at hl
        obtain ⟨h1, h2⟩ := List.append_inj h (by rw [Lib.decDigits_length, Lib.decDigits_length]; omega)
        have h3 := ih (a / 10) (by omega) h1
        simp only [List.cons.injEq, and_true] at h2
        have := congrArg UInt8.toNat h2
        rw [UInt8.toNat_ofNat', UInt8.toNat_ofNat'] at this; omega
theorem itoa_num {n : Int} (h0 : 0 ≤ n) (h1 : n < 1000000) : strconv_Itoa n = some (str (num n.toNat)) := by
  unfold strconv_Itoa itoaM
  rw [if_pos (by omega)]
  unfold Lib.itoa
  rw [if_neg (by omega)]
  rfl
theorem dig_ext {n : Int} (h0 : 0 ≤ n) (h1 : n < 10) : (str [48, 49, 50, 51, 52, 53, 54, 55, 56, 57]).extract n.toNat (w64 (n + 1)).toNat = str [UInt8.ofNat (48 + n.toNat)] := by
  rw [w64_id (by omega)]
  have : n = 0 ∨ n = 1 ∨ n = 2 ∨ n = 3 ∨ n = 4 ∨ n = 5 ∨ n = 6 ∨ n = 7 ∨ n = 8 ∨ n = 9 := by omega
  rcases this with rfl | rfl | rfl | rfl | rfl | rfl | rfl | rfl | rfl | rfl <;> rw [str_ext] <;> rfl
theorem lnum_k : ∀ (d : Nat) (k : Nat) (n : Int), 0 ≤ n → n < 10 ^ (d + 1) → d ≤ 8 → d < k → s_l1Num_k k n = some (str (num n.toNat))
  | d, k, n, h0, h1, hd, hk => by
    obtain ⟨k, rfl⟩ : ∃ j, k = j + 1 := ⟨k - 1, by omega⟩
    have hb : n < 1000000000 := by
      have h9 : (10 : Nat) ^ (d + 1) ≤ 10 ^ 9 := Nat.pow_le_pow_right (by decide) (by omega)
      have h10 : ((10 ^ (d + 1) : Nat) : Int) = (10 : Int) ^ (d + 1) := by simp
      omega
    show s_l1Num_F (s_l1Num_k k) n = _
    unfold s_l1Num_F
    by_cases hn : n < 10
    · have e2 : decide (n < 0) = false := decide_eq_false (by omega)
      simp only [e2, hn, decide_true, Bool.false_eq_true, if_false, if_true]
      rw [chk_of (by rw [w64_id (by omega)]; exact ⟨h0, by omega, by show n + 1 ≤ 10; omega⟩), Option.bind_some, dig_ext h0 hn]
      unfold num
      rw [Lib.decDigits_one (by omega)]
    · match d, h1, hd, hk with
      | 0, h1, _, _ => simp at h1; omega
      | d + 1, h1, hd, hk =>
        have e2 : decide (n < 0) = false := decide_eq_false (by omega)
        have e3 : decide (n < 10) = false := decide_eq_false hn
        have et : n.tdiv 10 = n / 10 := Int.tdiv_eq_ediv_of_nonneg h0
        have em : n.tmod 10 = n % 10 := Int.tmod_eq_emod_of_nonneg h0
        have ew : w64 (n.tdiv 10) = n / 10 := by rw [et, w64_id (by omega)]
        have hr := lnum_k d k (n / 10) (by omega) (by rw [Int.pow_succ] at h1; omega) (by omega) (by omega)
        have hm0 : 0 ≤ n % 10 := by omega
        have hm1 : n % 10 < 10 := by omega
        simp only [e2, e3, Bool.false_eq_true, if_false, ew, hr, em]
        have c10 : chk ((10 : Int) ≠ 0) = some () := chk_of (by decide)
        simp only [c10, Option.bind_some]
        rw [chk_of (by rw [w64_id (by omega)]; exact ⟨hm0, by omega, by show n % 10 + 1 ≤ 10; omega⟩), Option.bind_some, dig_ext hm0 hm1]
        have hlen : (num (n / 10).toNat).length ≤ 100 := by
          unfold num
          rw [Lib.decDigits_length]
          have key : ∀ (k n : Nat), n < 10 ^ (k + 1) → Lib.nDigits n ≤ k + 1 := by
            intro k
            induction k with
            | zero => intro n h; rw [Lib.nDigits_small (by simpa using h)]; omega
            | succ k ih =>
              intro n h
              by_cases h0 : n < 10
              · rw [Lib.nDigits_small h0]; omega
              · rw [Lib.nDigits_big h0]
                have := ih (n / 10) (by rw [Nat.pow_succ] at h; omega)
                omega
          have := key 9 (n / 10).toNat (by omega)
          omega
        rw [chk_of (by rw [str_s, str_s]; simp; omega), Option.bind_some, str_app]
        unfold num
        rw [dd_big (u := n.toNat) (by omega)]
        have e5 : (n / 10).toNat = n.toNat / 10 := by omega
        have e6 : (n % 10).toNat = n.toNat % 10 := by omega
        rw [e5, e6]
theorem lnum_ok {n : Int} (h0 : 0 ≤ n) (h1 : n < 1000000) : s_l1Num n = some (str (num n.toNat)) := by
  unfold s_l1Num
  exact lnum_k 5 4294967296 n h0 (by simpa using h1) (by omega) (by omega)
/-- The parts between bytes. -/
theorem lsplit_ok (l : List UInt8) (b : UInt8) (hl : l.length ≤ 1000000) : s_l1Split (str l) b = some ((spl1 b l).map str) := by
  have h : Tot (iter (s_l1Split_L1 (str l) b) ((0 : Int), (0 : Int), ([] : List ByteArray))) fun r => ∃ (v : Nat) (ps : List (List UInt8)), r = ((v : Int), ps.map str) ∧ v ≤ l.length ∧ ps.length ≤ l.length ∧ spl1 b l = ps ++ [l.drop v] := by
    refine Tot.iter (fun k a => ∃ (v i : Nat) (ps : List (List UInt8)), k + i = l.length ∧ a = ((v : Int), (i : Int), ps.map str) ∧ v ≤ i ∧ ps.length ≤ i ∧ b ∉ (l.take i).drop v ∧ spl1 b l = ps ++ spl1 b (l.drop v)) (n := l.length) ⟨0, 0, [], rfl, rfl, by omega, by simp, by simp, by simp⟩ ?_
    rintro k _ ⟨v, i, ps, hk, rfl, hvi, hps, hb, hs⟩
    unfold s_l1Split_L1
    dsimp only
    rw [str_s]
    refine .iteP (fun hlt => ?_) (fun hge => ?_)
    · have hlt' : i < l.length := by omega
      obtain ⟨x, hx⟩ := get_ex hlt'
      have hd : l.drop v = (l.take i).drop v ++ x :: l.drop (i + 1) := by
        have e1 : l.drop i = x :: l.drop (i + 1) := by
          rw [List.drop_eq_getElem_cons hlt']
          congr 1
          exact (List.getElem?_eq_some_iff.1 hx).2
        rw [← e1, ← List.drop_append_of_le_length (by simp; omega), List.take_append_drop]
      have ex : (str l).data.toList.getD (i : Int).toNat 0 = x := by
        rw [str_l, show (i : Int).toNat = i by omega]; exact getD_some hx
      rw [chk_of ⟨by omega, hlt⟩, Option.bind_some, ex, u8_eq]
      refine .call (P := fun r => ∃ (v' : Nat) (ps' : List (List UInt8)), r = ((v' : Int), ps'.map str) ∧ v' ≤ i + 1 ∧ ps'.length ≤ i + 1 ∧ b ∉ (l.take (i + 1)).drop v' ∧ spl1 b l = ps' ++ spl1 b (l.drop v')) (.iteP (fun e => ?_) (fun e => .ok ⟨v, ps, rfl, by omega, by omega, ?_, hs⟩)) ?_
      · subst e
        have ee : (str l).extract (v : Int).toNat (i : Int).toNat = str ((l.take i).drop v) := by
          rw [str_ext]; simp
        rw [ee]
        refine .chk ⟨by omega, by omega, by omega⟩ (.chk (by simp; omega) (.ok ⟨i + 1, ps ++ [(l.take i).drop v], ?_, by omega, by simp; omega, by simp, ?_⟩))
        · rw [w64_succ (by omega)]; simp
        · rw [hs, hd, spl1_app hb, List.append_assoc]; rfl
      · rw [take_succ hx, List.drop_append_of_le_length (by simp; omega)]
        simp only [List.mem_append, List.mem_singleton, not_or]
        exact ⟨hb, fun h => e h.symm⟩
      · rintro _ ⟨v', ps', rfl, q1, q2, q3, q4⟩
        exact .nx ⟨k - 1, by omega, v', i + 1, ps', by omega, by rw [w64_succ (by omega)], q1, q2, q3, q4⟩
    · have e : i = l.length := by omega
      subst e
      rw [List.take_length] at hb
      rw [spl1_self hb] at hs
      exact .dn ⟨v, ps, rfl, hvi, hps, hs⟩
  obtain ⟨_, hr, v, ps, rfl, h1, h2, h3⟩ := h
  unfold s_l1Split
  rw [hr]
  simp only [Option.bind_some]
  rw [str_s, chk_of ⟨by omega, by omega⟩, Option.bind_some, chk_of (by simp; omega), Option.bind_some, h3, str_ext]
  simp
/-! Log lines. -/
def PlainB (l : List UInt8) : Prop := ∀ b ∈ l, 32 ≤ b.toNat ∧ b.toNat ≤ 126 ∧ b ≠ 35
def cmd (e : LogRecord) : List UInt8 := e.Command.data.toList
def rep (e : LogRecord) : List UInt8 := e.Reply.data.toList
def GoodR (e : LogRecord) : Prop := cmd e ≠ [] ∧ PlainB (cmd e) ∧ (cmd e).length ≤ 160 ∧ 64 ∉ cmd e ∧ PlainB (rep e) ∧ (rep e).length ≤ 200
noncomputable instance (l : List UInt8) : Decidable (PlainB l) := Classical.propDecidable _
noncomputable instance (e : LogRecord) : Decidable (GoodR e) := Classical.propDecidable _
theorem lin_eq (x a b : Int) : s_l1In x a b = some (decide (a ≤ x ∧ x ≤ b)) := by
  unfold s_l1In
  by_cases h1 : a ≤ x <;> by_cases h2 : x ≤ b <;> simp [h1, h2]
theorem within_eq (x a b : Int) : i_within x a b = some (decide (a ≤ x ∧ x ≤ b)) := lin_eq x a b
theorem plain_t (x : UInt8) : (32 ≤ x.toNat ∧ x.toNat ≤ 126 ∧ x ≠ 35) ↔ ¬ (¬ ((32 : Int) ≤ (x.toNat : Int) ∧ (x.toNat : Int) ≤ 126) ∨ x = 35) := by
  constructor
  · intro ⟨h1, h2, h3⟩ h
    rcases h with h | h
    · exact h ⟨by omega, by omega⟩
    · exact h3 h
  · intro h
    refine ⟨?_, ?_, fun e => h (.inr e)⟩
    · apply Classical.byContradiction; intro hn; exact h (.inl fun hh => hn (by omega))
    · apply Classical.byContradiction; intro hn; exact h (.inl fun hh => hn (by omega))
theorem u8_35 (x : UInt8) : (((x.toNat : Nat) : Int) == 35) = decide (x = 35) := u8_eq x 35
theorem plain_s (l : List UInt8) (m : Int) (hl : l.length ≤ 1000000) : s_l27Plain (str l) m = some (decide (PlainB l ∧ (l.length : Int) ≤ m)) := by
  unfold s_l27Plain
  have e1 : ∀ (i : Nat) x, l[i]? = some x → s_l27Plain_L1 (str l) (i : Int) = if (32 ≤ x.toNat ∧ x.toNat ≤ 126 ∧ x ≠ 35) then some (.nx (w64 ((i : Int) + 1))) else some (.dn (.ret false)) := by
    intro i x hx
    have hlt := get_lt hx
    have hb := x.toNat_lt
    unfold s_l27Plain_L1
    dsimp only
    rw [str_s, if_pos (by simpa using hlt), chk_of ⟨by omega, by omega⟩, Option.bind_some, str_l, show (i : Int).toNat = i by omega, getD_some hx, w64_id (by omega), lin_eq]
    simp only [Option.bind_some, u8_35]
    by_cases hp : 32 ≤ x.toNat ∧ x.toNat ≤ 126 ∧ x ≠ 35
    · have h1 : ((32 : Int) ≤ (x.toNat : Int) ∧ (x.toNat : Int) ≤ 126) := ⟨by omega, by omega⟩
      rw [if_pos hp]
      simp [h1, hp.2.2]
    · rw [if_neg hp]
      by_cases h1 : ((32 : Int) ≤ (x.toNat : Int) ∧ (x.toNat : Int) ≤ 126)
      · have h2 : x = 35 := Classical.byContradiction fun h2 => hp ⟨by omega, by omega, h2⟩
        simp [h1, h2]
      · simp [h1]
  rw [all_loop l (fun x => 32 ≤ x.toNat ∧ x.toNat ≤ 126 ∧ x ≠ 35) (by omega) false (fun i x hx hp => by rw [e1 i x hx, if_pos hp]) (fun i x hx hp => by rw [e1 i x hx, if_neg hp]) (by unfold s_l27Plain_L1; simp [str_s])]
  rw [str_s]
  by_cases hp : PlainB l
  · have : ∀ x ∈ l, 32 ≤ x.toNat ∧ x.toNat ≤ 126 ∧ x ≠ 35 := hp
    rw [if_pos this]
    simp [flb, hp]
  · have : ¬ ∀ x ∈ l, 32 ≤ x.toNat ∧ x.toNat ≤ 126 ∧ x ≠ 35 := hp
    rw [if_neg this]
    simp [flb, hp]
theorem plain_i (l : List UInt8) (hl : l.length ≤ 1000000) : i_isPrintable (str l) = some (decide (PlainB l)) := by
  unfold i_isPrintable
  have e1 : ∀ (i : Nat) x, l[i]? = some x → i_isPrintable_L1 (str l) (i : Int) = if (32 ≤ x.toNat ∧ x.toNat ≤ 126 ∧ x ≠ 35) then some (.nx (w64 ((i : Int) + 1))) else some (.dn (.ret false)) := by
    intro i x hx
    have hlt := get_lt hx
    have hb := x.toNat_lt
    unfold i_isPrintable_L1
    dsimp only
    rw [str_s, if_pos (by simpa using hlt), chk_of ⟨by omega, by omega⟩, Option.bind_some, str_l, show (i : Int).toNat = i by omega, getD_some hx]
    simp only [Option.bind_some, u8_35]
    by_cases h1 : (x.toNat : Int) < 32
    · have hp : ¬ (32 ≤ x.toNat ∧ x.toNat ≤ 126 ∧ x ≠ 35) := fun h => by omega
      simp [h1, hp]
    · by_cases h2 : (126 : Int) < x.toNat
      · have hp : ¬ (32 ≤ x.toNat ∧ x.toNat ≤ 126 ∧ x ≠ 35) := fun h => by omega
        simp [h1, h2, hp]
      · by_cases h3 : x = 35
        · have hp : ¬ (32 ≤ x.toNat ∧ x.toNat ≤ 126 ∧ x ≠ 35) := fun h => h.2.2 h3
          rw [if_neg hp]
          simp [h1, h2, h3]
        · have hp : (32 ≤ x.toNat ∧ x.toNat ≤ 126 ∧ x ≠ 35) := ⟨by omega, by omega, h3⟩
          rw [if_pos hp]
          simp [h1, h2, h3]
  rw [all_loop l (fun x => 32 ≤ x.toNat ∧ x.toNat ≤ 126 ∧ x ≠ 35) (by omega) false (fun i x hx hp => by rw [e1 i x hx, if_pos hp]) (fun i x hx hp => by rw [e1 i x hx, if_neg hp]) (by unfold i_isPrintable_L1; simp [str_s])]
  by_cases hp : PlainB l
  · have : ∀ x ∈ l, 32 ≤ x.toNat ∧ x.toNat ≤ 126 ∧ x ≠ 35 := hp
    rw [if_pos this]
    simp [flb, hp]
  · have : ¬ ∀ x ∈ l, 32 ≤ x.toNat ∧ x.toNat ≤ 126 ∧ x ≠ 35 := hp
    rw [if_neg this]
    simp [flb, hp]
theorem stands_ok (l : List UInt8) (b : UInt8) (hl : l.length ≤ 1000000) : s_l1Stands (str l) b = some (decide (b ∈ l)) := by
  unfold s_l1Stands
  have e1 : ∀ (i : Nat) x, l[i]? = some x → s_l1Stands_L1 (str l) b (i : Int) = if x ≠ b then some (.nx (w64 ((i : Int) + 1))) else some (.dn (.ret true)) := by
    intro i x hx
    have hlt := get_lt hx
    unfold s_l1Stands_L1
    dsimp only
    rw [str_s, if_pos (by simpa using hlt), chk_of ⟨by omega, by omega⟩, Option.bind_some, str_l, show (i : Int).toNat = i by omega, getD_some hx, u8_eq]
    by_cases h : x = b <;> simp [h]
  rw [all_loop l (fun x => x ≠ b) (by omega) true (fun i x hx hp => by rw [e1 i x hx, if_pos hp]) (fun i x hx hp => by rw [e1 i x hx, if_neg hp]) (by unfold s_l1Stands_L1; simp [str_s])]
  by_cases hp : b ∈ l
  · have : ¬ ∀ x ∈ l, x ≠ b := fun h => h b hp rfl
    rw [if_neg this]
    simp [flb, hp]
  · have : ∀ x ∈ l, x ≠ b := fun x hx e => hp (e ▸ hx)
    rw [if_pos this]
    simp [flb, hp]
theorem contains_ok (l : List UInt8) (c : UInt8) (hl : l.length ≤ 1000000) : strings_Contains (str l) (str [c]) = some (decide (c ∈ l)) := by
  unfold strings_Contains containsM
  rw [if_pos (by rw [str_s]; omega), str_l, str_l, contains1]
def RB (e : LogRecord) : Prop := (cmd e).length ≤ 100000 ∧ (rep e).length ≤ 100000
theorem cmd_str (e : LogRecord) : e.Command = str (cmd e) := rfl
theorem rep_str (e : LogRecord) : e.Reply = str (rep e) := rfl
theorem good_s (e : LogRecord) (h : RB e) : s_l27Good e = some (decide (GoodR e)) := by
  unfold s_l27Good
  have h1 := h.1; have h2 := h.2
  rw [cmd_str, rep_str, beq_str, plain_s _ _ (by omega), plain_s _ _ (by omega), stands_ok _ _ (by omega)]
  have e64 : mkU8 64 = 64 := rfl
  simp only [Option.bind_some, e64]
  unfold GoodR
  by_cases a1 : cmd e = [] <;> by_cases a2 : PlainB (cmd e) <;> by_cases a3 : (cmd e).length ≤ 160 <;> by_cases a4 : (64 : UInt8) ∈ cmd e <;> by_cases a5 : PlainB (rep e) <;> by_cases a6 : (rep e).length ≤ 200 <;>
    simp [a1, a2, a3, a4, a5, a6, show ((cmd e).length : Int) ≤ 160 ↔ (cmd e).length ≤ 160 by omega, show ((rep e).length : Int) ≤ 200 ↔ (rep e).length ≤ 200 by omega]
theorem valid_i (e : LogRecord) (h : RB e) : i_IsValidRecord e = some (decide (GoodR e)) := by
  unfold i_IsValidRecord i_isCommand
  have h1 := h.1; have h2 := h.2
  rw [cmd_str, rep_str, plain_i _ (by omega), plain_i _ (by omega), contains_ok _ _ (by omega), within_eq, str_s, str_s]
  simp only [Option.bind_some]
  unfold GoodR
  have e0 : ((1 : Int) ≤ ((cmd e).length : Int)) ↔ cmd e ≠ [] := by rw [← List.length_pos_iff]; omega
  by_cases a1 : cmd e = [] <;> by_cases a2 : PlainB (cmd e) <;> by_cases a3 : (cmd e).length ≤ 160 <;> by_cases a4 : (64 : UInt8) ∈ cmd e <;> by_cases a5 : PlainB (rep e) <;> by_cases a6 : (rep e).length ≤ 200 <;>
    simp [e0, a1, a2, a3, a4, a5, a6, show ((cmd e).length : Int) ≤ 160 ↔ (cmd e).length ≤ 160 by omega, show ((rep e).length : Int) ≤ 200 ↔ (rep e).length ≤ 200 by omega]
/-- The sum of a text's bytes. -/
def sumF (i : Int) (b : UInt8) : Int := (41 * i + b.toNat + 1).tmod 999979
def sumL (l : List UInt8) : Int := l.foldl sumF 7
theorem sumF_rng {i : Int} (h : 0 ≤ i) (b : UInt8) : 0 ≤ sumF i b ∧ sumF i b < 999979 := by
  unfold sumF
  exact tmod_rng (by omega) (by omega)
theorem sum_rng : ∀ (l : List UInt8) (a : Int), 0 ≤ a ∧ a < 999979 → 0 ≤ l.foldl sumF a ∧ l.foldl sumF a < 999979
  | [], a, h => h
  | b :: l, a, h => sum_rng l _ (sumF_rng h.1 b)
theorem lsum_ok (l : List UInt8) (hl : l.length ≤ 1000000) : s_l1Sum (str l) = some (sumL l) := by
  have h := fold_loop (step := s_l1Sum_L1 (str l)) l sumF 7 (fun i a => (a, (i : Int))) (fun a => a) (fun i x hx => ?_) (by unfold s_l1Sum_L1; simp [str_s])
  · unfold s_l1Sum
    have e : ((7 : Int), ((0 : Nat) : Int)) = ((7 : Int), (0 : Int)) := rfl
    rw [e] at h
    rw [h]; rfl
  · have hlt := get_lt hx
    have hb := x.toNat_lt
    have hr := sum_rng (l.take i) 7 (by omega)
    unfold s_l1Sum_L1
    dsimp only
    rw [str_s, if_pos (by simpa using hlt), chk_of ⟨by omega, by omega⟩, Option.bind_some, chk_of (by decide), Option.bind_some, str_l, show (i : Int).toNat = i by omega, getD_some hx, w64_succ (by omega), w64_id (x := (x.toNat : Int)) (by omega), w64_id (x := 41 * _) (by omega), w64_id (x := 41 * _ + _) (by omega), w64_id (by omega)]
    rfl
theorem csum_eq (s : ByteArray) : i_checksum s = s_l1Sum s := rfl
def bodyL (k : Nat) (e : LogRecord) : List UInt8 := num k ++ 32 :: (cmd e ++ 64 :: rep e)
def tail (l : List UInt8) : List UInt8 := l ++ 35 :: num (sumL l).toNat
def lineT (k : Nat) (e : LogRecord) : List UInt8 := tail (bodyL k e)
def lineL (k : Nat) (e : LogRecord) : List UInt8 := lineT k e ++ [10]
theorem sumN (l : List UInt8) : 0 ≤ sumL l ∧ sumL l < 1000000 := by
  have := sum_rng l 7 (by omega)
  unfold sumL; omega
theorem tail_len (l : List UInt8) : l.length + 2 ≤ (tail l).length ∧ (tail l).length ≤ l.length + 7 := by
  have h := sumN l
  have := num_len (n := (sumL l).toNat) (by omega)
  unfold tail; simp; omega
theorem seal_ok (l : List UInt8) (hl : l.length ≤ 1000000) : s_l1Seal (str l) = some (str (tail l)) := by
  have h := sumN l
  have := num_len (n := (sumL l).toNat) (by omega)
  unfold s_l1Seal
  rw [chk_of (by rw [str_s, str_s]; simp; omega), Option.bind_some, lsum_ok l hl, Option.bind_some, lnum_ok h.1 (by omega), Option.bind_some, str_app, chk_of (by rw [str_s, str_s]; simp; omega), Option.bind_some, str_app]
  unfold tail; simp
theorem body_len (k : Nat) (e : LogRecord) (hk : k < 1000000) : (cmd e).length + (rep e).length + 3 ≤ (bodyL k e).length ∧ (bodyL k e).length ≤ (cmd e).length + (rep e).length + 8 := by
  have := num_len hk
  unfold bodyL; simp; omega
theorem line_s {k : Int} (e : LogRecord) (h0 : 0 ≤ k) (hk : k < 1000000) (h : RB e) : s_l27Line k e = some (str (lineL k.toNat e)) := by
  have h1 := h.1; have h2 := h.2
  have hn := num_len (n := k.toNat) (by omega)
  have hbl := body_len k.toNat e (by omega)
  have htl := tail_len (bodyL k.toNat e)
  unfold s_l27Line
  rw [lnum_ok h0 hk, Option.bind_some, cmd_str, rep_str]
  simp only [str_app]
  rw [chk_of (by rw [str_s, str_s]; simp; omega), Option.bind_some, chk_of (by rw [str_s, str_s]; simp; omega), Option.bind_some, chk_of (by rw [str_s, str_s]; simp; omega), Option.bind_some, chk_of (by rw [str_s, str_s]; simp; omega), Option.bind_some]
  have e1 : num k.toNat ++ [32] ++ cmd e ++ [64] ++ rep e = bodyL k.toNat e := by unfold bodyL; simp
  rw [e1, seal_ok _ (by omega), Option.bind_some, chk_of (by rw [str_s, str_s]; simp; omega), Option.bind_some, str_app]
  rfl
theorem body_no35 {k : Nat} {e : LogRecord} (h : GoodR e) : 35 ∉ bodyL k e := by
  unfold bodyL
  simp only [List.mem_append, List.mem_cons, not_or]
  exact ⟨num_no (.inl (by decide)) k, by decide, fun hh => (h.2.1 _ hh).2.2 rfl, by decide, fun hh => (h.2.2.2.2.1 _ hh).2.2 rfl⟩
theorem body_no10 {k : Nat} {e : LogRecord} (h : GoodR e) : 10 ∉ bodyL k e := by
  unfold bodyL
  simp only [List.mem_append, List.mem_cons, not_or]
  refine ⟨num_no (.inl (by decide)) k, by decide, fun hh => ?_, by decide, fun hh => ?_⟩
  · have := (h.2.1 _ hh).1; simp at this
  · have := (h.2.2.2.2.1 _ hh).1; simp at this
theorem line_no10 {k : Nat} {e : LogRecord} (h : GoodR e) : 10 ∉ lineT k e := by
  unfold lineT tail
  simp only [List.mem_append, List.mem_cons, not_or]
  exact ⟨body_no10 h, by decide, num_no (.inl (by decide)) _⟩
theorem good_rb {e : LogRecord} (h : GoodR e) : RB e := ⟨by have := h.2.2.1; omega, by have := h.2.2.2.2.2; omega⟩
theorem good_body {k : Nat} {e : LogRecord} (h : GoodR e) (hk : k < 1000000) : (bodyL k e).length ≤ 370 := by
  have := body_len k e hk
  have := h.2.2.1; have := h.2.2.2.2.2; omega
theorem line_len {k : Nat} {e : LogRecord} (h : GoodR e) (hk : k < 1000000) : 6 ≤ (lineL k e).length ∧ (lineL k e).length ≤ 378 := by
  have h1 := good_body h hk
  have h2 := tail_len (bodyL k e)
  have h3 := body_len k e hk
  unfold lineL lineT; simp; omega
theorem iline_ok {k : Int} (e : LogRecord) (h0 : 0 ≤ k) (hk : k < 1000000) (h : GoodR e) : i_encoded k e = some (str (lineL k.toNat e)) := by
  have h1 := (good_rb h).1; have h2 := (good_rb h).2
  have hn := num_len (n := k.toNat) (by omega)
  have hbl := good_body (k := k.toNat) h (by omega)
  have htl := tail_len (bodyL k.toNat e)
  unfold i_encoded
  rw [itoa_num h0 hk, Option.bind_some, cmd_str, rep_str]
  simp only [str_app]
  rw [chk_of (by rw [str_s, str_s]; simp; omega), Option.bind_some, chk_of (by rw [str_s, str_s]; simp; omega), Option.bind_some, chk_of (by rw [str_s, str_s]; simp; omega), Option.bind_some, chk_of (by rw [str_s, str_s]; simp; omega), Option.bind_some]
  have e1 : num k.toNat ++ [32] ++ cmd e ++ [64] ++ rep e = bodyL k.toNat e := by unfold bodyL; simp
  have ac : i_AppendChecksum (str (bodyL k.toNat e)) = some (str (tail (bodyL k.toNat e)), true) := by
    have hs := sumN (bodyL k.toNat e)
    have := num_len (n := (sumL (bodyL k.toNat e)).toNat) (by omega)
    unfold i_AppendChecksum
    rw [str_s, decide_eq_false (by omega : ¬ (4000 : Int) < ((bodyL k.toNat e).length : Int)), contains_ok _ _ (by omega), decide_eq_false (body_no35 h)]
    simp only [Bool.false_eq_true, if_false, Option.bind_some]
    rw [chk_of (by rw [str_s]; simp; omega), Option.bind_some, csum_eq, lsum_ok _ (by omega), Option.bind_some, itoa_num hs.1 hs.2, Option.bind_some, str_app, chk_of (by rw [str_s, str_s]; simp; omega), Option.bind_some, str_app, str_s, decide_eq_false (by simp; omega)]
    simp only [Bool.false_eq_true, if_false]
    unfold tail; simp
  rw [e1, ac, Option.bind_some]
  dsimp only
  rw [chk_of (by rw [str_s, str_s]; simp; omega), Option.bind_some, str_app]
  rfl
/-- The first part. -/
theorem spl1_head (c : UInt8) (l : List UInt8) : ∃ p rest, spl1 c l = p :: rest ∧ c ∉ p ∧ ((l = p ∧ rest = []) ∨ ∃ q, l = p ++ c :: q ∧ rest = spl1 c q) := by
  by_cases h : c ∈ l
  · obtain ⟨p, q, rfl, hp⟩ := List.eq_append_cons_of_mem h
    exact ⟨p, spl1 c q, spl1_app hp q, hp, .inr ⟨q, rfl, rfl⟩⟩
  · exact ⟨l, [], spl1_self h, h, .inl ⟨rfl, rfl⟩⟩
theorem line_pre {k : Nat} {e : LogRecord} {s : List UInt8} : lineL k e <+: s ↔ ∃ r, s = lineT k e ++ 10 :: r := by
  unfold lineL
  constructor
  · rintro ⟨r, rfl⟩; exact ⟨r, by simp⟩
  · rintro ⟨r, rfl⟩; exact ⟨r, by simp⟩
theorem line_inj {k : Nat} {e e' : LogRecord} (h : GoodR e) (h' : GoodR e') (he : lineT k e = lineT k e') : e = e' := by
  unfold lineT tail at he
  have h1 := (sep_inj (body_no35 h) (body_no35 h') he).1
  unfold bodyL at h1
  have h2 := (sep_inj (num_no (.inl (by decide)) k) (num_no (.inl (by decide)) k) h1).2
  obtain ⟨h3, h4⟩ := sep_inj h.2.2.2.1 h'.2.2.2.1 h2
  obtain ⟨a, b⟩ := e
  obtain ⟨a', b'⟩ := e'
  have h5 : a = a' := str_inj.2 h3
  have h6 : b = b' := str_inj.2 h4
  rw [h5, h6]
theorem pre_uniq {k : Nat} {e e' : LogRecord} {s : List UInt8} (h : GoodR e) (h' : GoodR e') (hp : lineL k e <+: s) (hp' : lineL k e' <+: s) : e = e' := by
  obtain ⟨r, hr⟩ := line_pre.1 hp
  obtain ⟨r', hr'⟩ := line_pre.1 hp'
  rw [hr] at hr'
  exact line_inj h h' (sep_inj (line_no10 h) (line_no10 h') hr').1
/-! Reading a log's lines. -/
theorem parts_eq {c : UInt8} {l p : List UInt8} {rest : List (List UInt8)} (h : spl1 c l = p :: rest) : idx ((spl1 c l).map str) 0 = some (str p) := by
  rw [h]; rfl
theorem ext_from (l : List UInt8) (n : Int) : (str l).extract n.toNat (str l).size = str (l.drop n.toNat) := by
  rw [str_ext, str_s, List.take_length]
theorem rec_eq {r e : LogRecord} (h1 : cmd r = cmd e) (h2 : rep r = rep e) : r = e := by
  obtain ⟨a, b⟩ := r
  obtain ⟨a', b'⟩ := e
  have h5 : a = a' := str_inj.2 h1
  have h6 : b = b' := str_inj.2 h2
  rw [h5, h6]
theorem lread_ok (t : List UInt8) (k : Nat) (hk : k < 60) (ht : t.length ≤ 100000) :
    Tot (s_l27Read (str t) (k : Int)) fun r => (r.2 = true → GoodR r.1 ∧ lineT k r.1 = t) ∧ ∀ e, GoodR e → lineT k e = t → r = (e, true) := by
  unfold s_l27Read
  have e35 : mkU8 35 = 35 := rfl
  have e64 : mkU8 64 = 64 := rfl
  have hn := num_len (n := k) (by omega)
  rw [e35, e64, lnum_ok (by omega) (by omega), Option.bind_some, show ((k : Int)).toNat = k by omega, chk_of (by rw [str_s, str_s]; simp; omega), Option.bind_some, lsplit_ok t 35 (by omega), Option.bind_some, str_app]
  obtain ⟨p, rest, hsp, hp35, hcase⟩ := spl1_head 35 t
  have hpl : p.length ≤ t.length := by
    rcases hcase with ⟨rfl, _⟩ | ⟨q, rfl, _⟩
    · omega
    · simp
  have hbody : ∀ e, GoodR e → lineT k e = t → p = bodyL k e := by
    intro e he hl
    unfold lineT tail at hl
    rcases hcase with ⟨rfl, _⟩ | ⟨q, rfl, _⟩
    · exact absurd (by rw [← hl]; simp) hp35
    · exact (sep_inj (body_no35 he) hp35 hl).1.symm
  rw [parts_eq hsp, Option.bind_some]
  obtain ⟨pre, hpre⟩ : ∃ pre, pre = num k ++ [32] := ⟨_, rfl⟩
  rw [← hpre, str_s, str_s]
  have hno : (∀ d, p ≠ pre ++ d) → ∀ e, GoodR e → lineT k e = t → False := by
    intro h e he hl
    have := hbody e he hl
    refine h (cmd e ++ 64 :: rep e) ?_
    rw [this, hpre]; unfold bodyL; simp
  refine .call (P := fun v => v = true ↔ ∀ d, p ≠ pre ++ d) (.iteP (fun hlt => .ok ?_) (fun hge => .chk ⟨by omega, by omega, by omega⟩ (.ok ?_))) fun v hv => ?_
  · simp only [true_iff]
    intro d e
    have := congrArg List.length e
    simp at this; omega
  · have ee : (str p).extract (0 : Int).toNat ((pre.length : Int)).toNat = str (p.take pre.length) := by
      rw [str_ext]; simp
    rw [ee, beq_str]
    simp only [Bool.not_eq_true', decide_eq_false_iff_not]
    constructor
    · intro h d e
      exact h (by rw [e, List.take_left])
    · intro h e
      exact h (p.drop pre.length) (by have h2 := List.take_append_drop pre.length p; rw [e] at h2; exact h2.symm)
  refine .ite (fun h => .ok ⟨fun h => by simp at h, fun e he hl => absurd hl (fun hl => hno (hv.1 h) e he hl)⟩) (fun h => ?_)
  obtain ⟨q, rfl⟩ : ∃ q, p = pre ++ q := Classical.byContradiction fun hn => by
    have := hv.2 (fun d e => hn ⟨d, e⟩)
    rw [h] at this; cases this
  have hlp : (pre ++ q).length = pre.length + q.length := List.length_append
  refine .chk ⟨by omega, by omega⟩ ?_
  have eq0 : (str (pre ++ q)).extract ((pre.length : Int)).toNat (str (pre ++ q)).size = str q := by
    rw [ext_from]; simp
  have eq1 : (str (pre ++ q)).extract ((pre.length : Int)).toNat (pre ++ q).length = str q := eq0
  simp only [eq0, eq1]
  rw [lsplit_ok q 64 (by omega), Option.bind_some]
  obtain ⟨c, rest2, hsp2, hc64, hcase2⟩ := spl1_head 64 q
  rw [parts_eq hsp2, Option.bind_some, str_s, str_s]
  have hce : ∀ e, GoodR e → lineT k e = t → q = cmd e ++ 64 :: rep e := by
    intro e he hl
    have := hbody e he hl
    rw [hpre] at this
    unfold bodyL at this
    have h2 : num k ++ 32 :: q = num k ++ 32 :: (cmd e ++ 64 :: rep e) := by simpa using this
    exact (sep_inj (num_no (.inl (by decide)) k) (num_no (.inl (by decide)) k) h2).2
  refine .ite (fun h => .ok ⟨fun h => by simp at h, fun e he hl => ?_⟩) (fun h => ?_)
  · have h1 := hce e he hl
    have h0 : c.length = q.length := by have := eq_of_beq h; omega
    rcases hcase2 with ⟨rfl, _⟩ | ⟨z, rfl, _⟩
    · exact absurd (by rw [h1]; simp) hc64
    · simp at h0
  obtain ⟨z, rfl⟩ : ∃ z, q = c ++ 64 :: z := by
    rcases hcase2 with ⟨rfl, _⟩ | ⟨z, e, _⟩
    · simp at h
    · exact ⟨z, e⟩
  have hlq : (c ++ 64 :: z).length = c.length + 1 + z.length := by simp; omega
  have ew : w64 ((c.length : Int) + 1) = ((c.length + 1 : Nat) : Int) := w64_succ (by omega)
  rw [ew]
  refine .chk ⟨by omega, by omega⟩ ?_
  have ez : (str (c ++ 64 :: z)).extract (((c.length + 1 : Nat) : Int)).toNat (str (c ++ 64 :: z)).size = str z := by
    rw [ext_from, show (((c.length + 1 : Nat) : Int)).toNat = c.length + 1 by omega]
    congr 1
    rw [← List.drop_drop]; simp
  have ez2 : (str (c ++ 64 :: z)).extract (((c.length + 1 : Nat) : Int)).toNat (c ++ 64 :: z).length = str z := ez
  simp only [ez, ez2]
  obtain ⟨r, hr⟩ : ∃ r : LogRecord, r = ⟨str c, str z⟩ := ⟨_, rfl⟩
  have hrc : cmd r = c := by rw [hr]; rfl
  have hrz : rep r = z := by rw [hr]; rfl
  have hrb : RB r := ⟨by rw [hrc]; omega, by rw [hrz]; omega⟩
  rw [← hr, good_s r hrb, Option.bind_some]
  have huniq : ∀ e, GoodR e → lineT k e = t → r = e := by
    intro e he hl
    have h1 := hce e he hl
    obtain ⟨h3, h4⟩ := sep_inj hc64 he.2.2.2.1 h1
    exact rec_eq (hrc.trans h3) (hrz.trans h4)
  by_cases hg : GoodR r
  · rw [decide_eq_true hg]
    simp only [if_true]
    have hl := line_len (k := k) hg (by omega)
    rw [line_s r (by omega) (by omega) hrb, Option.bind_some, show ((k : Int)).toNat = k by omega, chk_of (by rw [str_s, str_s]; simp; omega), Option.bind_some, Option.bind_some, str_app, beq_str]
    refine .ok ⟨fun h => ⟨hg, ?_⟩, fun e he hl => ?_⟩
    · have h2 : lineL k r = t ++ [10] := by simpa using h
      unfold lineL at h2
      exact List.append_cancel_right h2
    · have := huniq e he hl
      subst this
      have : lineL k r = t ++ [10] := by unfold lineL; rw [hl]
      simp [this]
  · rw [decide_eq_false hg]
    simp only [Bool.false_eq_true, if_false, Option.bind_some]
    refine .ok ⟨fun h => (by cases h), fun e he hl => ?_⟩
    exact absurd (huniq e he hl ▸ he) hg
theorem cut_ok (l : List UInt8) (c : UInt8) (hl : l.length ≤ 1000000) : ∃ p q b, strings_Cut (str l) (str [c]) = some (str p, str q, b) ∧ c ∉ p ∧ ((b = false ∧ p = l ∧ q = []) ∨ (b = true ∧ l = p ++ c :: q)) := by
  unfold strings_Cut cutM
  rw [if_pos (by rw [str_s]; omega), str_l, str_l]
  rcases cut1 c l with ⟨h, e⟩ | ⟨p, q, h, e1, e⟩
  · rw [e]; exact ⟨l, [], false, rfl, h, .inl ⟨rfl, rfl, rfl⟩⟩
  · rw [e]; exact ⟨p, q, true, rfl, h, .inr ⟨rfl, e1⟩⟩
theorem iread_ok (s : List UInt8) (k : Nat) (hk : k ≤ 60) (hs : s.length ≤ 100000) :
    Tot (i_decoded (k : Int) (str s)) fun r => (r.2.2 = true → k < 60 ∧ GoodR r.1 ∧ lineL k r.1 <+: s ∧ r.2.1 = ((lineL k r.1).length : Int)) ∧ ∀ e, k < 60 → GoodR e → lineL k e <+: s → r = (e, ((lineL k e).length : Int), true) := by
  unfold i_decoded
  obtain ⟨t, s', b, h1, h10, hc⟩ := cut_ok s 10 (by omega)
  rw [h1, Option.bind_some]
  dsimp only
  have htl : t.length ≤ s.length := by
    rcases hc with ⟨_, rfl, _⟩ | ⟨_, rfl⟩
    · omega
    · simp
  refine .call (P := fun v => v = true ↔ (b = false ∨ 60 ≤ k)) (.ite (fun h => .ok (by simp_all)) (fun h => .ok (by simp at h; subst h; simp; omega))) fun v hv => ?_
  refine .ite (fun h => .ok ⟨fun h => (by simp at h), fun e hk' he hp => ?_⟩) (fun h => ?_)
  · exfalso
    rcases hv.1 h with hb | hb
    · obtain ⟨r, hr⟩ := line_pre.1 hp
      rcases hc with ⟨_, ht, _⟩ | ⟨hb', _⟩
      · exact h10 (by rw [ht, hr]; simp)
      · rw [hb] at hb'; cases hb'
    · omega
  have hb : b = true ∧ k < 60 := by
    constructor
    · cases b
      · have := hv.2 (.inl rfl); rw [h] at this; cases this
      · rfl
    · apply Classical.byContradiction
      intro hn
      have := hv.2 (.inr (by omega)); rw [h] at this; cases this
  obtain ⟨rfl, hk'⟩ := hb
  obtain ⟨_, hst⟩ : True ∧ s = t ++ 10 :: s' := by
    rcases hc with ⟨hb, _⟩ | ⟨_, h⟩
    · cases hb
    · exact ⟨trivial, h⟩
  have hlt : ∀ e, GoodR e → lineL k e <+: s → lineT k e = t := by
    intro e he hp
    obtain ⟨r, hr⟩ := line_pre.1 hp
    rw [hst] at hr
    exact (sep_inj h10 (line_no10 he) hr).1.symm
  obtain ⟨p, p', b1, h2, h35, hc1⟩ := cut_ok t 35 (by omega)
  have hptl : p.length ≤ t.length := by
    rcases hc1 with ⟨_, h, _⟩ | ⟨_, h⟩
    · rw [h]; omega
    · rw [h]; simp
  obtain ⟨u, u', b2, h3, h32, hc2⟩ := cut_ok p 32 (by omega)
  have hu' : u'.length ≤ 100000 := by
    rcases hc2 with ⟨_, _, h⟩ | ⟨_, h⟩
    · rw [h]; simp
    · have := congrArg List.length h
      simp at this; omega
  obtain ⟨c, z, b3, h4, h64, hc3⟩ := cut_ok u' 64 (by omega)
  rw [h2, Option.bind_some, h3, Option.bind_some, h4, Option.bind_some]
  dsimp only
  obtain ⟨r, hr⟩ : ∃ r : LogRecord, r = ⟨str c, str z⟩ := ⟨_, rfl⟩
  have hrc : cmd r = c := by rw [hr]; rfl
  have hrz : rep r = z := by rw [hr]; rfl
  have hrb : RB r := by
    constructor
    · rw [hrc]; rcases hc3 with ⟨_, rfl, _⟩ | ⟨_, rfl⟩
      · omega
      · simp at hu'; omega
    · rw [hrz]; rcases hc3 with ⟨_, _, rfl⟩ | ⟨_, rfl⟩
      · simp
      · simp at hu'; omega
  have huniq : ∀ e, GoodR e → lineT k e = t → r = e := by
    intro e he hl
    have hp : p = bodyL k e := by
      unfold lineT tail at hl
      rcases hc1 with ⟨_, hpt, _⟩ | ⟨_, ht⟩
      · exact absurd (by rw [hpt, ← hl]; simp) h35
      · rw [ht] at hl; exact (sep_inj (body_no35 he) h35 hl).1.symm
    have hu : u' = cmd e ++ 64 :: rep e := by
      unfold bodyL at hp
      rcases hc2 with ⟨_, hpt, _⟩ | ⟨_, ht⟩
      · exact absurd (by rw [hpt, hp]; simp) h32
      · rw [ht] at hp; exact (sep_inj h32 (num_no (.inl (by decide)) k) hp).2
    rcases hc3 with ⟨_, hpt, _⟩ | ⟨_, ht⟩
    · exact absurd (by rw [hpt, hu]; simp) h64
    · rw [ht] at hu
      obtain ⟨h5, h6⟩ := sep_inj h64 he.2.2.2.1 hu
      exact rec_eq (hrc.trans h5) (hrz.trans h6)
  rw [← hr, valid_i r hrb, Option.bind_some]
  refine .call (P := fun v => v = true ↔ ¬ (GoodR r ∧ lineT k r = t)) ?_ fun v hv => .ite (fun h => .ok ⟨fun h => (by simp at h), fun e _ he hp => ?_⟩) (fun h => .ok ⟨fun _ => ?_, fun e _ he hp => ?_⟩)
  · by_cases hg : GoodR r
    · rw [decide_eq_true hg]
      simp only [Bool.not_true, Bool.false_eq_true, if_false]
      rw [iline_ok r (by omega) (by omega) hg, Option.bind_some, show ((k : Int)).toNat = k by omega, chk_of (by rw [str_s, str_s]; simp; omega), Option.bind_some, str_app, beq_str]
      refine .ok ?_
      have : lineL k r = t ++ [10] ↔ lineT k r = t := ⟨fun h => by unfold lineL at h; exact List.append_cancel_right h, fun h => by unfold lineL; rw [h]⟩
      simp [hg, this]
    · rw [decide_eq_false hg]
      simp only [Bool.not_false, if_true]
      exact .ok (by simp [hg])
  · have := huniq e he (hlt e he hp)
    subst this
    exact absurd ⟨he, hlt r he hp⟩ (hv.1 h)
  · have hgl : GoodR r ∧ lineT k r = t := Classical.byContradiction fun hn => by
      have := hv.2 hn; rw [h] at this; cases this
    refine ⟨hk', hgl.1, line_pre.2 ⟨s', by rw [hgl.2]; exact hst⟩, ?_⟩
    rw [str_s, w64_succ (by omega)]
    unfold lineL; rw [hgl.2]; simp
  · have := huniq e he (hlt e he hp)
    subst this
    have hl2 := hlt r he hp
    rw [str_s, w64_succ (by omega)]
    unfold lineL; rw [hl2]; simp
/-- Lines one after another. -/
def LL : Nat → List LogRecord → List UInt8
  | _, [] => []
  | k, e :: r => lineL k e ++ LL (k + 1) r
theorem LL_app : ∀ (k : Nat) (a b : List LogRecord), LL k (a ++ b) = LL k a ++ LL (k + a.length) b
  | k, [], b => by simp [LL]
  | k, e :: a, b => by
    rw [List.cons_append, LL, LL, LL_app (k + 1) a b, List.append_assoc, List.length_cons, show k + 1 + a.length = k + (a.length + 1) by omega]
theorem LL_snoc (k : Nat) (a : List LogRecord) (e : LogRecord) : LL k (a ++ [e]) = LL k a ++ lineL (k + a.length) e := by
  rw [LL_app]; simp [LL]
theorem LL_len : ∀ (k : Nat) (a : List LogRecord), (∀ e ∈ a, GoodR e) → k + a.length ≤ 100 → (LL k a).length ≤ 378 * a.length
  | _, [], _, _ => by simp [LL]
  | k, e :: a, h, hk => by
    have := LL_len (k + 1) a (fun x hx => h x (List.mem_cons_of_mem _ hx)) (by simp at hk; omega)
    have := line_len (k := k) (h e (List.mem_cons_self ..)) (by simp at hk; omega)
    simp [LL]; omega
theorem LL_comp : ∀ (a b : List LogRecord) (k : Nat) (s : List UInt8), (∀ e ∈ a, GoodR e) → (∀ e ∈ b, GoodR e) → LL k a <+: s → LL k b <+: s → a <+: b ∨ b <+: a
  | [], b, _, _, _, _, _, _ => .inl (List.nil_prefix)
  | _ :: _, [], _, _, _, _, _, _ => .inr (List.nil_prefix)
  | e :: a, f :: b, k, s, ha, hb, h1, h2 => by
    simp only [LL] at h1 h2
    have p1 : lineL k e <+: s := (List.prefix_append _ _).trans h1
    have p2 : lineL k f <+: s := (List.prefix_append _ _).trans h2
    have := pre_uniq (ha e (List.mem_cons_self ..)) (hb f (List.mem_cons_self ..)) p1 p2
    subst this
    obtain ⟨s', rfl⟩ := p1
    have q1 := (List.prefix_append_right_inj _).1 h1
    have q2 := (List.prefix_append_right_inj _).1 h2
    rcases LL_comp a b (k + 1) s' (fun x hx => ha x (List.mem_cons_of_mem _ hx)) (fun x hx => hb x (List.mem_cons_of_mem _ hx)) q1 q2 with h | h
    · exact .inl (List.prefix_cons_inj _ |>.2 h)
    · exact .inr (List.prefix_cons_inj _ |>.2 h)
def Chain (s : List UInt8) (es : List LogRecord) : Prop := (∀ e ∈ es, GoodR e) ∧ LL 0 es <+: s ∧ es.length ≤ 60
def Full (s : List UInt8) (es : List LogRecord) : Prop := Chain s es ∧ (es.length = 60 ∨ ∀ e, GoodR e → ¬ lineL es.length e <+: s.drop (LL 0 es).length)
theorem chain_len {s : List UInt8} {es : List LogRecord} (h : Chain s es) : (LL 0 es).length ≤ 22680 := by
  have := LL_len 0 es h.1 (by have := h.2.2; omega)
  have := h.2.2
  omega
theorem full_max {s : List UInt8} {es fs : List LogRecord} (h : Full s es) (hf : Chain s fs) : fs <+: es := by
  rcases LL_comp es fs 0 s h.1.1 hf.1 h.1.2.1 hf.2.1 with hc | hc
  · obtain ⟨d, rfl⟩ := hc
    cases d with
    | nil => simp
    | cons e d =>
      exfalso
      have hl := hf.2.2
      simp at hl
      rcases h.2 with h60 | hno
      · omega
      · refine hno e (hf.1 e (by simp)) ?_
        have hp := hf.2.1
        rw [show es ++ e :: d = (es ++ [e]) ++ d by simp, LL_app, LL_snoc, Nat.zero_add] at hp
        obtain ⟨r, hr⟩ := hp
        refine ⟨LL (0 + (es ++ [e]).length) d ++ r, ?_⟩
        rw [← hr]
        simp [List.append_assoc]
  · exact hc
theorem full_uniq {s : List UInt8} {es fs : List LogRecord} (h : Full s es) (hf : Full s fs) : es = fs := by
  have h1 := full_max h hf.1
  have h2 := full_max hf h.1
  exact List.IsPrefix.eq_of_length_le h2 h1.length_le
theorem chain_snoc {s : List UInt8} {es : List LogRecord} {e : LogRecord} (h : Chain s es) (hl : es.length < 60) (he : GoodR e) (hp : lineL es.length e <+: s.drop (LL 0 es).length) : Chain s (es ++ [e]) := by
  refine ⟨fun x hx => ?_, ?_, by simp; omega⟩
  · rcases List.mem_append.1 hx with hx | hx
    · exact h.1 x hx
    · simp at hx; subst hx; exact he
  · rw [LL_snoc, Nat.zero_add]
    obtain ⟨r, rfl⟩ := h.2.1
    simp only [List.drop_left] at hp
    exact (List.prefix_append_right_inj _).2 hp
theorem chain_nil (s : List UInt8) : Chain s [] := ⟨by simp, by simp [LL], by simp⟩
/-- The specification's reader. -/
theorem lopen_ok (s : List UInt8) (hs : s.length ≤ 100000) : Tot (s_l27Open (str s)) fun r => Full s r.1 ∧ r.2 = ((LL 0 r.1).length : Int) := by
  unfold s_l27Open
  refine .call (P := fun r => Full s r.2 ∧ r.1 = ((LL 0 r.2).length : Int)) (Tot.iter (fun k a => k + a.2.length = 60 ∧ Chain s a.2 ∧ a.1 = ((LL 0 a.2).length : Int)) (n := 60) ⟨rfl, chain_nil s, rfl⟩ ?_) fun ⟨a, b⟩ h => .ok h
  rintro k ⟨v, es⟩ ⟨hk, hc, hv⟩
  dsimp only at hk hc hv
  subst hv
  have hcl := chain_len hc
  unfold s_l27Open_L1
  dsimp only
  rw [str_s]
  have hle : (LL 0 es).length ≤ s.length := hc.2.1.length_le
  refine .call (P := fun b => b = true ↔ (LL 0 es).length < s.length ∧ es.length < 60) (.iteP (fun h => .ok ?_) (fun h => .ok ?_)) fun b hb => .ite (fun h => ?_) (fun h => ?_)
  · rw [decide_eq_true_eq]
    constructor
    · intro h'; exact ⟨by omega, by omega⟩
    · intro h'; omega
  · constructor
    · intro h; cases h
    · intro h'; omega
  · obtain ⟨h1, h2⟩ := hb.1 h
    refine .chk ⟨by omega, by omega⟩ ?_
    have e10 : mkU8 10 = 10 := rfl
    obtain ⟨d, hd⟩ : ∃ d, d = s.drop (LL 0 es).length := ⟨_, rfl⟩
    have ee : (str s).extract (((LL 0 es).length : Int)).toNat s.length = str d := by
      have := ext_from s ((LL 0 es).length : Int)
      rw [str_s] at this
      rw [this, hd]; simp
    have hdl : d.length ≤ s.length := by rw [hd]; simp
    rw [ee, e10, lsplit_ok d 10 (by omega), Option.bind_some]
    obtain ⟨t, rest, hsp, ht10, hcase⟩ := spl1_head 10 d
    have htd : t.length ≤ d.length := by
      rcases hcase with ⟨rfl, _⟩ | ⟨q, rfl, _⟩
      · omega
      · simp
    rw [parts_eq hsp, Option.bind_some]
    refine .call (lread_ok t es.length h2 (by omega)) fun ⟨r, b⟩ ⟨r1, r2⟩ => ?_
    dsimp only at r1 r2 ⊢
    rw [hsp]
    have hlen : ((((t :: rest).map str).length : Int)) = (rest.length : Int) + 1 := by simp
    rw [hlen]
    refine .call (P := fun v => v = true ↔ (rest = [] ∨ b = false)) (.iteP (fun h => .ok ?_) (fun h => .ok ?_)) fun v hv => .ite (fun h => .dn ⟨⟨hc, .inr fun e he hp => ?_⟩, rfl⟩) (fun h => ?_)
    · have : rest = [] := List.length_eq_zero_iff.1 (by omega)
      simp [this]
    · have : rest ≠ [] := fun e => h (by rw [e]; simp)
      simp [this]
    · rw [← hd] at hp
      obtain ⟨w, hw⟩ := line_pre.1 hp
      have hin : (10 : UInt8) ∈ d := by rw [hw]; simp
      rcases hcase with ⟨rfl, _⟩ | ⟨q, hq, hrest⟩
      · exact ht10 hin
      · have ht : lineT es.length e = t := by
          rw [hq] at hw
          exact ((sep_inj ht10 (line_no10 he) hw).1).symm
        have := r2 e he ht
        rcases hv.1 h with h3 | h3
        · rw [hrest] at h3; exact spl1_ne _ _ h3
        · rw [h3] at this; cases this
    · have hb2 : rest ≠ [] ∧ b = true := by
        constructor
        · intro e; have := hv.2 (.inl e); rw [h] at this; cases this
        · cases b
          · have := hv.2 (.inr rfl); rw [h] at this; cases this
          · rfl
      obtain ⟨hne, rfl⟩ := hb2
      obtain ⟨g1, g2⟩ := r1 rfl
      obtain ⟨q, hq⟩ : ∃ q, d = t ++ 10 :: q := by
        rcases hcase with ⟨_, e⟩ | ⟨q, hq, _⟩
        · exact absurd e hne
        · exact ⟨q, hq⟩
      have hp : lineL es.length r <+: s.drop (LL 0 es).length := by
        rw [← hd]; exact line_pre.2 ⟨q, by rw [g2]; exact hq⟩
      have ei : idx ((t :: rest).map str) 0 = some (str t) := rfl
      refine .chk (by simp; omega) (.eq ei (.nx ⟨k - 1, by omega, by simp; omega, chain_snoc hc h2 g1 hp, ?_⟩))
      show w64 (w64 (((LL 0 es).length : Int) + ((str t).size : Int)) + 1) = _
      rw [str_s, w64_id (x := ((LL 0 es).length : Int) + (t.length : Int)) (by omega), w64_id (by omega), LL_snoc, Nat.zero_add]
      unfold lineL
      rw [g2]; simp; omega
  · refine .dn ⟨⟨hc, ?_⟩, rfl⟩
    by_cases h6 : es.length < 60
    · right
      intro e he hp
      have h0 : ¬ (LL 0 es).length < s.length := fun hh => by
        have := hb.2 ⟨hh, h6⟩; rw [h] at this; cases this
      have hl := hp.length_le
      have := line_len (k := es.length) he (by omega)
      simp at hl; omega
    · left
      have := hc.2.2
      show es.length = 60
      omega
/-- The implementation's reader. -/
def EndsOf (es : List LogRecord) (ends : List Int) : Prop := ends.length = es.length + 1 ∧ ∀ j, j ≤ es.length → ends[j]? = some ((LL 0 (es.take j)).length : Int)
theorem iall_ok (s : List UInt8) (hs : s.length ≤ 100000) : Tot (i_readLog (str s)) fun r => Full s r.1 ∧ EndsOf r.1 r.2 := by
  unfold i_readLog
  refine Tot.iter (fun k a => k + a.1.length = 60 ∧ Chain s a.1 ∧ EndsOf a.1 a.2) (n := 60) ⟨rfl, chain_nil s, rfl, fun j hj => ?_⟩ ?_
  · have : j = 0 := by simpa using hj
    subst this; rfl
  rintro k ⟨es, ends⟩ ⟨hk, hc, he1, he2⟩
  dsimp only at hk hc he1 he2
  have hcl := chain_len hc
  have hle : (LL 0 es).length ≤ s.length := hc.2.1.length_le
  unfold i_readLog_L1
  dsimp only
  have hend := he2 es.length (Nat.le_refl _)
  rw [List.take_length] at hend
  rw [ixs hend, Option.bind_some, str_s, chk_of ⟨by omega, by omega⟩, Option.bind_some]
  have ee : (str s).extract (((LL 0 es).length : Int)).toNat s.length = str (s.drop (LL 0 es).length) := by
    have := ext_from s ((LL 0 es).length : Int)
    rw [str_s] at this
    rw [this]; simp
  rw [ee]
  refine .call (iread_ok (s.drop (LL 0 es).length) es.length (by omega) (by simp; omega)) fun ⟨r, n, b⟩ ⟨r1, r2⟩ => ?_
  dsimp only at r1 r2 ⊢
  refine .ite (fun h => .dn ⟨⟨hc, ?_⟩, he1, he2⟩) (fun h => ?_)
  · by_cases h6 : es.length < 60
    · right
      intro e he hp
      have := r2 e h6 he hp
      simp only [Prod.mk.injEq] at this
      rw [this.2.2] at h
      simp at h
    · left; have := hc.2.2; show es.length = 60; omega
  · have hb : b = true := by cases b <;> simp_all
    subst hb
    obtain ⟨h6, g1, g2, g3⟩ := r1 rfl
    have hl := line_len (k := es.length) g1 (by omega)
    refine .chk (by simp; omega) (.chk (by simp; omega) (.nx ⟨k - 1, by omega, by simp; omega, chain_snoc hc h6 g1 g2, by simp; omega, fun j hj => ?_⟩))
    show (ends ++ [w64 (((LL 0 es).length : Int) + n)])[j]? = some (((LL 0 ((es ++ [r]).take j)).length : Nat) : Int)
    rw [g3, w64_id (by omega)]
    by_cases hj2 : j ≤ es.length
    · rw [List.getElem?_append_left (by omega), he2 j hj2, List.take_append_of_le_length hj2]
    · have : j = es.length + 1 := by simp at hj; omega
      subst this
      rw [List.getElem?_append_right (by omega), he1, Nat.sub_self]
      rw [List.take_of_length_le (by simp), LL_snoc, Nat.zero_add]
      simp
/-! Logs: what is valid; append, recover, sync; the draws. -/
def durL (l : Log) : List UInt8 := l.Durable.data.toList
def penL (l : Log) : List UInt8 := l.Pending.data.toList
theorem dur_str (l : Log) : l.Durable = str (durL l) := rfl
theorem pen_str (l : Log) : l.Pending = str (penL l) := rfl
def allL (l : Log) : List UInt8 := durL l ++ penL l
def LogB (l : Log) (n : Nat) : Prop := (durL l).length + (penL l).length ≤ n
def ValidL (l : Log) : Prop := ∃ es, Full (allL l) es ∧ (LL 0 es).length = (allL l).length ∧ l.Count = (es.length : Int) ∧ ∃ j, j ≤ es.length ∧ (LL 0 (es.take j)).length = (durL l).length
noncomputable instance (l : Log) : Decidable (ValidL l) := Classical.propDecidable _
theorem all_len (l : Log) : (allL l).length = (durL l).length + (penL l).length := by unfold allL; simp
theorem pre_len {a b : List UInt8} (h : a <+: b) (hl : a.length = b.length) : a = b := List.IsPrefix.eq_of_length h hl
theorem LL_pre {a b : List LogRecord} (h : a <+: b) : LL 0 a <+: LL 0 b := by
  obtain ⟨d, rfl⟩ := h
  rw [LL_app]
  exact List.prefix_append _ _
theorem valid_iff {l : Log} {es : List LogRecord} (h : Full (allL l) es) : ValidL l ↔ (LL 0 es).length = (allL l).length ∧ l.Count = (es.length : Int) ∧ ∃ j, j ≤ es.length ∧ (LL 0 (es.take j)).length = (durL l).length := by
  constructor
  · rintro ⟨fs, hf, h1, h2, h3⟩
    have := full_uniq h hf
    subst this
    exact ⟨h1, h2, h3⟩
  · intro ⟨h1, h2, h3⟩
    exact ⟨es, h, h1, h2, h3⟩
theorem ivalid_ok (l : Log) (hb : LogB l 90000) : i_IsValidLog l = some (decide (ValidL l)) := by
  have hal := all_len l
  unfold LogB at hb
  unfold i_IsValidLog
  rw [dur_str, pen_str, str_s, str_s, chk_of (by omega), Option.bind_some, str_app]
  obtain ⟨⟨es, ends⟩, hr, hf, he1, he2⟩ := iall_ok (allL l) (by omega)
  have hr' : i_readLog (str (durL l ++ penL l)) = some (es, ends) := hr
  dsimp only at hf he1 he2
  have hend := he2 es.length (Nat.le_refl _)
  rw [List.take_length] at hend
  have hlc := chain_len hf.1
  have hll := hf.1.2.2
  rw [hr', Option.bind_some]
  dsimp only
  rw [ixs hend, Option.bind_some, w64_id (x := ((durL l).length : Int) + ((penL l).length : Int)) (by omega)]
  have hv := valid_iff hf
  by_cases c1 : (LL 0 es).length = (allL l).length
  · have d1 : ((((LL 0 es).length : Int)) != ((durL l).length : Int) + ((penL l).length : Int)) = false := by
      simp; omega
    rw [d1]
    simp only [Bool.false_eq_true, if_false, Option.bind_some]
    by_cases c2 : l.Count = (es.length : Int)
    · have d2 : (l.Count != (es.length : Int)) = false := by simp [c2]
      rw [d2]
      simp only [Bool.false_eq_true, if_false]
      have hlp : Tot (iter (i_IsValidLog_L1 l (es, ends)) (0 : Int)) fun r => (r = .go () ∧ ¬ ∃ j, j ≤ es.length ∧ (LL 0 (es.take j)).length = (durL l).length) ∨ (r = .ret true ∧ ∃ j, j ≤ es.length ∧ (LL 0 (es.take j)).length = (durL l).length) := by
        refine Tot.iter (fun k a => ∃ i : Nat, k + i = es.length + 1 ∧ a = (i : Int) ∧ ∀ j, j < i → ¬ (LL 0 (es.take j)).length = (durL l).length) (n := es.length + 1) ⟨0, rfl, rfl, fun j hj => by omega⟩ ?_
        rintro k _ ⟨i, hk, rfl, hno⟩
        unfold i_IsValidLog_L1
        dsimp only
        refine .iteP (fun h => ?_) (fun h => .dn (.inl ⟨rfl, fun ⟨j, hj, e⟩ => hno j (by omega) e⟩))
        refine .eq (ixs (he2 i (by omega))) ?_
        rw [dur_str, str_s]
        refine .ite (fun h => .dn (.inr ⟨rfl, i, by omega, by have := eq_of_beq h; omega⟩)) (fun h => .nx ⟨k - 1, by omega, i + 1, by omega, w64_succ (by omega), fun j hj e => ?_⟩)
        by_cases hji : j < i
        · exact hno j hji e
        · have : j = i := by omega
          subst this
          rw [e] at h
          simp at h
      obtain ⟨r, hr2, ⟨rfl, hx⟩ | ⟨rfl, hx⟩⟩ := hlp
      · rw [hr2, decide_eq_false (fun hh => hx (hv.1 hh).2.2)]; rfl
      · rw [hr2, decide_eq_true (hv.2 ⟨c1, c2, hx⟩)]; rfl
    · have d2 : (l.Count != (es.length : Int)) = true := by simp [c2]
      rw [d2]
      simp only [if_true]
      rw [decide_eq_false (fun hh => c2 (hv.1 hh).2.1)]
  · have d1 : ((((LL 0 es).length : Int)) != ((durL l).length : Int) + ((penL l).length : Int)) = true := by
      simp; omega
    rw [d1]
    simp only [if_true, Option.bind_some]
    rw [decide_eq_false (fun hh => c1 (hv.1 hh).1)]
theorem dur_iff {l : Log} {es fs : List LogRecord} (h : Full (allL l) es) (hf : Full (durL l) fs) : (LL 0 fs).length = (durL l).length ↔ ∃ j, j ≤ es.length ∧ (LL 0 (es.take j)).length = (durL l).length := by
  have hda : durL l <+: allL l := List.prefix_append _ _
  constructor
  · intro e
    have e1 := pre_len hf.1.2.1 e
    have hc : Chain (allL l) fs := ⟨hf.1.1, by rw [e1]; exact hda, hf.1.2.2⟩
    have := full_max h hc
    refine ⟨fs.length, this.length_le, ?_⟩
    rw [← List.prefix_iff_eq_take.1 this]; exact e
  · rintro ⟨j, hj, e⟩
    have h1 : LL 0 (es.take j) <+: allL l := (LL_pre (List.take_prefix j es)).trans h.1.2.1
    have h2 : LL 0 (es.take j) <+: durL l := List.prefix_of_prefix_length_le h1 hda (by omega)
    have hc : Chain (durL l) (es.take j) := ⟨fun x hx => h.1.1 x (List.mem_of_mem_take hx), h2, by have := h.1.2.2; simp; omega⟩
    have h3 := (LL_pre (full_max hf hc)).length_le
    have h4 := hf.1.2.1.length_le
    omega
theorem lvalid_ok (l : Log) (hb : LogB l 90000) : s_l27Log l = some (decide (ValidL l)) := by
  have hal := all_len l
  unfold LogB at hb
  unfold s_l27Log
  rw [dur_str, pen_str, str_s, str_s, w64_id (x := ((durL l).length : Int) + ((penL l).length : Int)) (by omega)]
  obtain ⟨⟨es, n⟩, hr, hf, hn⟩ := lopen_ok (allL l) (by omega)
  obtain ⟨⟨fs, m⟩, hr2, hf2, hm⟩ := lopen_ok (durL l) (by omega)
  have hr' : s_l27Open (str (durL l ++ penL l)) = some (es, n) := hr
  dsimp only at hf hn hf2 hm
  have hlc := chain_len hf.1
  have hv := valid_iff hf
  by_cases c0 : (30000 : Int) < ((durL l).length : Int) + ((penL l).length : Int)
  · rw [decide_eq_true c0]
    simp only [if_true]
    rw [decide_eq_false (fun hh => by have := (hv.1 hh).1; omega)]
  · rw [decide_eq_false c0]
    simp only [Bool.false_eq_true, if_false]
    rw [chk_of (by omega), Option.bind_some, str_app, hr', Option.bind_some, hr2, Option.bind_some]
    dsimp only
    subst hn; subst hm
    have hd := dur_iff hf hf2
    by_cases c1 : (LL 0 es).length = (allL l).length
    · have d1 : ((((LL 0 es).length : Int)) == ((durL l).length : Int) + ((penL l).length : Int)) = true := by
        simp; omega
      rw [d1]
      simp only [if_true]
      by_cases c3 : (LL 0 fs).length = (durL l).length
      · have d3 : (((LL 0 fs).length : Int) == ((durL l).length : Int)) = true := by simp [c3]
        rw [d3]
        simp only [if_true, Option.bind_some]
        by_cases c2 : l.Count = (es.length : Int)
        · rw [decide_eq_true (hv.2 ⟨c1, c2, hd.1 c3⟩)]; simp [c2]
        · rw [decide_eq_false (fun hh => c2 (hv.1 hh).2.1)]; simp; exact fun e => c2 e.symm
      · have d3 : (((LL 0 fs).length : Int) == ((durL l).length : Int)) = false := by simp; omega
        rw [d3]
        simp only [Bool.false_eq_true, if_false, Option.bind_some]
        rw [decide_eq_false (fun hh => c3 (hd.2 (hv.1 hh).2.2))]
    · have d1 : ((((LL 0 es).length : Int)) == ((durL l).length : Int) + ((penL l).length : Int)) = false := by
        simp; omega
      rw [d1]
      simp only [Bool.false_eq_true, if_false, Option.bind_some]
      rw [decide_eq_false (fun hh => c1 (hv.1 hh).1)]
theorem lapp_ok (l : Log) (e : LogRecord) (hb : LogB l 90000) (hr : RB e) : ∃ r, s_AppendRecord l e = some r ∧
    ((r.2 = 0 ∧ ValidL l ∧ GoodR e ∧ 0 ≤ l.Count ∧ l.Count < 60 ∧ r.1 = ⟨l.Durable, str (penL l ++ lineL l.Count.toNat e), l.Count + 1⟩) ∨ (r.2 ≠ 0 ∧ r.1 = l)) := by
  unfold s_AppendRecord
  rw [lvalid_ok l hb, Option.bind_some]
  by_cases hv : ValidL l
  · rw [decide_eq_true hv]
    simp only [Bool.not_true, Bool.false_eq_true, if_false]
    rw [good_s e hr]
    by_cases hg : GoodR e
    · rw [decide_eq_true hg]
      simp only [Option.bind_some, Bool.not_true, Bool.false_eq_true, if_false]
      obtain ⟨es, hf, h1, h2, _⟩ := hv
      have h60 := hf.1.2.2
      by_cases hc : l.Count = 60
      · have d : (l.Count == 60) = true := by simp [hc]
        rw [d]
        exact ⟨_, rfl, .inr ⟨by simp, rfl⟩⟩
      · have d : (l.Count == 60) = false := by simp [hc]
        rw [d]
        simp only [Bool.false_eq_true, if_false]
        have hl := line_len (k := l.Count.toNat) hg (by omega)
        unfold LogB at hb
        rw [line_s e (by omega) (by omega) hr, Option.bind_some, pen_str, chk_of (by rw [str_s, str_s]; omega), Option.bind_some, str_app, w64_id (by omega)]
        exact ⟨_, rfl, .inl ⟨rfl, ⟨es, hf, h1, h2, by assumption⟩, hg, by omega, by omega, rfl⟩⟩
    · rw [decide_eq_false hg]
      exact ⟨_, rfl, .inr ⟨by simp, rfl⟩⟩
  · rw [decide_eq_false hv]
    exact ⟨_, rfl, .inr ⟨by simp, rfl⟩⟩
theorem log_rec_ok {k : Nat} {c : l1Cur} (h : Cur k c) (hk : k ≤ 1000000) : Tot (s_l1Cur_logRecord c) fun r => Cur (k + 10) r.2 ∧ (cmd r.1).length ≤ 100 ∧ (rep r.1).length ≤ 100 := by
  have e1 : ∀ {l : List ByteArray}, (l.all fun x => decide (x.size ≤ 100)) = true → ∀ x ∈ l, x.data.toList.length ≤ 100 := fun h x hx => of_decide_eq_true (List.all_eq_true.1 h x hx)
  unfold s_l1Cur_logRecord
  refine .call (of_ok _ (by simp) h (by omega)) fun r ⟨h1, m1⟩ => .call (of_ok _ (by simp) h1 (by omega)) fun r1 ⟨h2, m2⟩ => ?_
  have b1 := e1 (by rfl) _ m1
  have b2 := e1 (by rfl) _ m2
  refine .call (P := fun o => Cur (k + 10) ⟨o.1, o.2.1, ⟨o.2.2.1⟩⟩ ∧ o.2.2.2.1.data.toList.length ≤ 100 ∧ o.2.2.2.2.data.toList.length ≤ 100) (.call (pick_ok 24 h2 (by omega)) fun r2 ⟨h3, _, _⟩ => .ite (fun _ => .chk (by decide) (.call (of_ok _ (by simp) h3 (by omega)) fun r3 ⟨h4, m4⟩ => .ok ⟨h4.mono (by omega), e1 (by rfl) _ m4, b2⟩)) (fun _ => .ite (fun _ => .call (of_ok _ (by simp) h3 (by omega)) fun r4 ⟨h4, m4⟩ => .ok ⟨h4.mono (by omega), b1, e1 (by rfl) _ m4⟩) (fun _ => .ok ⟨h3.mono (by omega), b1, b2⟩))) fun ⟨v, v1, v2, v3, v4⟩ ⟨h5, h6, h7⟩ => .ok ⟨h5, h6, h7⟩
theorem sync_tot (l : Log) (n : Nat) (hb : LogB l n) (hn : n ≤ 90000) : Tot (s_SyncLog l) fun r => LogB r.1 n := by
  unfold s_SyncLog
  rw [lvalid_ok l (by unfold LogB at hb ⊢; omega), Option.bind_some]
  unfold LogB at hb
  refine .ite (fun _ => .ok ?_) (fun _ => ?_)
  · unfold LogB durL penL; simp
  · rw [dur_str, pen_str]
    refine .chk (by rw [str_s, str_s]; omega) (.ok ?_)
    rw [str_app]
    unfold LogB
    show (durL l ++ penL l).length + 0 ≤ n
    simp; omega
theorem app_tot (l : Log) (e : LogRecord) (n : Nat) (hb : LogB l n) (hn : n ≤ 80000) (hr : RB e) : Tot (s_AppendRecord l e) fun r => LogB r.1 (n + 378) := by
  obtain ⟨r, h, h2⟩ := lapp_ok l e (by unfold LogB at hb ⊢; omega) hr
  refine ⟨r, h, ?_⟩
  unfold LogB at hb ⊢
  rcases h2 with ⟨_, _, hg, c0, c1, e1⟩ | ⟨_, e1⟩
  · rw [e1]
    have := line_len (k := l.Count.toNat) hg (by omega)
    show (durL l).length + (penL l ++ lineL l.Count.toNat e).length ≤ _
    simp; omega
  · rw [e1]; omega
theorem log_ok {k : Nat} {c : l1Cur} (h : Cur k c) (hk : k ≤ 1000) : Tot (s_l1Cur_log c) fun r => Cur 10000 r.2 ∧ LogB r.1 3780 := by
  unfold s_l1Cur_log
  refine .call (pick_ok 7 h (by omega)) fun r ⟨h1, a0, a1⟩ => ?_
  refine .call (P := fun o => Cur 10000 ⟨o.1, o.2.1, ⟨o.2.2.1⟩⟩ ∧ LogB ⟨o.2.2.2.1, o.2.2.2.2.1, o.2.2.2.2.2⟩ 3780) (Tot.iter (fun m a => a.1 = (m : Int) ∧ m ≤ 6 ∧ Cur (k + 2 + 20 * (6 - m)) ⟨a.2.1, a.2.2.1, ⟨a.2.2.2.1⟩⟩ ∧ LogB ⟨a.2.2.2.2.1, a.2.2.2.2.2.1, a.2.2.2.2.2.2⟩ (378 * (6 - m))) (n := r.1.toNat) ⟨by show r.1 = _; omega, by omega, h1.mono (by omega), by unfold LogB durL penL; simp⟩ ?_) fun ⟨v13, v14, v15, v16, v17, v18⟩ hq => .ok hq
  rintro m ⟨v, v1, v2, v3, v4, v5, v6⟩ ⟨hv, hm, hc, hl⟩
  dsimp only at hv hc hl
  subst hv
  unfold s_l1Cur_log_L1
  dsimp only
  refine .iteP (fun hlt => ?_) (fun hge => .dn ⟨hc.mono (by omega), by unfold LogB at hl ⊢; dsimp only at hl ⊢; omega⟩)
  refine .call (P := fun o => Cur (k + 2 + 20 * (6 - m) + 20) ⟨o.1, o.2.1, ⟨o.2.2.1⟩⟩ ∧ LogB ⟨o.2.2.2.1, o.2.2.2.2.1, o.2.2.2.2.2⟩ (378 * (6 - m) + 378)) (.call (log_rec_ok hc (by omega)) fun r3 ⟨h3, b3, b4⟩ => .call (app_tot _ r3.1 _ hl (by omega) ⟨by omega, by omega⟩) fun r4 h4 => .call (one_ok 4 h3 (by omega)) fun r5 h5 => .ite (fun _ => .call (sync_tot _ _ h4 (by omega)) fun r6 h6 => .ok ⟨h5.mono (by omega), h6⟩) (fun _ => .ok ⟨h5.mono (by omega), h4⟩)) fun ⟨v7, v8, v9, v10, v11, v12⟩ ⟨q1, q2⟩ => ?_
  dsimp only at q1 q2 ⊢
  refine .nx ⟨m - 1, by omega, by show w64 ((m : Int) - 1) = _; rw [w64_id (by omega)]; omega, by omega, q1.mono (by omega), ?_⟩
  unfold LogB at q2 ⊢
  dsimp only at q2 ⊢
  omega
theorem spoilt_ok {k : Nat} {c : l1Cur} (h : Cur k c) (hk : k ≤ 1000000) (t : List UInt8) (ht : t.length ≤ 100000) : Tot (s_l1Cur_spoilt c (str t) (str [35, 64, 10, 48, 49])) fun r => Cur (k + 6) r.2 ∧ r.1.data.toList.length ≤ t.length + 1 := by
  unfold s_l1Cur_spoilt
  rw [beq_str]
  refine .iteP (fun e => ?_) (fun e => ?_)
  · refine .chk (by rw [str_s]; decide) (.ok ⟨h.mono (by omega), ?_⟩)
    rw [str_ext]
    show ((List.take 1 [35, 64, 10, 48, 49]).drop 0).length ≤ _
    simp
  · have hpos : 0 < t.length := List.length_pos_iff.2 e
    rw [str_s]
    refine .call (pick_ok _ h (by omega)) fun r ⟨h1, a0, a1⟩ => .call (pick_ok _ h1 (by omega)) fun r1 ⟨h2, b0, b1⟩ => ?_
    have hw : (str [35, 64, 10, 48, 49]).size = 5 := rfl
    rw [hw] at b1
    rw [hw]
    have hw5 : 1 ≤ ((List.take 5 ([35, 64, 10, 48, 49] : List UInt8)).drop r1.1.toNat).length := by
      rw [List.length_drop, List.length_take]
      show 1 ≤ min 5 5 - r1.1.toNat
      omega
    obtain ⟨w, hwl, hwe⟩ : ∃ w : List UInt8, 1 ≤ w.length ∧ (str [35, 64, 10, 48, 49]).extract r1.1.toNat 5 = str w := ⟨_, hw5, str_ext _ _ _⟩
    rw [hwe]
    have hx : (str w).extract (0 : Int).toNat (1 : Int).toNat = str (w.take 1) := by rw [str_ext]; simp
    have hx1 : (w.take 1).length ≤ 1 := by simp; omega
    have l0 : (str t).extract (0 : Int).toNat r.1.toNat = str (t.take r.1.toNat) := by rw [str_ext]; simp
    have l1 : ∀ n : Int, (str t).extract n.toNat t.length = str (t.drop n.toNat) := fun n => by rw [str_ext, List.take_length]
    have ew : w64 (r.1 + 1) = r.1 + 1 := w64_id (by omega)
    refine .chk (by omega) (.chk (by rw [str_s]; omega) (.call (pick_ok 3 h2 (by omega)) fun r2 ⟨h3, _, _⟩ => ?_))
    simp only [hx, l0, l1, str_app, ew, str_s]
    refine .ite (fun _ => .chk (by omega) (.chk (by simp; omega) (.chk (by omega) (.chk (by simp; omega) (.ok ⟨h3.mono (by omega), ?_⟩))))) (fun _ => .ite (fun _ => .chk (by omega) (.chk (by simp; omega) (.chk (by omega) (.chk (by simp; omega) (.ok ⟨h3.mono (by omega), ?_⟩))))) (fun _ => .chk (by omega) (.chk (by omega) (.chk (by simp; omega) (.ok ⟨h3.mono (by omega), ?_⟩)))))
    all_goals (rw [str_l]; simp; omega)
theorem anylog_ok {c : l1Cur} (h : Cur 0 c) : Tot (s_l1Cur_anyLog c) fun r => Cur 20000 r.2 ∧ LogB r.1 10000 := by
  unfold s_l1Cur_anyLog
  refine .call (log_ok h (by omega)) fun r ⟨h1, hl⟩ => ?_
  unfold LogB at hl
  refine .call (P := fun o => Cur 20000 ⟨o.1, o.2.1, ⟨o.2.2.1⟩⟩ ∧ LogB ⟨o.2.2.2.1, o.2.2.2.2.1, o.2.2.2.2.2⟩ 10000) (.call (pick_ok 24 h1 (by omega)) fun r1 ⟨h2, _, _⟩ => .ite (fun _ => .ok ⟨h2.mono (by omega), ?_⟩) (fun _ => .ite (fun _ => ?_) (fun _ => .ite (fun _ => ?_) (fun _ => .ok ⟨h2.mono (by omega), ?_⟩)))) fun ⟨v, v1, v2, v3, v4, v5⟩ hq => .ok hq
  · show (durL r.1).length + (penL r.1).length ≤ _; omega
  · rw [pen_str]
    refine .call (spoilt_ok h2 (by omega) (penL r.1) (by omega)) fun r2 ⟨h3, h4⟩ => .ok ⟨h3.mono (by omega), ?_⟩
    show (durL r.1).length + r2.1.data.toList.length ≤ _
    omega
  · rw [dur_str, pen_str]
    refine .chk (by rw [str_s, str_s]; omega) (.ok ⟨h2.mono (by omega), ?_⟩)
    rw [str_app]
    show (durL r.1 ++ penL r.1).length + (penL r.1).length ≤ _
    simp; omega
  · show (durL r.1).length + (penL r.1).length ≤ _; omega
/-- Recovery. -/
def recOf (s : List UInt8) (es : List LogRecord) : Log × Int × Bool := (⟨str (s.take (LL 0 es).length), str [], (es.length : Int)⟩, ((LL 0 es).length : Int), true)
theorem irec_ok (s : List UInt8) (hs : s.length ≤ 90000) : (30000 < s.length ∧ i_RecoverLog (str s) = some (⟨str [], str [], 0⟩, 0, false)) ∨ (s.length ≤ 30000 ∧ ∃ es, Full s es ∧ i_RecoverLog (str s) = some (recOf s es)) := by
  unfold i_RecoverLog
  rw [str_s]
  by_cases h : 30000 < s.length
  · refine .inl ⟨h, ?_⟩
    rw [decide_eq_true (by omega)]; rfl
  · refine .inr ⟨by omega, ?_⟩
    obtain ⟨⟨es, ends⟩, hr, hf, he1, he2⟩ := iall_ok s (by omega)
    dsimp only at hf he1 he2
    have hend := he2 es.length (Nat.le_refl _)
    rw [List.take_length] at hend
    refine ⟨es, hf, ?_⟩
    have hle := hf.1.2.1.length_le
    rw [decide_eq_false (by omega), hr]
    simp only [Bool.false_eq_true, if_false, Option.bind_some]
    rw [ixs hend, Option.bind_some, chk_of (by omega), Option.bind_some, str_ext]
    unfold recOf
    simp
theorem rec_valid {s : List UInt8} {es : List LogRecord} (hf : Full s es) : ValidL (recOf s es).1 ∧ allL (recOf s es).1 = LL 0 es := by
  have hp := hf.1.2.1
  have e1 : s.take (LL 0 es).length = LL 0 es := (List.prefix_iff_eq_take.1 hp).symm
  have ea : allL (recOf s es).1 = LL 0 es := by
    show s.take (LL 0 es).length ++ [] = _
    rw [e1, List.append_nil]
  have hc : Full (LL 0 es) es := by
    refine ⟨⟨hf.1.1, List.prefix_rfl, hf.1.2.2⟩, ?_⟩
    by_cases h6 : es.length = 60
    · exact .inl h6
    · right
      intro e he hpe
      have := line_len (k := es.length) he (by have := hf.1.2.2; omega)
      have h9 := hpe.length_le
      rw [List.length_drop] at h9; omega
  refine ⟨⟨es, by rw [ea]; exact hc, by rw [ea], rfl, es.length, Nat.le_refl _, ?_⟩, ea⟩
  rw [List.take_length]
  show _ = (s.take (LL 0 es).length).length
  rw [e1]
/-! The law on crashes. -/
theorem vBig_eq (code : List UInt8) : v_vBig code = some (decide (65536 < (code.length : Int))) := rfl
theorem recs_i (l : Log) (hb : LogB l 90000) {es : List LogRecord} (hf : Full (allL l) es) (hv : ValidL l) : i_LogRecords l = some (es, true) := by
  have hb' := hb
  have hal := all_len l
  unfold LogB at hb'
  unfold i_LogRecords
  rw [ivalid_ok l hb, Option.bind_some, decide_eq_true hv]
  simp only [Bool.not_true, Bool.false_eq_true, if_false]
  rw [dur_str, pen_str, chk_of (by rw [str_s, str_s]; omega), Option.bind_some, str_app]
  obtain ⟨⟨fs, ends⟩, hr, hf2, _⟩ := iall_ok (allL l) (by omega)
  have hr' : i_readLog (str (durL l ++ penL l)) = some (fs, ends) := hr
  rw [hr', Option.bind_some]
  have := full_uniq hf hf2
  subst this; rfl
theorem recs_s (l : Log) (hb : LogB l 90000) {es : List LogRecord} (hf : Full (allL l) es) (hv : ValidL l) : s_LogRecords l = some (es, true) := by
  have hb' := hb
  have hal := all_len l
  unfold LogB at hb'
  unfold s_LogRecords
  rw [lvalid_ok l hb, Option.bind_some, decide_eq_true hv]
  simp only [Bool.not_true, Bool.false_eq_true, if_false]
  rw [dur_str, pen_str, chk_of (by rw [str_s, str_s]; omega), Option.bind_some, str_app]
  obtain ⟨⟨fs, n⟩, hr, hf2, _⟩ := lopen_ok (allL l) (by omega)
  have hr' : s_l27Open (str (durL l ++ penL l)) = some (fs, n) := hr
  rw [hr', Option.bind_some]
  have := full_uniq hf hf2
  subst this; rfl
def flip (b : UInt8) : UInt8 := mkU8 (IntKind.u8.wrap (255 - (b.toNat : Int)))
theorem flip_nat (b : UInt8) : (flip b).toNat = 255 - b.toNat := by
  have hb := b.toNat_lt
  unfold flip mkU8
  rw [UInt8.toNat_ofNat', IntKind.wrap_u8]
  omega
def tornL (p : List UInt8) (k : Nat) (torn : Bool) : List UInt8 := if torn = true ∧ 0 < k then p.take (k - 1) ++ [flip (p.getD (k - 1) 0)] else p.take k
theorem torn_len (p : List UInt8) (k : Nat) (torn : Bool) (hk : k ≤ p.length) : (tornL p k torn).length = k := by
  unfold tornL
  split
  · simp; omega
  · simp; omega
theorem crash_ok (l : Log) (keep : Int) (torn : Bool) (hb : LogB l 90000) : ∃ r, i_CrashLog l keep torn = some r ∧ s_CrashLog l keep torn = some r ∧
    (r = (str [], false) ∨ (ValidL l ∧ 0 ≤ keep ∧ keep ≤ (penL l).length ∧ r = (str (durL l ++ tornL (penL l) keep.toNat torn), true))) := by
  have hb' := hb
  unfold LogB at hb'
  unfold i_CrashLog s_CrashLog
  rw [ivalid_ok l hb, lvalid_ok l hb, within_eq, lin_eq, dur_str, pen_str, str_s]
  simp only [Option.bind_some]
  by_cases hv : ValidL l
  · rw [decide_eq_true hv]
    simp only [Bool.not_true, Bool.false_eq_true, if_false]
    by_cases hk : 0 ≤ keep ∧ keep ≤ ((penL l).length : Int)
    · rw [decide_eq_true hk]
      simp only [Bool.not_true, Bool.false_eq_true, if_false, Option.bind_some]
      obtain ⟨k, rfl⟩ : ∃ k : Nat, keep = k := ⟨keep.toNat, by omega⟩
      have hkn : ((k : Int)).toNat = k := by omega
      have e0 : (str (penL l)).extract (0 : Int).toNat ((k : Int)).toNat = str ((penL l).take k) := by rw [str_ext, hkn]; rfl
      have htl : ((penL l).take k).length = k := by simp; omega
      have hT := torn_len (penL l) k torn (by omega)
      refine ⟨(str (durL l ++ tornL (penL l) k torn), true), ?_, ?_, .inr ⟨hv, by omega, hk.2, by rw [hkn]⟩⟩
      · rw [e0, chk_of ⟨by omega, by omega, by omega⟩, Option.bind_some]
        by_cases ht : torn = true ∧ 0 < k
        · have e1 : (if torn = true then some (decide (0 < (k : Int))) else some false) = some true := by rw [if_pos ht.1, decide_eq_true (by omega)]
          have ew : w64 ((k : Int) - 1) = ((k - 1 : Nat) : Int) := by rw [w64_id (by omega)]; omega
          have htn : tornL (penL l) k torn = (penL l).take (k - 1) ++ [flip ((penL l).getD (k - 1) 0)] := by unfold tornL; rw [if_pos ht]
          rw [e1]
          simp only [Option.bind_some, if_true]
          rw [str_s, htl, ew, str_l, chk_of ⟨by omega, by omega, by omega⟩, Option.bind_some, chk_of ⟨by omega, by omega⟩, Option.bind_some]
          have e2 : (str ((penL l).take k)).extract (0 : Int).toNat (((k - 1 : Nat) : Int)).toNat = str ((penL l).take (k - 1)) := by
            rw [str_ext, show (((k - 1 : Nat) : Int)).toNat = k - 1 by omega, List.take_take, show min (k - 1) k = k - 1 by omega]; rfl
          have e3 : ((penL l).take k).getD (((k - 1 : Nat) : Int)).toNat 0 = (penL l).getD (k - 1) 0 := by
            rw [show (((k - 1 : Nat) : Int)).toNat = k - 1 by omega, List.getD_eq_getElem?_getD, List.getD_eq_getElem?_getD, List.getElem?_take, if_pos (by omega)]
          have e4 : bytS [mkU8 (IntKind.u8.wrap (255 - (((penL l).getD (k - 1) 0).toNat : Int)))] = str [flip ((penL l).getD (k - 1) 0)] := rfl
          rw [e2, e3, e4, chk_of (by rw [str_s, str_s]; simp; omega), Option.bind_some, str_app, ← htn, Option.bind_some, str_s, str_s, chk_of (by omega), Option.bind_some, str_app]
        · have e1 : (if torn = true then some (decide (0 < (k : Int))) else some false) = some false := by
            cases torn
            · rfl
            · rw [if_pos rfl, decide_eq_false (fun h => ht ⟨rfl, by omega⟩)]
          have htn : tornL (penL l) k torn = (penL l).take k := by unfold tornL; rw [if_neg ht]
          rw [e1]
          simp only [Option.bind_some, Bool.false_eq_true, if_false]
          rw [str_s, str_s, htl, chk_of (by omega), Option.bind_some, str_app, htn]
      · rw [e0, chk_of ⟨by omega, by omega, by omega⟩, Option.bind_some, str_s, htl, chk_of (by omega), Option.bind_some, str_l]
        by_cases ht : torn = true ∧ 0 < k
        · have e1 : (if torn = true then some (decide (0 < (k : Int))) else some false) = some true := by rw [if_pos ht.1, decide_eq_true (by omega)]
          have ew : w64 ((k : Int) - 1) = ((k - 1 : Nat) : Int) := by rw [w64_id (by omega)]; omega
          have htn : tornL (penL l) k torn = (penL l).take (k - 1) ++ [flip ((penL l).getD (k - 1) 0)] := by unfold tornL; rw [if_pos ht]
          obtain ⟨x, hx⟩ := get_ex (l := penL l) (i := k - 1) (by omega)
          have hx2 : ((penL l).take k)[k - 1]? = some x := by rw [List.getElem?_take, if_pos (by omega)]; exact hx
          rw [e1]
          simp only [Option.bind_some, if_true]
          rw [ew, ixs hx2, Option.bind_some, Option.bind_some, Option.bind_some]
          have e5 : ((penL l).take k).set (((k - 1 : Nat) : Int)).toNat (mkU8 (IntKind.u8.wrap (255 - (x.toNat : Int)))) = tornL (penL l) k torn := by
            rw [htn, getD_some hx, show (((k - 1 : Nat) : Int)).toNat = k - 1 by omega]
            have e6 : (penL l).take k = (penL l).take (k - 1) ++ [x] := by
              have := take_succ hx
              rwa [show k - 1 + 1 = k by omega] at this
            rw [e6, List.set_append_right _ _ (by simp; omega), show k - 1 - ((penL l).take (k - 1)).length = 0 by simp; omega]
            rfl
          rw [e5]
          have e7 : bytS (tornL (penL l) k torn) = str (tornL (penL l) k torn) := rfl
          rw [e7, str_s, str_s, chk_of (by omega), Option.bind_some, str_app]
        · have e1 : (if torn = true then some (decide (0 < (k : Int))) else some false) = some false := by
            cases torn
            · rfl
            · rw [if_pos rfl, decide_eq_false (fun h => ht ⟨rfl, by omega⟩)]
          have htn : tornL (penL l) k torn = (penL l).take k := by unfold tornL; rw [if_neg ht]
          rw [e1]
          simp only [Option.bind_some, Bool.false_eq_true, if_false]
          have e7 : bytS ((penL l).take k) = str ((penL l).take k) := rfl
          rw [e7, str_s, str_s, htl, chk_of (by omega), Option.bind_some, str_app, htn]
    · rw [decide_eq_false hk]
      exact ⟨_, rfl, rfl, .inl rfl⟩
  · rw [decide_eq_false hv]
    exact ⟨_, rfl, rfl, .inl rfl⟩
theorem line_bytes {k : Nat} {e : LogRecord} (h : GoodR e) : ∀ b ∈ lineL k e, b.toNat ≤ 126 := by
  intro b hb
  have hnum : ∀ n, ∀ b ∈ num n, b.toNat ≤ 126 := fun n b hb => by have := num_dig n b hb; omega
  unfold lineL lineT tail bodyL at hb
  simp only [List.mem_append, List.mem_cons, List.mem_singleton, List.not_mem_nil, or_false] at hb
  rcases hb with (((hb | hb | hb | hb | hb) | hb | hb) | hb)
  · exact hnum _ _ hb
  · subst hb; decide
  · exact (h.2.1 b hb).2.1
  · subst hb; decide
  · exact (h.2.2.2.2.1 b hb).2.1
  · subst hb; decide
  · exact hnum _ _ hb
  · subst hb; decide
theorem LL_bytes : ∀ (k : Nat) (es : List LogRecord), (∀ e ∈ es, GoodR e) → ∀ b ∈ LL k es, b.toNat ≤ 126
  | _, [], _, b, hb => by simp [LL] at hb
  | k, e :: es, h, b, hb => by
    simp only [LL, List.mem_append] at hb
    rcases hb with hb | hb
    · exact line_bytes (h e (List.mem_cons_self ..)) b hb
    · exact LL_bytes (k + 1) es (fun x hx => h x (List.mem_cons_of_mem _ hx)) b hb
theorem LL_last : ∀ (k : Nat) (es : List LogRecord), es ≠ [] → (LL k es).getLast? = some 10
  | _, [], h => absurd rfl h
  | k, [e], _ => by simp [LL, lineL]
  | k, e :: f :: es, _ => by
    have ih := LL_last (k + 1) (f :: es) (by simp)
    rw [LL, List.getLast?_append, ih]; rfl
theorem crash_chain {l : Log} {es fs : List LogRecord} {k : Nat} {torn : Bool} (hf : Full (allL l) es) (hall : LL 0 es = allL l) (hk : k ≤ (penL l).length) (hfs : Chain (durL l ++ tornL (penL l) k torn) fs) : fs <+: es := by
  have pre : durL l ++ (penL l).take k <+: allL l := by
    unfold allL
    exact (List.prefix_append_right_inj _).2 (List.take_prefix _ _)
  by_cases ht : torn = true ∧ 0 < k
  · have htn : tornL (penL l) k torn = (penL l).take (k - 1) ++ [flip ((penL l).getD (k - 1) 0)] := by unfold tornL; rw [if_pos ht]
    obtain ⟨y, hy⟩ : ∃ y, y = durL l ++ (penL l).take (k - 1) := ⟨_, rfl⟩
    have hte : durL l ++ tornL (penL l) k torn = y ++ [flip ((penL l).getD (k - 1) 0)] := by rw [htn, hy]; simp
    have hyp : y <+: allL l := by
      rw [hy]; unfold allL
      exact (List.prefix_append_right_inj _).2 (List.take_prefix _ _)
    rw [hte] at hfs
    by_cases hl : (LL 0 fs).length ≤ y.length
    · have : LL 0 fs <+: y := List.prefix_of_prefix_length_le hfs.2.1 (List.prefix_append _ _) hl
      exact full_max hf ⟨hfs.1, this.trans hyp, hfs.2.2⟩
    · exfalso
      have hle := hfs.2.1.length_le
      have heq := pre_len hfs.2.1 (by simp at hle ⊢; omega)
      have hne : fs ≠ [] := by rintro rfl; simp [LL] at hl
      have hlast := LL_last 0 fs hne
      rw [heq, List.getLast?_append] at hlast
      simp only [List.getLast?_singleton, Option.some_or, Option.some.injEq] at hlast
      obtain ⟨x, hx⟩ := get_ex (l := penL l) (i := k - 1) (by omega)
      rw [getD_some hx] at hlast
      have h1 := congrArg UInt8.toNat hlast
      rw [flip_nat] at h1
      have h2 : (10 : UInt8).toNat = 10 := rfl
      rw [h2] at h1
      have hm : x ∈ LL 0 es := by
        rw [hall]; unfold allL
        exact List.mem_append_right _ (List.mem_of_getElem? hx)
      have := LL_bytes 0 es hf.1.1 x hm
      omega
  · have htn : tornL (penL l) k torn = (penL l).take k := by unfold tornL; rw [if_neg ht]
    rw [htn] at hfs
    exact full_max hf ⟨hfs.1, hfs.2.1.trans pre, hfs.2.2⟩
theorem dcrash_ok (code : List UInt8) : Tot (s_DrawCrashLog code) fun r => LogB r.1 30000 := by
  unfold s_DrawCrashLog
  refine .call (anylog_ok (cur0 code)) fun r ⟨h1, hl⟩ => ?_
  refine .call (pick_ok _ h1 (by omega)) fun r1 ⟨h2, _, _⟩ => .call (one_ok 2 h2 (by omega)) fun r3 _ => .ok ?_
  unfold LogB at hl ⊢
  dsimp only
  omega
theorem crash_true (code : List UInt8) : v_FnCrashRecovery code = some true := by
  unfold v_FnCrashRecovery
  refine Tot.val (.eq (vBig_eq code) (.iteP (fun _ => .ok rfl) (fun _ => ?_)))
  refine .call (dcrash_ok code) fun ⟨l, keep, torn⟩ hb => ?_
  dsimp only at hb ⊢
  have hb9 : LogB l 90000 := by unfold LogB at hb ⊢; omega
  obtain ⟨r, x1, x2, hr⟩ := crash_ok l keep torn hb9
  refine .eq x1 (.eq x2 (.eq (a := false) (by simp) ?_))
  simp only [Bool.false_eq_true, if_false]
  rcases hr with rfl | ⟨hv, k0, k1, rfl⟩
  · simp only [Bool.not_false, if_true, beq_self_eq_true]
    exact .ok rfl
  · simp only [Bool.not_true, Bool.false_eq_true, if_false]
    obtain ⟨es, hf, v1, v2, j, v3, v4⟩ := hv
    have hv : ValidL l := ⟨es, hf, v1, v2, j, v3, v4⟩
    have hall := pre_len hf.1.2.1 v1
    have hlc := chain_len hf.1
    have hal := all_len l
    obtain ⟨t, htx⟩ : ∃ t, t = durL l ++ tornL (penL l) keep.toNat torn := ⟨_, rfl⟩
    have htl : t.length = (durL l).length + keep.toNat := by rw [htx, List.length_append, torn_len _ _ _ (by omega)]
    rw [← htx]
    rcases irec_ok t (by omega) with ⟨h, _⟩ | ⟨_, fs, hfs, hrec⟩
    · omega
    obtain ⟨rv, rall⟩ := rec_valid hfs
    have hfp : fs <+: es := crash_chain (k := keep.toNat) (torn := torn) hf hall (by omega) (by rw [← htx]; exact hfs.1)
    have hfl := hfp.length_le
    have h60 := hfs.1.2.2
    have hle := hfs.1.2.1.length_le
    have hal2 := all_len (recOf t fs).1
    have hb2 : LogB (recOf t fs).1 90000 := by unfold LogB; rw [← hal2, rall]; omega
    have hfull2 : Full (allL (recOf t fs).1) fs := by
      rw [rall]
      obtain ⟨gs, hg, g1, g2, _⟩ := rv
      rw [rall] at hg g1
      have hgc : Chain (LL 0 fs) fs := ⟨hfs.1.1, List.prefix_rfl, hfs.1.2.2⟩
      have h1 := full_max hg hgc
      obtain ⟨d, rfl⟩ := h1
      cases d with
      | nil => simpa using hg
      | cons e d =>
        exfalso
        have h2 := hg.1.2.1.length_le
        rw [show fs ++ e :: d = (fs ++ [e]) ++ d by simp, LL_app, LL_snoc] at h2
        have h3 := line_len (k := 0 + fs.length) (hg.1.1 e (by simp)) (by have := hfs.1.2.2; omega)
        simp only [List.length_append] at h2
        omega
    have hd : (durL l).length ≤ (LL 0 fs).length := by
      have hc : Chain t (es.take j) := by
        refine ⟨fun x hx => hf.1.1 x (List.mem_of_mem_take hx), ?_, by have := hf.1.2.2; simp; omega⟩
        have h1 : LL 0 (es.take j) <+: allL l := (LL_pre (List.take_prefix j es)).trans hf.1.2.1
        have h2 : LL 0 (es.take j) <+: durL l := List.prefix_of_prefix_length_le h1 (show durL l <+: allL l from List.prefix_append _ _) (by omega)
        rw [htx]
        exact h2.trans (List.prefix_append _ _)
      have := (LL_pre (full_max hfs hc)).length_le
      omega
    refine .eq hrec (.eq (recs_i _ hb2 hfull2 rv) (.eq (recs_s l hb9 hf hv) ?_))
    have e1 : (recOf t fs).2.2 = true := rfl
    have e2 : (recOf t fs).2.1 = ((LL 0 fs).length : Int) := rfl
    rw [e1, e2, str_s, dur_str l, str_s]
    refine .eq (a := false) ?_ ?_
    · simp only [Bool.not_true, Bool.false_eq_true, if_false]
      rw [decide_eq_false (by omega), decide_eq_false (by omega), decide_eq_false (by omega)]
      rfl
    simp only [Bool.false_eq_true, if_false]
    refine Tot.flb (Tot.mono (P := fun v => v = .go ()) (Tot.iter (fun k a => ∃ i : Nat, k + i = fs.length ∧ a = (i : Int)) (n := fs.length) ⟨0, rfl, rfl⟩ ?_) fun v hv => ⟨fun r h => (by rw [hv] at h; cases h), fun u _ => ?_⟩)
    · rintro k _ ⟨i, hk, rfl⟩
      unfold v_FnCrashRecovery_L1
      dsimp only
      refine .iteP (fun hlt => ?_) (fun hge => .dn rfl)
      obtain ⟨x, hx⟩ := get_ex (l := fs) (i := i) (by omega)
      have hx2 : es[i]? = some x := by
        obtain ⟨d, rfl⟩ := hfp
        rw [List.getElem?_append_left (by omega)]; exact hx
      refine .eq (ixs hx) (.eq (ixs hx2) ?_)
      simp only [beq_self_eq_true, Bool.and_self, Bool.not_true, Bool.false_eq_true, if_false]
      exact .nx ⟨k - 1, by omega, i + 1, by omega, w64_succ (by omega)⟩
    · rw [ivalid_ok _ hb2, decide_eq_true rv]
      simp only [Option.bind_some, if_true]
      rw [chk_of ⟨by omega, by omega, by omega⟩, Option.bind_some, str_ext]
      have e3 : (recOf t fs).1.Durable = str (t.take (LL 0 fs).length) := rfl
      rw [e3, show (((LL 0 fs).length : Nat) : Int).toNat = (LL 0 fs).length by omega, show (0 : Int).toNat = 0 from rfl, List.drop_zero]
      simp only [beq_self_eq_true, Option.bind_some]
      exact .ok rfl
end Go.Proofs.YtbedhobglodjbaaDoor
