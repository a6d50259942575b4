/- The plain law: what the models compute, no program in sight. -/
import Derived.Test.YtbedhobglodjbaaDoorCdM
import Derived.Test.YtbedhobglodjbaaDoorAbTot
namespace Go.Proofs.YtbedhobglodjbaaDoor
open Go Go.Ab
set_option maxHeartbeats 4000000
set_option linter.unusedVariables false
set_option linter.unusedSimpArgs false
/-! The cursor of the draws: it always answers. -/
def Cur (k : Nat) (c : l1Cur) : Prop := 0 ≤ c.at_ ∧ c.at_ ≤ k
theorem Cur.mono {k k' : Nat} {c : l1Cur} (h : Cur k c) (hk : k ≤ k') : Cur k' c := ⟨h.1, by have := h.2; omega⟩
theorem next_ok {k : Nat} {c : l1Cur} (h : Cur k c) (hk : k ≤ 4000000000) : ∃ r, s_l1Cur_next c = some r ∧ Cur (k + 1) r.2 ∧ 0 ≤ r.1 ∧ r.1 ≤ 255 := by
  obtain ⟨h0, h1⟩ := h
  have hw : w64 (c.at_ + 1) = c.at_ + 1 := w64_id (by omega)
  have hcur : ∀ s, Cur (k + 1) ⟨c.code_, w64 (c.at_ + 1), s⟩ := fun s => by rw [hw]; exact ⟨by show 0 ≤ c.at_ + 1; omega, by show c.at_ + 1 ≤ _; omega⟩
  unfold s_l1Cur_next
  have hv : ∃ v, (if (decide (c.at_ < (c.code_.length : Int))) = true then (idx c.code_ c.at_).bind fun e1 => some (w64 ((e1.toNat : Int))) else some 0) = some v ∧ 0 ≤ v ∧ v ≤ 255 := by
    by_cases hlt : c.at_ < c.code_.length
    · obtain ⟨x, hx, _, _⟩ := idx_lt h0 hlt
      have := x.toNat_lt
      refine ⟨(x.toNat : Int), ?_, by omega, by omega⟩
      simp only [hlt, decide_true, if_true, hx, Option.bind_some]
      rw [w64_id (by omega)]
    · exact ⟨0, by simp [hlt], by omega, by omega⟩
  obtain ⟨v, hv, hv0, hv1⟩ := hv
  rw [hv]
  simp only [Option.bind_some]
  split
  · exact ⟨_, rfl, hcur _, hv0, hv1⟩
  · rw [chk_of (by omega)]
    exact ⟨_, rfl, hcur _, and255 _⟩
theorem pick_ok {k : Nat} {c : l1Cur} (n : Int) (h : Cur k c) (hk : k ≤ 3000000000) : ∃ r, s_l1Cur_pick c n = some r ∧ Cur (k + 2) r.2 ∧ 0 ≤ r.1 ∧ (r.1 < n ∨ r.1 = 0) := by
  unfold s_l1Cur_pick
  by_cases hn : n ≤ 1
  · exact ⟨(0, c), by simp [hn], h.mono (by omega), by simp, .inr rfl⟩
  · obtain ⟨r, hr, hc, h0, h1⟩ := next_ok h (by omega)
    have hn' : decide (n ≤ 1) = false := by simpa using hn
    simp only [hn', Bool.false_eq_true, if_false, hr, Option.bind_some]
    have hne : chk (n ≠ 0) = some () := chk_of (by omega)
    by_cases h2 : 200 < n
    · obtain ⟨r', hr', hc', h0', h1'⟩ := next_ok hc (by omega)
      have e1 : w64 (r.1 * 256) = r.1 * 256 := w64_id (by omega)
      have e2 : w64 (r.1 * 256 + r'.1) = r.1 * 256 + r'.1 := w64_id (by omega)
      have h3 := tmod_rng (a := r.1 * 256 + r'.1) (b := n) (by omega) (by omega)
      simp only [h2, decide_true, if_true, hr', Option.bind_some, hne, e1, e2]
      exact ⟨_, rfl, hc'.mono (by omega), h3.1, .inl h3.2⟩
    · have h2' : decide (200 < n) = false := by simpa using h2
      have h3 := tmod_rng (a := r.1) (b := n) (by omega) (by omega)
      simp only [h2', Bool.false_eq_true, if_false, Option.bind_some, hne]
      exact ⟨_, rfl, hc.mono (by omega), h3.1, .inl h3.2⟩
theorem amongw_ok {k : Nat} {c : l1Cur} (l : List Int) (hl : l ≠ []) (h : Cur k c) (hk : k ≤ 3000000000) : ∃ r, s_l1Cur_among_w c l = some r ∧ Cur (k + 2) r.2 ∧ r.1 ∈ l := by
  unfold s_l1Cur_among_w
  obtain ⟨r, hr, hc, h0, h1⟩ := pick_ok (l.length : Int) h hk
  have hpos : 0 < l.length := List.length_pos_iff.2 hl
  obtain ⟨x, hx, _, hm⟩ := idx_lt (l := l) h0 (by omega)
  simp only [hr, Option.bind_some, hx]
  exact ⟨_, rfl, hc, hm⟩
theorem among_ok {k : Nat} {c : l1Cur} (l : List Int) (hl : l ≠ []) (h : Cur k c) (hk : k ≤ 3000000000) : ∃ r, s_l1Cur_among c l = some r ∧ Cur (k + 2) r.2 ∧ r.1 ∈ l := by
  have : s_l1Cur_among c l = s_l1Cur_among_w c l := rfl
  rw [this]; exact amongw_ok l hl h hk
theorem one_ok {k : Nat} {c : l1Cur} (n : Int) (h : Cur k c) (hk : k ≤ 3000000000) : ∃ r, s_l1Cur_one c n = some r ∧ Cur (k + 2) r.2 := by
  unfold s_l1Cur_one
  obtain ⟨r, hr, hc, _, _⟩ := pick_ok n h hk
  simp only [hr, Option.bind_some]
  exact ⟨_, rfl, hc⟩
theorem cur0 (code : List UInt8) : Cur 0 ⟨code, 0, ⟨0⟩⟩ := ⟨by show (0 : Int) ≤ 0; omega, by show (0 : Int) ≤ _; omega⟩
/-! Texts: parts between bytes, no program in sight. -/
/-- The parts of a text between the occurrences of a byte. -/
def spl1 (c : UInt8) : List UInt8 → List (List UInt8)
  | [] => [[]]
  | x :: r => if x = c then [] :: spl1 c r else match spl1 c r with
    | [] => [[x]]
    | h :: t => (x :: h) :: t
theorem spl1_ne (c : UInt8) : ∀ l, spl1 c l ≠ []
  | [] => by simp [spl1]
  | x :: r => by
    unfold spl1
    split
    · simp
    · split <;> simp
theorem spl1_cons {c x : UInt8} {r : List UInt8} (h : x ≠ c) : ∃ a t, spl1 c r = a :: t ∧ spl1 c (x :: r) = (x :: a) :: t := by
  cases hs : spl1 c r with
  | nil => exact absurd hs (spl1_ne c r)
  | cons a t => exact ⟨a, t, rfl, by rw [spl1, if_neg h, hs]⟩
theorem index1_cons {c x : UInt8} {r : List UInt8} : Lib.index (x :: r) [c] = if x = c then 0 else if Lib.index r [c] = -1 then -1 else Lib.index r [c] + 1 := by
  rw [Lib.index]
  by_cases h : x = c
  · subst h; simp
  · have h1 : ([c] : List UInt8).isPrefixOf (x :: r) = false := by
      simp [List.isPrefixOf, Ne.symm h]
    rw [h1, if_neg h]
    simp only [Bool.false_eq_true, if_false, beq_iff_eq]
theorem splitK_spl1 (c : UInt8) : ∀ (l : List UInt8) (k : Nat), l.count c ≤ k → Lib.splitK [c] 0 k l = spl1 c l
  | [], k, _ => by
    cases k with
    | zero => rfl
    | succ k => rw [Lib.splitK]; simp [Lib.index, spl1]
  | x :: r, k, hk => by
    by_cases h : x = c
    · subst h
      rw [List.count_cons_self] at hk
      cases k with
      | zero => omega
      | succ k =>
        have ih := splitK_spl1 x r k (by omega)
        rw [Lib.splitK, index1_cons, if_pos rfl, spl1, if_pos rfl]
        simpa using ih
    · rw [List.count_cons_of_ne h] at hk
      have ih := splitK_spl1 c r k hk
      obtain ⟨a, t, h1, h2⟩ := spl1_cons (r := r) h
      rw [h2]
      cases k with
      | zero =>
        rw [Lib.splitK] at ih ⊢
        rw [h1] at ih
        cases ih; rfl
      | succ k =>
        rw [Lib.splitK, index1_cons, if_neg h]
        rw [Lib.splitK, h1] at ih
        by_cases hi : Lib.index r [c] = -1
        · rw [if_pos (by rw [hi]; rfl)] at ih
          rw [if_pos hi]
          cases ih
          simp
        · have hge := Lib.index_ge r [c]
          rw [if_neg (by simpa using hi)] at ih
          rw [if_neg hi, if_neg (by simp only [beq_iff_eq]; omega)]
          have e : (Lib.index r [c] + 1).toNat = (Lib.index r [c]).toNat + 1 := by omega
          rw [e]
          simp only [Nat.add_zero, List.length_cons, List.length_nil] at ih ⊢
          cases ih
          simp
theorem count1 (c : UInt8) (s : List UInt8) : Lib.count s [c] = s.count c := Lib.count_one c s
theorem splitB_one {s t : ByteArray} {c : UInt8} (h : t = ⟨#[c]⟩) : (Lib.splitB t 0 (Lib.countB s t) s).map (·.data.toList) = spl1 c s.data.toList := by
  subst h
  rw [Lib.splitB_data]
  exact splitK_spl1 c _ _ (by rw [show Lib.countB s ⟨#[c]⟩ = Lib.count s.data.toList [c] from rfl, count1]; exact Nat.le_refl _)
/-- Put together again. -/
theorem join_spl1 (c : UInt8) : ∀ l, Lib.join (spl1 c l) [c] = l
  | [] => rfl
  | x :: r => by
    have ih := join_spl1 c r
    by_cases h : x = c
    · subst h
      rw [spl1, if_pos rfl]
      cases hs : spl1 x r with
      | nil => exact absurd hs (spl1_ne x r)
      | cons a t =>
        rw [hs] at ih
        rw [Lib.join_cons] at ih ⊢
        simp only [Lib.joinTail, List.map_cons, List.flatten_cons, List.nil_append, List.singleton_append] at ih ⊢
        rw [List.cons_append, ih]
    · obtain ⟨a, t, h1, h2⟩ := spl1_cons (r := r) h
      rw [h1, Lib.join_cons] at ih
      rw [h2, Lib.join_cons, List.cons_append, ih]
theorem spl1_free (c : UInt8) : ∀ l, ∀ p ∈ spl1 c l, c ∉ p
  | [], p, hp => by simp [spl1] at hp; subst hp; simp
  | x :: r, p, hp => by
    have ih := spl1_free c r
    by_cases h : x = c
    · rw [spl1, if_pos h] at hp
      rcases List.mem_cons.1 hp with rfl | hp
      · simp
      · exact ih p hp
    · obtain ⟨a, t, h1, h2⟩ := spl1_cons (r := r) h
      rw [h2] at hp
      rw [h1] at ih
      rcases List.mem_cons.1 hp with rfl | hp
      · simp only [List.mem_cons, not_or]
        exact ⟨Ne.symm h, ih a (List.mem_cons_self ..)⟩
      · exact ih p (List.mem_cons_of_mem _ hp)
theorem spl1_app {c : UInt8} : ∀ {p : List UInt8}, c ∉ p → ∀ l, spl1 c (p ++ c :: l) = p :: spl1 c l
  | [], _, l => by rw [List.nil_append, spl1, if_pos rfl]
  | x :: p, hp, l => by
    simp only [List.mem_cons, not_or] at hp
    have ih := spl1_app hp.2 l
    rw [List.cons_append, spl1, if_neg (Ne.symm hp.1), ih]
theorem spl1_self {c : UInt8} : ∀ {p : List UInt8}, c ∉ p → spl1 c p = [p]
  | [], _ => rfl
  | x :: p, hp => by
    simp only [List.mem_cons, not_or] at hp
    rw [spl1, if_neg (Ne.symm hp.1), spl1_self hp.2]
/-- Taken apart again. -/
theorem spl1_join {c : UInt8} : ∀ {l : List (List UInt8)}, l ≠ [] → (∀ p ∈ l, c ∉ p) → spl1 c (Lib.join l [c]) = l
  | [], h, _ => absurd rfl h
  | [p], _, hp => by rw [Lib.join_one]; exact spl1_self (hp p (List.mem_cons_self ..))
  | p :: q :: r, _, hp => by
    have ih := spl1_join (l := q :: r) (by simp) (fun x hx => hp x (List.mem_cons_of_mem _ hx))
    rw [Lib.join_cons] at ih ⊢
    have e : p ++ Lib.joinTail [c] (q :: r) = p ++ c :: (q ++ Lib.joinTail [c] r) := by simp [Lib.joinTail]
    rw [e, spl1_app (hp p (List.mem_cons_self ..)), ih]
theorem contains1 (c : UInt8) (l : List UInt8) : Lib.contains l [c] = decide (c ∈ l) := by
  rw [Lib.contains]
  congr 1
  apply propext
  induction l with
  | nil => simp [Lib.index]
  | cons x r ih =>
    rw [index1_cons]
    have hge := Lib.index_ge r [c]
    by_cases h : x = c
    · subst h; simp
    · rw [if_neg h]
      simp only [List.mem_cons, Ne.symm h, false_or]
      rw [← ih]
      split <;> omega
/-- Cut at the first occurrence of a byte. -/
theorem cut1_hit {c : UInt8} : ∀ {p : List UInt8}, c ∉ p → ∀ l, Lib.cut (p ++ c :: l) [c] = (p, l, true) := by
  intro p hp l
  have hi : ∀ p : List UInt8, c ∉ p → Lib.index (p ++ c :: l) [c] = p.length := by
    intro p
    induction p with
    | nil => intro _; rw [List.nil_append, index1_cons, if_pos rfl]; rfl
    | cons x p ih =>
      intro hp
      simp only [List.mem_cons, not_or] at hp
      rw [List.cons_append, index1_cons, if_neg (Ne.symm hp.1), ih hp.2]
      simp only [List.length_cons]
      rw [if_neg (by omega)]
      omega
  rw [Lib.cut, hi p hp, if_pos (by omega)]
  have e : (p.length : Int).toNat = p.length := by omega
  rw [e]
  have e2 : p ++ c :: l = (p ++ [c]) ++ l := by simp
  refine Prod.ext ?_ (Prod.ext ?_ rfl)
  · show (p ++ c :: l).take p.length = p
    exact List.take_left' rfl
  · show (p ++ c :: l).drop (p.length + [c].length) = l
    rw [e2]
    exact List.drop_left' (by simp)
theorem cut1_miss {c : UInt8} {l : List UInt8} (h : c ∉ l) : Lib.cut l [c] = (l, [], false) := by
  have := contains1 c l
  rw [Lib.contains] at this
  rw [Lib.cut, if_neg]
  intro h0
  rw [decide_eq_true h0] at this
  exact h (of_decide_eq_true this.symm)
theorem cut1 (c : UInt8) : ∀ l : List UInt8, (c ∉ l ∧ Lib.cut l [c] = (l, [], false)) ∨ ∃ p q, c ∉ p ∧ l = p ++ c :: q ∧ Lib.cut l [c] = (p, q, true) := by
  intro l
  by_cases h : c ∈ l
  · obtain ⟨p, q, rfl, hp⟩ := List.eq_append_cons_of_mem h
    exact .inr ⟨p, q, hp, rfl, cut1_hit hp q⟩
  · exact .inl ⟨h, cut1_miss h⟩
/-! Texts as lists of bytes; numbers' texts; a test of every byte. -/
theorem bsize (x : ByteArray) : x.data.toList.length = x.size := rfl
theorem tl_eq (x : ByteArray) : x.toList = x.data.toList := by
  have h : ∀ (n i : Nat) (r : List UInt8), x.size - i = n → ByteArray.toList.loop x i r = r.reverse ++ x.data.toList.drop i := by
    intro n
    induction n with
    | zero =>
      intro i r hn
      rw [ByteArray.toList.loop, if_neg (by omega), List.drop_of_length_le (by rw [bsize]; omega), List.append_nil]
    | succ n ih =>
      intro i r hn
      have hi : i < x.data.toList.length := by rw [bsize]; omega
      rw [ByteArray.toList.loop, if_pos (by omega), ih (i + 1) _ (by omega), List.drop_eq_getElem_cons hi]
      have : x.get! i = x.data.toList[i] := by
        have h2 : i < x.data.size := by simpa using hi
        show x.data[i]! = _
        rw [getElem!_pos x.data i h2]
        simp
      rw [this]
      simp
  show ByteArray.toList.loop x 0 [] = _
  rw [h _ 0 [] rfl]
  simp
theorem str_of (x : ByteArray) : x = str x.data.toList := rfl
theorem str_l (l : List UInt8) : (str l).data.toList = l := rfl
theorem str_t (l : List UInt8) : (str l).toList = l := tl_eq _
theorem str_s (l : List UInt8) : (str l).size = l.length := rfl
theorem str_app (a b : List UInt8) : str a ++ str b = str (a ++ b) := by
  apply ByteArray.ext; simp [str]
theorem str_ext (l : List UInt8) (i j : Nat) : (str l).extract i j = str ((l.take j).drop i) := by
  apply ByteArray.ext
  simp [str, List.drop_take]
theorem str_inj {a b : List UInt8} : str a = str b ↔ a = b := ⟨fun h => congrArg (fun x : ByteArray => x.data.toList) h, fun h => by rw [h]⟩
theorem str_empty : ByteArray.empty = str [] := rfl
theorem getD_some {l : List UInt8} {i : Nat} {x : UInt8} (h : l[i]? = some x) : l.getD i 0 = x := by rw [List.getD_eq_getElem?_getD, h]; rfl
theorem beq_str (a b : List UInt8) : ((str a).toList == (str b).toList) = decide (a = b) := by
  rw [str_t, str_t]
  by_cases h : a = b <;> simp [h]
theorem u8_eq (x c : UInt8) : (((x.toNat : Nat) : Int) == ((c.toNat : Nat) : Int)) = decide (x = c) := by
  by_cases h : x = c
  · subst h; simp
  · have : ¬ (x.toNat : Int) = c.toNat := fun e => h (UInt8.toNat_inj.1 (by omega))
    simp [h, this]
/-- A separator, and what is on its two sides. -/
theorem sep_inj {c : UInt8} : ∀ {a b x y : List UInt8}, c ∉ a → c ∉ b → a ++ c :: x = b ++ c :: y → a = b ∧ x = y
  | [], [], _, _, _, _, h => by simpa using h
  | [], z :: b, _, _, _, hb, h => by
    simp only [List.nil_append, List.cons_append, List.cons.injEq] at h
    exact absurd (by rw [h.1]; exact List.mem_cons_self ..) hb
  | z :: a, [], _, _, ha, _, h => by
    simp only [List.nil_append, List.cons_append, List.cons.injEq] at h
    exact absurd (by rw [← h.1]; exact List.mem_cons_self ..) ha
  | z :: a, w :: b, x, y, ha, hb, h => by
    simp only [List.cons_append, List.cons.injEq] at h
    simp only [List.mem_cons, not_or] at ha hb
    obtain ⟨h1, h2⟩ := sep_inj ha.2 hb.2 h.2
    exact ⟨by rw [h.1, h1], h2⟩
/-- Every byte passes a test. -/
theorem all_loop {α : Type} (l : List α) (p : α → Prop) [DecidablePred p] {step : Int → Option (Lp Int (Fl Bool Unit))} (hl : l.length ≤ 4294967296) (b : Bool)
    (h1 : ∀ (i : Nat) x, l[i]? = some x → p x → step (i : Int) = some (.nx (w64 ((i : Int) + 1)))) (h2 : ∀ (i : Nat) x, l[i]? = some x → ¬ p x → step (i : Int) = some (.dn (.ret b)))
    (h3 : step (l.length : Int) = some (.dn (.go ()))) : iter step (0 : Int) = if (∀ x ∈ l, p x) then some (.go ()) else some (.ret b) := by
  have h : ∀ k i : Nat, k + i = l.length → (∀ x ∈ l.take i, p x) → iter step (i : Int) = if (∀ x ∈ l, p x) then some (.go ()) else some (.ret b) := by
    intro k
    induction k with
    | zero =>
      intro i hi hp
      have e : i = l.length := by omega
      subst e
      rw [List.take_length] at hp
      rw [iter_dn h3, if_pos hp]
    | succ k ih =>
      intro i hi hp
      obtain ⟨x, hx⟩ := get_ex (l := l) (i := i) (by omega)
      by_cases hpx : p x
      · rw [iter_nx (h1 i x hx hpx), w64_succ (by omega)]
        refine ih (i + 1) (by omega) fun y hy => ?_
        rw [take_succ hx] at hy
        rcases List.mem_append.1 hy with hy | hy
        · exact hp y hy
        · simp at hy; subst hy; exact hpx
      · rw [iter_dn (h2 i x hx hpx), if_neg (fun h => hpx (h x (List.mem_of_getElem? hx)))]
  exact h l.length 0 (by omega) (by simp)
/-- Numbers. -/
def num (n : Nat) : List UInt8 := Lib.decDigits n
theorem num_dig : ∀ (n : Nat), ∀ b ∈ num n, 48 ≤ b.toNat ∧ b.toNat ≤ 57 := by
  intro n
  induction n using Nat.strongRecOn with
  | _ n ih =>
    intro b hb
    unfold num at hb ih
    rw [Lib.decDigits] at hb
    split at hb
    · simp only [List.mem_singleton] at hb
      subst hb
      rw [UInt8.toNat_ofNat']; omega
    · rcases List.mem_append.1 hb with hb | hb
      · exact ih (n / 10) (by omega) b hb
      · simp only [List.mem_singleton] at hb
        subst hb
        rw [UInt8.toNat_ofNat']; omega
theorem num_len {n : Nat} (h : n < 1000000) : 1 ≤ (num n).length ∧ (num n).length ≤ 6 := by
  unfold num
  rw [Lib.decDigits_length]
  have h1 : ∀ n : Nat, n < 10 → Lib.nDigits n = 1 := fun n h => Lib.nDigits_small h
  have h2 : ∀ n k : Nat, ¬ n < 10 → Lib.nDigits (n / 10) ≤ k → Lib.nDigits n ≤ k + 1 := fun n k h hk => by rw [Lib.nDigits_big h]; omega
  have key : ∀ (k n : Nat), n < 10 ^ (k + 1) → Lib.nDigits n ≤ k + 1 := by
    intro k
    induction k with
    | zero => intro n h; rw [h1 n (by simpa using h)]; omega
    | succ k ih =>
      intro n h
      by_cases h0 : n < 10
      · rw [h1 n h0]; omega
      · exact h2 n _ h0 (ih (n / 10) (by rw [Nat.pow_succ] at h; omega))
  exact ⟨Lib.nDigits_pos n, key 5 n (by simpa using h)⟩
theorem num_no {c : UInt8} (hc : c.toNat < 48 ∨ 57 < c.toNat) (n : Nat) : c ∉ num n := fun h => by
  have := num_dig n c h
  omega
theorem dd_big {u : Nat} (h : ¬ u < 10) : Lib.decDigits u = Lib.decDigits (u / 10) ++ [UInt8.ofNat (48 + u % 10)] := by
  rw [Lib.decDigits, dif_neg h]
theorem num_inj : ∀ {a b : Nat}, num a = num b → a = b := by
  intro a
  induction a using Nat.strongRecOn with
  | _ a ih =>
    intro b h
    unfold num at h ih
    have hl := congrArg List.length h
    rw [Lib.decDigits_length, Lib.decDigits_length] at hl
    by_cases ha : a < 10
    · by_cases hb : b < 10
      · rw [Lib.decDigits_one ha, Lib.decDigits_one hb] at h
        simp only [List.cons.injEq, and_true] at h
        have := congrArg UInt8.toNat h
        rw [UInt8.toNat_ofNat', UInt8.toNat_ofNat'] at this; omega
      · rw [Lib.nDigits_small ha, Lib.nDigits_big hb] at hl
        have := Lib.nDigits_pos (b / 10); omega
    · by_cases hb : b < 10
      · rw [Lib.nDigits_small hb, Lib.nDigits_big ha] at hl
        have := Lib.nDigits_pos (a / 10); omega
      · rw [dd_big ha, dd_big hb] at h
        rw [Lib.nDigits_big ha, Lib.nDigits_big hb] at hl
        obtain ⟨h1, h2⟩ := List.append_inj h (by rw [Lib.decDigits_length, Lib.decDigits_length]; omega)
        have h3 := ih (a / 10) (by omega) h1
        simp only [List.cons.injEq, and_true] at h2
        have := congrArg UInt8.toNat h2
        rw [UInt8.toNat_ofNat', UInt8.toNat_ofNat'] at this; omega
theorem itoa_num {n : Int} (h0 : 0 ≤ n) (h1 : n < 1000000) : strconv_Itoa n = some (str (num n.toNat)) := by
  unfold strconv_Itoa itoaM
  rw [if_pos (by omega)]
  unfold Lib.itoa
  rw [if_neg (by omega)]
  rfl
theorem dig_ext {n : Int} (h0 : 0 ≤ n) (h1 : n < 10) : (str [48, 49, 50, 51, 52, 53, 54, 55, 56, 57]).extract n.toNat (w64 (n + 1)).toNat = str [UInt8.ofNat (48 + n.toNat)] := by
  rw [w64_id (by omega)]
  have : n = 0 ∨ n = 1 ∨ n = 2 ∨ n = 3 ∨ n = 4 ∨ n = 5 ∨ n = 6 ∨ n = 7 ∨ n = 8 ∨ n = 9 := by omega
  rcases this with rfl | rfl | rfl | rfl | rfl | rfl | rfl | rfl | rfl | rfl <;> rw [str_ext] <;> rfl
theorem lnum_k : ∀ (d : Nat) (k : Nat) (n : Int), 0 ≤ n → n < 10 ^ (d + 1) → d ≤ 8 → d < k → s_l1Num_k k n = some (str (num n.toNat))
  | d, k, n, h0, h1, hd, hk => by
    obtain ⟨k, rfl⟩ : ∃ j, k = j + 1 := ⟨k - 1, by omega⟩
    have hb : n < 1000000000 := by
      have h9 : (10 : Nat) ^ (d + 1) ≤ 10 ^ 9 := Nat.pow_le_pow_right (by decide) (by omega)
      have h10 : ((10 ^ (d + 1) : Nat) : Int) = (10 : Int) ^ (d + 1) := by simp
      omega
    show s_l1Num_F (s_l1Num_k k) n = _
    unfold s_l1Num_F
    by_cases hn : n < 10
    · have e2 : decide (n < 0) = false := decide_eq_false (by omega)
      simp only [e2, hn, decide_true, Bool.false_eq_true, if_false, if_true]
      rw [chk_of (by rw [w64_id (by omega)]; exact ⟨h0, by omega, by show n + 1 ≤ 10; omega⟩), Option.bind_some, dig_ext h0 hn]
      unfold num
      rw [Lib.decDigits_one (by omega)]
    · match d, h1, hd, hk with
      | 0, h1, _, _ => simp at h1; omega
      | d + 1, h1, hd, hk =>
        have e2 : decide (n < 0) = false := decide_eq_false (by omega)
        have e3 : decide (n < 10) = false := decide_eq_false hn
        have et : n.tdiv 10 = n / 10 := Int.tdiv_eq_ediv_of_nonneg h0
        have em : n.tmod 10 = n % 10 := Int.tmod_eq_emod_of_nonneg h0
        have ew : w64 (n.tdiv 10) = n / 10 := by rw [et, w64_id (by omega)]
        have hr := lnum_k d k (n / 10) (by omega) (by rw [Int.pow_succ] at h1; omega) (by omega) (by omega)
        have hm0 : 0 ≤ n % 10 := by omega
        have hm1 : n % 10 < 10 := by omega
        simp only [e2, e3, Bool.false_eq_true, if_false, ew, hr, em]
        have c10 : chk ((10 : Int) ≠ 0) = some () := chk_of (by decide)
        simp only [c10, Option.bind_some]
        rw [chk_of (by rw [w64_id (by omega)]; exact ⟨hm0, by omega, by show n % 10 + 1 ≤ 10; omega⟩), Option.bind_some, dig_ext hm0 hm1]
        have hlen : (num (n / 10).toNat).length ≤ 100 := by
          unfold num
          rw [Lib.decDigits_length]
          have key : ∀ (k n : Nat), n < 10 ^ (k + 1) → Lib.nDigits n ≤ k + 1 := by
            intro k
            induction k with
            | zero => intro n h; rw [Lib.nDigits_small (by simpa using h)]; omega
            | succ k ih =>
              intro n h
              by_cases h0 : n < 10
              · rw [Lib.nDigits_small h0]; omega
              · rw [Lib.nDigits_big h0]
                have := ih (n / 10) (by rw [Nat.pow_succ] at h; omega)
                omega
          have := key 9 (n / 10).toNat (by omega)
          omega
        rw [chk_of (by rw [str_s, str_s]; simp; omega), Option.bind_some, str_app]
        unfold num
        rw [dd_big (u := n.toNat) (by omega)]
        have e5 : (n / 10).toNat = n.toNat / 10 := by omega
        have e6 : (n % 10).toNat = n.toNat % 10 := by omega
        rw [e5, e6]
theorem lnum_ok {n : Int} (h0 : 0 ≤ n) (h1 : n < 1000000) : s_l1Num n = some (str (num n.toNat)) := by
  unfold s_l1Num
  exact lnum_k 5 4294967296 n h0 (by simpa using h1) (by omega) (by omega)
/-- The parts between bytes. -/
theorem lsplit_ok (l : List UInt8) (b : UInt8) (hl : l.length ≤ 1000000) : s_l1Split (str l) b = some ((spl1 b l).map str) := by
  have h : Tot (iter (s_l1Split_L1 (str l) b) ((0 : Int), (0 : Int), ([] : List ByteArray))) fun r => ∃ (v : Nat) (ps : List (List UInt8)), r = ((v : Int), ps.map str) ∧ v ≤ l.length ∧ ps.length ≤ l.length ∧ spl1 b l = ps ++ [l.drop v] := by
    refine Tot.iter (fun k a => ∃ (v i : Nat) (ps : List (List UInt8)), k + i = l.length ∧ a = ((v : Int), (i : Int), ps.map str) ∧ v ≤ i ∧ ps.length ≤ i ∧ b ∉ (l.take i).drop v ∧ spl1 b l = ps ++ spl1 b (l.drop v)) (n := l.length) ⟨0, 0, [], rfl, rfl, by omega, by simp, by simp, by simp⟩ ?_
    rintro k _ ⟨v, i, ps, hk, rfl, hvi, hps, hb, hs⟩
    unfold s_l1Split_L1
    dsimp only
    rw [str_s]
    refine .iteP (fun hlt => ?_) (fun hge => ?_)
    · have hlt' : i < l.length := by omega
      obtain ⟨x, hx⟩ := get_ex hlt'
      have hd : l.drop v = (l.take i).drop v ++ x :: l.drop (i + 1) := by
        have e1 : l.drop i = x :: l.drop (i + 1) := by
          rw [List.drop_eq_getElem_cons hlt']
          congr 1
          exact (List.getElem?_eq_some_iff.1 hx).2
        rw [← e1, ← List.drop_append_of_le_length (by simp; omega), List.take_append_drop]
      have ex : (str l).data.toList.getD (i : Int).toNat 0 = x := by
        rw [str_l, show (i : Int).toNat = i by omega]; exact getD_some hx
      rw [chk_of ⟨by omega, hlt⟩, Option.bind_some, ex, u8_eq]
      refine .call (P := fun r => ∃ (v' : Nat) (ps' : List (List UInt8)), r = ((v' : Int), ps'.map str) ∧ v' ≤ i + 1 ∧ ps'.length ≤ i + 1 ∧ b ∉ (l.take (i + 1)).drop v' ∧ spl1 b l = ps' ++ spl1 b (l.drop v')) (.iteP (fun e => ?_) (fun e => .ok ⟨v, ps, rfl, by omega, by omega, ?_, hs⟩)) ?_
      · subst e
        have ee : (str l).extract (v : Int).toNat (i : Int).toNat = str ((l.take i).drop v) := by
          rw [str_ext]; simp
        rw [ee]
        refine .chk ⟨by omega, by omega, by omega⟩ (.chk (by simp; omega) (.ok ⟨i + 1, ps ++ [(l.take i).drop v], ?_, by omega, by simp; omega, by simp, ?_⟩))
        · rw [w64_succ (by omega)]; simp
        · rw [hs, hd, spl1_app hb, List.append_assoc]; rfl
      · rw [take_succ hx, List.drop_append_of_le_length (by simp; omega)]
        simp only [List.mem_append, List.mem_singleton, not_or]
        exact ⟨hb, fun h => e h.symm⟩
      · rintro _ ⟨v', ps', rfl, q1, q2, q3, q4⟩
        exact .nx ⟨k - 1, by omega, v', i + 1, ps', by omega, by rw [w64_succ (by omega)], q1, q2, q3, q4⟩
    · have e : i = l.length := by omega
      subst e
      rw [List.take_length] at hb
      rw [spl1_self hb] at hs
      exact .dn ⟨v, ps, rfl, hvi, hps, hs⟩
  obtain ⟨_, hr, v, ps, rfl, h1, h2, h3⟩ := h
  unfold s_l1Split
  rw [hr]
  simp only [Option.bind_some]
  rw [str_s, chk_of ⟨by omega, by omega⟩, Option.bind_some, chk_of (by simp; omega), Option.bind_some, h3, str_ext]
  simp
/-! Calendars: days of the week; what is valid. -/
def bitW (w i : Int) : Bool := ((IntKind.i64.wrap ((BitVec.ofInt (IntKind.i64).bits (w.fdiv (2 ^ (min (i : Int).toNat (IntKind.i64).bits))) &&& BitVec.ofInt (IntKind.i64).bits 1).toNat : Int)) == 1)
def byW (w d : Int) : Bool := bitW w (d.tmod 7)
theorem u64_id {x : Int} (h0 : 0 ≤ x) (h1 : x ≤ 1000) : IntKind.u64.wrap x = x := by
  rw [IntKind.wrap_u64]; omega
theorem tmod7 {d : Int} (h : 0 ≤ d) : 0 ≤ d.tmod 7 ∧ d.tmod 7 < 7 := tmod_rng h (by omega)
theorem byWeekday_eq (w : Int) {d : Int} (h : 0 ≤ d) : i_byWeekday w d = some (byW w d) := by
  unfold i_byWeekday
  rw [chk_of (by decide), Option.bind_some, chk_of (tmod7 h).1, Option.bind_some]
  rfl
theorem lin_eq (x a b : Int) : s_l1In x a b = some (decide (a ≤ x ∧ x ≤ b)) := by
  unfold s_l1In
  by_cases h1 : a ≤ x <;> by_cases h2 : x ≤ b <;> simp [h1, h2]
theorem within_eq (x a b : Int) : i_within x a b = some (decide (a ≤ x ∧ x ≤ b)) := lin_eq x a b
theorem isDay_eq (x : Int) : i_isDay x = some (decide (0 ≤ x ∧ x ≤ 3650)) := by unfold i_isDay; rw [within_eq]; rfl
theorem regular_eq (c : Calendar) {d : Int} (h : 0 ≤ d) : s_l3Regular c d = some (decide (c.From ≤ d ∧ d ≤ c.To) && byW c.Weekdays d) := by
  unfold s_l3Regular
  rw [lin_eq, Option.bind_some]
  by_cases hr : c.From ≤ d ∧ d ≤ c.To
  · have h7 := tmod7 h
    rw [decide_eq_true hr]
    simp only [if_true, Bool.true_and]
    rw [chk_of (by decide), Option.bind_some, u64_id h7.1 (by omega), chk_of h7.1]
    rfl
  · rw [decide_eq_false hr]; rfl
def Inc (lo hi : Int) (l : List Int) : Prop := l.Pairwise (· < ·) ∧ ∀ x ∈ l, lo ≤ x ∧ x ≤ hi
noncomputable instance (lo hi : Int) (l : List Int) : Decidable (Inc lo hi l) := Classical.propDecidable _
theorem inc_take {lo hi : Int} {l : List Int} (h : Inc lo hi l) (i : Nat) : Inc lo hi (l.take i) := ⟨List.Pairwise.sublist (List.take_sublist i l) h.1, fun x hx => h.2 x (List.mem_of_mem_take hx)⟩
theorem inc_succ {lo hi : Int} {l : List Int} {i : Nat} {x : Int} (hx : l[i]? = some x) : Inc lo hi (l.take (i + 1)) ↔ Inc lo hi (l.take i) ∧ lo ≤ x ∧ x ≤ hi ∧ ∀ y ∈ l.take i, y < x := by
  unfold Inc
  rw [take_succ hx, List.pairwise_append]
  constructor
  · rintro ⟨⟨h1, _, h2⟩, h3⟩
    exact ⟨⟨h1, fun y hy => h3 y (List.mem_append_left _ hy)⟩, (h3 x (by simp)).1, (h3 x (by simp)).2, fun y hy => h2 y hy x (by simp)⟩
  · rintro ⟨⟨h1, h2⟩, h3, h4, h5⟩
    refine ⟨⟨h1, by simp, fun y hy z hz => by simp at hz; subst hz; exact h5 y hy⟩, fun y hy => ?_⟩
    rcases List.mem_append.1 hy with hy | hy
    · exact h2 y hy
    · simp at hy; subst hy; exact ⟨h3, h4⟩
theorem areDays_eq (l : List Int) {lo hi : Int} (hl : l.length ≤ 1000000) (h0 : 0 ≤ lo) (h1 : lo ≤ 4000) : i_areDays l lo hi = some (decide (Inc lo hi l)) := by
  have h : Tot (iter (i_areDays_L1 l hi) (w64 (lo - 1), (0 : Int))) fun r => (r = .go () ∧ Inc lo hi l) ∨ (r = .ret false ∧ ¬ Inc lo hi l) := by
    rw [w64_id (by omega)]
    refine Tot.iter (fun k a => ∃ i : Nat, k + i = l.length ∧ a.2 = (i : Int) ∧ Inc lo hi (l.take i) ∧ (∀ y ∈ l.take i, y ≤ a.1) ∧ lo - 1 ≤ a.1 ∧ (a.1 = lo - 1 ∨ a.1 ∈ l.take i)) (n := l.length) ⟨0, rfl, rfl, by unfold Inc; simp, by simp, by show lo - 1 ≤ lo - 1; omega, .inl rfl⟩ ?_
    rintro k ⟨v, _⟩ ⟨i, hk, rfl, hi1, hmax, hlo, hv⟩
    dsimp only at hmax hlo hv
    unfold i_areDays_L1
    dsimp only
    refine .iteP (fun hlt => ?_) (fun hge => .dn (.inl ⟨rfl, ?_⟩))
    · obtain ⟨x, hx⟩ := get_ex (l := l) (i := i) (by omega)
      refine .eq (ixs hx) ?_
      have hs := inc_succ (lo := lo) (hi := hi) hx
      refine .call (P := fun b => b = true ↔ ¬ Inc lo hi (l.take (i + 1))) (.iteP (fun h => .ok ?_) (fun h => .ok ?_)) fun b hb => .ite (fun h => .dn (.inr ⟨rfl, fun hh => hb.1 h (inc_take hh _)⟩)) (fun h => ?_)
      · simp only [true_iff]
        intro hh
        have h5 := hs.1 hh
        rcases hv with rfl | hv
        · omega
        · have := h5.2.2.2 _ hv; omega
      · rw [hs, decide_eq_true_eq]
        constructor
        · intro h2 hh; omega
        · intro hh
          apply Classical.byContradiction
          intro h2
          exact hh ⟨hi1, by omega, by omega, fun y hy => by have := hmax y hy; omega⟩
      · have hin : Inc lo hi (l.take (i + 1)) := Classical.byContradiction fun hn => by have := hb.2 hn; rw [h] at this; cases this
        have h5 := hs.1 hin
        refine .nx ⟨k - 1, by omega, i + 1, by omega, w64_succ (by omega), hin, fun y hy => ?_, by show lo - 1 ≤ x; omega, .inr (by rw [take_succ hx]; simp)⟩
        rw [take_succ hx] at hy
        rcases List.mem_append.1 hy with hy | hy
        · have := h5.2.2.2 y hy; show y ≤ x; omega
        · simp at hy; subst hy; exact Int.le_refl _
    · have e : i = l.length := by omega
      subst e
      rwa [List.take_length] at hi1
  unfold i_areDays
  obtain ⟨r, hr, ⟨rfl, hi⟩ | ⟨rfl, hi⟩⟩ := h
  · rw [hr, decide_eq_true hi]; rfl
  · rw [hr, decide_eq_false hi]; rfl
theorem rising_eq (l : List Int) (lo hi : Int) (hl : l.length ≤ 1000000) : s_l1Rising l lo hi = some (decide (Inc lo hi l)) := by
  have h : Tot (iter (s_l1Rising_L1 l lo hi) (0 : Int)) fun r => (r = .go () ∧ Inc lo hi l) ∨ (r = .ret false ∧ ¬ Inc lo hi l) := by
    refine Tot.iter (fun k a => ∃ i : Nat, k + i = l.length ∧ a = (i : Int) ∧ Inc lo hi (l.take i)) (n := l.length) ⟨0, rfl, rfl, by unfold Inc; simp⟩ ?_
    rintro k _ ⟨i, hk, rfl, hi1⟩
    unfold s_l1Rising_L1
    refine .iteP (fun hlt => ?_) (fun hge => .dn (.inl ⟨rfl, ?_⟩))
    · obtain ⟨x, hx⟩ := get_ex (l := l) (i := i) (by omega)
      refine .eq (ixs hx) (.eq (lin_eq x lo hi) ?_)
      have hs := inc_succ (lo := lo) (hi := hi) hx
      refine .call (P := fun b => b = true ↔ ¬ Inc lo hi (l.take (i + 1))) (.iteN (fun h => .ok ?_) (fun h => .iteP (fun h2 => ?_) (fun h2 => .ok ?_))) fun b hb => .ite (fun h => .dn (.inr ⟨rfl, fun hh => hb.1 h (inc_take hh _)⟩)) (fun h => .nx ⟨k - 1, by omega, i + 1, by omega, w64_succ (by omega), Classical.byContradiction fun hn => by have := hb.2 hn; rw [h] at this; cases this⟩)
      · simp only [true_iff]
        intro hh
        have h5 := hs.1 hh
        exact h ⟨h5.2.1, h5.2.2.1⟩
      · obtain ⟨y, hy⟩ := get_ex (l := l) (i := i - 1) (by omega)
        have ew : w64 ((i : Int) - 1) = ((i - 1 : Nat) : Int) := by rw [w64_id (by omega)]; omega
        rw [ew]
        refine .eq (ixs hy) (.eq (ixs hx) (.ok ?_))
        have hym : y ∈ l.take i := by
          have : (l.take i)[i - 1]? = some y := by rw [List.getElem?_take]; simp [hy]; omega
          exact List.mem_of_getElem? this
        have hyl : ∀ z ∈ l.take i, z ≤ y := fun z hz => by
          obtain ⟨j, hj⟩ := List.mem_iff_getElem?.1 hz
          rw [List.getElem?_take] at hj
          split at hj
          · rename_i hji
            by_cases e : j = i - 1
            · subst e; rw [hy] at hj; cases hj; exact Int.le_refl _
            · have hp := hi1.1
              have h1 : (l.take i)[j]? = some z := by rw [List.getElem?_take, if_pos hji]; exact hj
              have h2 : (l.take i)[i - 1]? = some y := by rw [List.getElem?_take, if_pos (by omega)]; exact hy
              obtain ⟨b1, e1⟩ := List.getElem?_eq_some_iff.1 h1
              obtain ⟨b2, e2⟩ := List.getElem?_eq_some_iff.1 h2
              have := List.pairwise_iff_getElem.1 hp j (i - 1) b1 b2 (by omega)
              omega
          · cases hj
        rw [hs, decide_eq_true_eq]
        constructor
        · intro h3 hh
          have := hh.2.2.2 y hym; omega
        · intro hh
          apply Classical.byContradiction
          intro h3
          exact hh ⟨hi1, h.1, h.2, fun z hz => by have := hyl z hz; omega⟩
      · have : i = 0 := by omega
        subst this
        simp only [Bool.false_eq_true, false_iff, Classical.not_not]
        rw [hs]
        exact ⟨hi1, h.1, h.2, by simp⟩
    · have e : i = l.length := by omega
      subst e
      rwa [List.take_length] at hi1
  unfold s_l1Rising
  obtain ⟨r, hr, ⟨rfl, hi⟩ | ⟨rfl, hi⟩⟩ := h
  · rw [hr, decide_eq_true hi]; rfl
  · rw [hr, decide_eq_false hi]; rfl
def ValidC (c : Calendar) : Prop := (0 ≤ c.From ∧ c.From ≤ c.To ∧ c.To ≤ 3650 ∧ 0 ≤ c.Weekdays ∧ c.Weekdays ≤ 127) ∧ (c.Added.length ≤ 8 ∧ c.Removed.length ≤ 8 ∧ Inc c.From c.To c.Added ∧ Inc c.From c.To c.Removed) ∧ (∀ a ∈ c.Added, byW c.Weekdays a = false) ∧ ∀ r ∈ c.Removed, byW c.Weekdays r = true
noncomputable instance (c : Calendar) : Decidable (ValidC c) := Classical.propDecidable _
def CB (c : Calendar) : Prop := c.Added.length ≤ 1000000 ∧ c.Removed.length ≤ 1000000
theorem dec_of {α : Prop} [Decidable α] {m : Option Bool} (h : Tot m fun b => (b = true ↔ α)) : m = some (decide α) := by
  obtain ⟨b, rfl, hb⟩ := h
  cases b
  · rw [decide_eq_false (fun h => by have := hb.2 h; cases this)]
  · rw [decide_eq_true (hb.1 rfl)]
theorem ivalid_eq (c : Calendar) (hb : CB c) : i_IsValidCalendar c = some (decide (ValidC c)) := by
  refine dec_of ?_
  have hb1 := hb.1; have hb2 := hb.2
  unfold i_IsValidCalendar
  rw [isDay_eq, isDay_eq, within_eq]
  simp only [Option.bind_some]
  refine .call (P := fun v => v = true ↔ ¬ (0 ≤ c.From ∧ c.From ≤ c.To ∧ c.To ≤ 3650 ∧ 0 ≤ c.Weekdays ∧ c.Weekdays ≤ 127)) (.iteN (fun h => .ok (by simp only [true_iff]; omega)) (fun h => .iteN (fun h2 => .ok (by simp only [true_iff]; omega)) (fun h2 => .iteP (fun h3 => .ok (by simp only [true_iff]; omega)) (fun h3 => .ok ?_)))) fun v hv => .ite (fun h => .ok ?_) (fun h => ?_)
  · simp only [Bool.not_eq_true', decide_eq_false_iff_not]
    constructor
    · intro h4 hh; exact h4 ⟨hh.2.2.2.1, hh.2.2.2.2⟩
    · intro hh h4; exact hh ⟨h.1, by omega, h2.2, h4.1, h4.2⟩
  · simp only [Bool.false_eq_true, false_iff]
    exact fun hh => hv.1 h hh.1
  have c1 : 0 ≤ c.From ∧ c.From ≤ c.To ∧ c.To ≤ 3650 ∧ 0 ≤ c.Weekdays ∧ c.Weekdays ≤ 127 := Classical.byContradiction fun hn => by have := hv.2 hn; rw [h] at this; cases this
  rw [areDays_eq c.Added hb1 c1.1 (by omega), areDays_eq c.Removed hb2 c1.1 (by omega)]
  simp only [Option.bind_some]
  refine .call (P := fun v => v = true ↔ ¬ (c.Added.length ≤ 8 ∧ c.Removed.length ≤ 8 ∧ Inc c.From c.To c.Added ∧ Inc c.From c.To c.Removed)) (.iteP (fun h => .ok (by simp only [true_iff]; omega)) (fun h => .iteP (fun h2 => .ok (by simp only [true_iff]; omega)) (fun h2 => .iteN (fun h3 => .ok (by simp only [true_iff]; exact fun hh => h3 hh.2.2.1)) (fun h3 => .ok ?_)))) fun v hv => .ite (fun h => .ok ?_) (fun h => ?_)
  · simp only [Bool.not_eq_true', decide_eq_false_iff_not]
    constructor
    · intro h4 hh; exact h4 hh.2.2.2
    · intro hh h4; exact hh ⟨by omega, by omega, h3, h4⟩
  · simp only [Bool.false_eq_true, false_iff]
    exact fun hh => hv.1 h hh.2.1
  have c2 : (c.Added.length ≤ 8 ∧ c.Removed.length ≤ 8 ∧ Inc c.From c.To c.Added ∧ Inc c.From c.To c.Removed) := Classical.byContradiction fun hn => by have := hv.2 hn; rw [h] at this; cases this
  have l1 := all_loop (step := i_IsValidCalendar_L1 c) c.Added (fun a => byW c.Weekdays a = false) (by omega) false
    (fun i x hx hp => by
      unfold i_IsValidCalendar_L1
      have := c2.2.2.1.2 x (List.mem_of_getElem? hx)
      rw [if_pos (by simpa using get_lt hx), ixs hx, Option.bind_some, byWeekday_eq _ (by omega), Option.bind_some, hp]; rfl)
    (fun i x hx hp => by
      unfold i_IsValidCalendar_L1
      have := c2.2.2.1.2 x (List.mem_of_getElem? hx)
      rw [if_pos (by simpa using get_lt hx), ixs hx, Option.bind_some, byWeekday_eq _ (by omega), Option.bind_some, show byW c.Weekdays x = true by simpa using hp]; rfl)
    (by unfold i_IsValidCalendar_L1; simp)
  have l2 := all_loop (step := i_IsValidCalendar_L2 c) c.Removed (fun a => byW c.Weekdays a = true) (by omega) false
    (fun i x hx hp => by
      unfold i_IsValidCalendar_L2
      have := c2.2.2.2.2 x (List.mem_of_getElem? hx)
      rw [if_pos (by simpa using get_lt hx), ixs hx, Option.bind_some, byWeekday_eq _ (by omega), Option.bind_some, hp]; rfl)
    (fun i x hx hp => by
      unfold i_IsValidCalendar_L2
      have := c2.2.2.2.2 x (List.mem_of_getElem? hx)
      rw [if_pos (by simpa using get_lt hx), ixs hx, Option.bind_some, byWeekday_eq _ (by omega), Option.bind_some, show byW c.Weekdays x = false by simpa using hp]; rfl)
    (by unfold i_IsValidCalendar_L2; simp)
  rw [l1, l2]
  by_cases q1 : ∀ a ∈ c.Added, byW c.Weekdays a = false
  · by_cases q2 : ∀ a ∈ c.Removed, byW c.Weekdays a = true
    · rw [if_pos q1, if_pos q2]
      exact .ok ⟨fun _ => ⟨c1, c2, q1, q2⟩, fun _ => rfl⟩
    · rw [if_pos q1, if_neg q2]
      exact .ok ⟨fun h => (by cases h), fun h => absurd h.2.2.2 q2⟩
  · rw [if_neg q1]
    exact .ok ⟨fun h => (by cases h), fun h => absurd h.2.2.1 q1⟩
theorem lgood_eq (c : Calendar) (hb : CB c) : s_l3Good c = some (decide (ValidC c)) := by
  refine dec_of ?_
  have hb1 := hb.1; have hb2 := hb.2
  unfold s_l3Good
  rw [lin_eq, lin_eq]
  simp only [Option.bind_some]
  refine .call (P := fun v => v = true ↔ ¬ ((0 ≤ c.From ∧ c.From ≤ c.To ∧ c.To ≤ 3650 ∧ 0 ≤ c.Weekdays ∧ c.Weekdays ≤ 127) ∧ c.Added.length ≤ 8 ∧ c.Removed.length ≤ 8)) (.iteN (fun h => .ok (by simp only [true_iff]; omega)) (fun h => .iteP (fun h2 => .ok (by simp only [true_iff]; omega)) (fun h2 => .iteN (fun h3 => .ok (by simp only [true_iff]; omega)) (fun h3 => .iteP (fun h4 => .ok (by simp only [true_iff]; omega)) (fun h4 => .ok ?_))))) fun v hv => .ite (fun h => .ok ?_) (fun h => ?_)
  · simp only [decide_eq_true_eq]
    omega
  · simp only [Bool.false_eq_true, false_iff]
    exact fun hh => hv.1 h ⟨hh.1, hh.2.1.1, hh.2.1.2.1⟩
  obtain ⟨c1, a1, a2⟩ : (0 ≤ c.From ∧ c.From ≤ c.To ∧ c.To ≤ 3650 ∧ 0 ≤ c.Weekdays ∧ c.Weekdays ≤ 127) ∧ c.Added.length ≤ 8 ∧ c.Removed.length ≤ 8 := Classical.byContradiction fun hn => by have := hv.2 hn; rw [h] at this; cases this
  rw [rising_eq _ _ _ hb1, rising_eq _ _ _ hb2]
  simp only [Option.bind_some]
  refine .call (P := fun v => v = true ↔ ¬ (Inc c.From c.To c.Added ∧ Inc c.From c.To c.Removed)) (.iteN (fun h3 => .ok (by simp only [true_iff]; exact fun hh => h3 hh.1)) (fun h3 => .ok ?_)) fun v hv => .ite (fun h => .ok ?_) (fun h => ?_)
  · simp only [Bool.not_eq_true', decide_eq_false_iff_not]
    constructor
    · intro h4 hh; exact h4 hh.2
    · intro hh h4; exact hh ⟨h3, h4⟩
  · simp only [Bool.false_eq_true, false_iff]
    exact fun hh => hv.1 h ⟨hh.2.1.2.2.1, hh.2.1.2.2.2⟩
  have c2 : (Inc c.From c.To c.Added ∧ Inc c.From c.To c.Removed) := Classical.byContradiction fun hn => by have := hv.2 hn; rw [h] at this; cases this
  have rg : ∀ {x : Int}, c.From ≤ x ∧ x ≤ c.To → s_l3Regular c x = some (byW c.Weekdays x) := fun {x} hx => by
    rw [regular_eq c (by omega), decide_eq_true hx]; rfl
  have l1 := all_loop (step := s_l3Good_L1 c) c.Added (fun a => byW c.Weekdays a = false) (by omega) false
    (fun i x hx hp => by
      unfold s_l3Good_L1
      have := c2.1.2 x (List.mem_of_getElem? hx)
      rw [if_pos (by simpa using get_lt hx), ixs hx, Option.bind_some, rg this, Option.bind_some, hp]; rfl)
    (fun i x hx hp => by
      unfold s_l3Good_L1
      have := c2.1.2 x (List.mem_of_getElem? hx)
      rw [if_pos (by simpa using get_lt hx), ixs hx, Option.bind_some, rg this, Option.bind_some, show byW c.Weekdays x = true by simpa using hp]; rfl)
    (by unfold s_l3Good_L1; simp)
  have l2 := all_loop (step := s_l3Good_L2 c) c.Removed (fun a => byW c.Weekdays a = true) (by omega) false
    (fun i x hx hp => by
      unfold s_l3Good_L2
      have := c2.2.2 x (List.mem_of_getElem? hx)
      rw [if_pos (by simpa using get_lt hx), ixs hx, Option.bind_some, rg this, Option.bind_some, hp]; rfl)
    (fun i x hx hp => by
      unfold s_l3Good_L2
      have := c2.2.2 x (List.mem_of_getElem? hx)
      rw [if_pos (by simpa using get_lt hx), ixs hx, Option.bind_some, rg this, Option.bind_some, show byW c.Weekdays x = false by simpa using hp]; rfl)
    (by unfold s_l3Good_L2; simp)
  rw [l1, l2]
  by_cases q1 : ∀ a ∈ c.Added, byW c.Weekdays a = false
  · by_cases q2 : ∀ a ∈ c.Removed, byW c.Weekdays a = true
    · rw [if_pos q1, if_pos q2]
      exact .ok ⟨fun _ => ⟨c1, ⟨a1, a2, c2⟩, q1, q2⟩, fun _ => rfl⟩
    · rw [if_pos q1, if_neg q2]
      exact .ok ⟨fun h => (by cases h), fun h => absurd h.2.2.2 q2⟩
  · rw [if_neg q1]
    exact .ok ⟨fun h => (by cases h), fun h => absurd h.2.2.1 q1⟩
/-! Calendars: the text; the implementation's reader. -/
theorem itoa_n {n : Int} (h : 0 ≤ n) : Lib.itoa n = num n.toNat := by
  unfold Lib.itoa; rw [if_neg (by omega)]; rfl
theorem itoa_nat (n : Nat) : Lib.itoa (n : Int) = num n := by rw [itoa_n (by omega)]; rfl
theorem itoa_len {n : Int} (h0 : -1000000 < n) (h1 : n < 1000000) : 1 ≤ (Lib.itoa n).length ∧ (Lib.itoa n).length ≤ 7 := by
  unfold Lib.itoa
  split
  · have := num_len (n := n.natAbs) (by omega)
    unfold num at this; simp; omega
  · have := num_len (n := n.toNat) (by omega)
    unfold num at this; omega
theorem lnumI {n : Int} (h0 : -1000000 < n) (h1 : n < 1000000) : s_l1Num n = some (str (Lib.itoa n)) := by
  by_cases hn : n < 0
  · have e : s_l1Num n = s_l1Num_F (s_l1Num_k 4294967295) n := by
      unfold s_l1Num
      show s_l1Num_k (4294967295 + 1) n = _
      rfl
    rw [e]
    unfold s_l1Num_F
    have ew : w64 (0 - n) = -n := by rw [w64_id (by omega)]; omega
    have hl := num_len (n := (-n).toNat) (by omega)
    simp only [hn, decide_true, if_true, ew]
    rw [lnum_k 5 4294967295 (-n) (by omega) (by simp; omega) (by omega) (by omega), Option.bind_some, chk_of (by rw [str_s, str_s]; simp; omega), Option.bind_some, str_app]
    unfold Lib.itoa
    rw [if_pos hn, show n.natAbs = (-n).toNat by omega]
    rfl
  · rw [lnum_ok (by omega) h1, itoa_n (by omega)]
theorem iItoa {n : Int} (h0 : -1000000 < n) (h1 : n < 1000000) : strconv_Itoa n = some (str (Lib.itoa n)) := by
  unfold strconv_Itoa itoaM
  rw [if_pos (by omega)]
  rfl
def letters : List UInt8 := [109, 116, 119, 116, 102, 115, 115]
def wdc (w : Int) (i : Nat) : UInt8 := if bitW w (i : Int) = true then letters.getD i 0 else 46
def wd (w : Int) : List UInt8 := (List.range 7).map (wdc w)
def day1 (op : UInt8) (d : Int) : List UInt8 := 32 :: op :: Lib.itoa d
def days (op : UInt8) (l : List Int) : List UInt8 := l.flatMap (day1 op)
def txt (c : Calendar) : List UInt8 := Lib.itoa c.From ++ 45 :: (Lib.itoa c.To ++ 32 :: (wd c.Weekdays ++ (days 43 c.Added ++ days 45 c.Removed)))
def InR (l : List Int) : Prop := ∀ x ∈ l, -1000000 < x ∧ x < 1000000
def Bd (c : Calendar) : Prop := (-1000000 < c.From ∧ c.From < 1000000) ∧ (-1000000 < c.To ∧ c.To < 1000000) ∧ InR c.Added ∧ InR c.Removed ∧ c.Added.length ≤ 1000 ∧ c.Removed.length ≤ 1000
theorem days_len (op : UInt8) : ∀ {l : List Int}, InR l → (days op l).length ≤ 9 * l.length
  | [], _ => by simp [days]
  | x :: l, h => by
    have ih := days_len op (l := l) (fun y hy => h y (List.mem_cons_of_mem _ hy))
    have := itoa_len (h x (List.mem_cons_self ..)).1 (h x (List.mem_cons_self ..)).2
    have e : days op (x :: l) = day1 op x ++ days op l := by unfold days; simp
    rw [e, List.length_append]
    unfold day1; simp; omega
theorem days_snoc (op : UInt8) {l : List Int} {i : Nat} {x : Int} (hx : l[i]? = some x) : days op (l.take (i + 1)) = days op (l.take i) ++ day1 op x := by
  rw [take_succ hx]; unfold days; simp
theorem inr_take {l : List Int} (h : InR l) (i : Nat) : InR (l.take i) := fun x hx => h x (List.mem_of_mem_take hx)
theorem wd_succ (w : Int) (i : Nat) : (List.range (i + 1)).map (wdc w) = (List.range i).map (wdc w) ++ [wdc w i] := by
  rw [List.range_succ]; simp
theorem letter_ext {i : Nat} (h : i < 7) : (str letters).extract (i : Int).toNat (w64 ((i : Int) + 1)).toNat = str [letters.getD i 0] := by
  rw [w64_succ (by omega), str_ext, show (i : Int).toNat = i by omega, show (((i + 1 : Nat) : Int)).toNat = i + 1 by omega]
  match i, h with
  | 0, _ => rfl
  | 1, _ => rfl
  | 2, _ => rfl
  | 3, _ => rfl
  | 4, _ => rfl
  | 5, _ => rfl
  | 6, _ => rfl
theorem ltext_ok (c : Calendar) (hb : Bd c) : s_l3Text c = some (str (txt c)) := by
  obtain ⟨⟨f0, f1⟩, ⟨t0, t1⟩, hA, hR, lA, lR⟩ := hb
  have hf := itoa_len f0 f1
  have ht := itoa_len t0 t1
  have dA := days_len 43 hA
  have dR := days_len 45 hR
  unfold s_l3Text
  rw [lnumI f0 f1, Option.bind_some, chk_of (by rw [str_s, str_s]; simp; omega), Option.bind_some, lnumI t0 t1, Option.bind_some, str_app, chk_of (by rw [str_s, str_s]; simp; omega), Option.bind_some, str_app, chk_of (by rw [str_s, str_s]; simp; omega), Option.bind_some, str_app]
  obtain ⟨p, hp⟩ : ∃ p, p = Lib.itoa c.From ++ [45] ++ Lib.itoa c.To ++ [32] := ⟨_, rfl⟩
  have hpl : p.length ≤ 16 := by rw [hp]; simp; omega
  rw [← hp]
  have h1 : iter (s_l3Text_L1 c) (str p, (0 : Int)) = some (str (p ++ wd c.Weekdays)) := by
    refine Tot.val (Tot.iter (fun k a => ∃ i : Nat, k + i = 7 ∧ a = (str (p ++ (List.range i).map (wdc c.Weekdays)), (i : Int))) (n := 7) ⟨0, rfl, by simp⟩ ?_)
    rintro k _ ⟨i, hk, rfl⟩
    unfold s_l3Text_L1
    dsimp only
    refine .iteP (fun hlt => ?_) (fun hge => .dn (by rw [show i = 7 by omega]; rfl))
    rw [u64_id (by omega) (by omega), chk_of (by omega), Option.bind_some]
    refine .call (P := fun r => r = str (p ++ (List.range (i + 1)).map (wdc c.Weekdays))) ?_ fun r hr => .nx ⟨k - 1, by omega, i + 1, by omega, by rw [hr, w64_succ (by omega)]⟩
    have hrl : ((List.range i).map (wdc c.Weekdays)).length = i := by simp
    have hc : wdc c.Weekdays i = if bitW c.Weekdays (i : Int) = true then letters.getD i 0 else 46 := rfl
    rw [wd_succ]
    refine .ite (fun h => ?_) (fun h => ?_)
    · have h' : bitW c.Weekdays (i : Int) = true := h
      rw [if_pos h'] at hc
      have hle := letter_ext (i := i) (by omega)
      unfold letters at hle
      refine .chk (by rw [w64_succ (by omega)]; exact ⟨by omega, by omega, by show ((i + 1 : Nat) : Int) ≤ 7; omega⟩) ?_
      rw [hle]
      refine .chk (by rw [str_s, str_s]; simp; omega) (.ok ?_)
      rw [str_app, hc]; unfold letters; simp
    · have h' : ¬ bitW c.Weekdays (i : Int) = true := by
        intro h2; have h3 : bitW c.Weekdays (i : Int) = false := h
        rw [h3] at h2; cases h2
      rw [if_neg h'] at hc
      refine .chk (by rw [str_s, str_s]; simp; omega) (.ok ?_)
      rw [str_app, hc]; simp
  rw [h1, Option.bind_some]
  have hwl : (wd c.Weekdays).length = 7 := by unfold wd; simp
  obtain ⟨q, hq⟩ : ∃ q, q = p ++ wd c.Weekdays := ⟨_, rfl⟩
  have hql : q.length ≤ 23 := by rw [hq]; simp; omega
  rw [← hq]
  have h2 : iter (s_l3Text_L2 c) (str q, (0 : Int)) = some (str (q ++ days 43 c.Added)) := by
    refine Tot.val (Tot.iter (fun k a => ∃ i : Nat, k + i = c.Added.length ∧ a = (str (q ++ days 43 (c.Added.take i)), (i : Int))) (n := c.Added.length) ⟨0, rfl, by simp [days]⟩ ?_)
    rintro k _ ⟨i, hk, rfl⟩
    unfold s_l3Text_L2
    dsimp only
    refine .iteP (fun hlt => ?_) (fun hge => .dn (by rw [show i = c.Added.length by omega, List.take_length]))
    obtain ⟨x, hx⟩ := get_ex (l := c.Added) (i := i) (by omega)
    have hxr := hA x (List.mem_of_getElem? hx)
    have hxl := itoa_len hxr.1 hxr.2
    have hd := days_len 43 (inr_take hA i)
    have hdl : (c.Added.take i).length ≤ 1000 := by simp; omega
    refine .chk (by rw [str_s, str_s]; simp; omega) (.eq (ixs hx) (.eq (lnumI hxr.1 hxr.2) ?_))
    rw [str_app]
    refine .chk (by rw [str_s, str_s]; simp; omega) (.nx ⟨k - 1, by omega, i + 1, by omega, ?_⟩)
    rw [str_app, w64_succ (by omega), days_snoc 43 hx]
    unfold day1; simp
  rw [h2, Option.bind_some]
  obtain ⟨u, hu⟩ : ∃ u, u = q ++ days 43 c.Added := ⟨_, rfl⟩
  have hul : u.length ≤ 10000 := by rw [hu]; simp; omega
  rw [← hu]
  have h3 : iter (s_l3Text_L3 c) (str u, (0 : Int)) = some (str (u ++ days 45 c.Removed)) := by
    refine Tot.val (Tot.iter (fun k a => ∃ i : Nat, k + i = c.Removed.length ∧ a = (str (u ++ days 45 (c.Removed.take i)), (i : Int))) (n := c.Removed.length) ⟨0, rfl, by simp [days]⟩ ?_)
    rintro k _ ⟨i, hk, rfl⟩
    unfold s_l3Text_L3
    dsimp only
    refine .iteP (fun hlt => ?_) (fun hge => .dn (by rw [show i = c.Removed.length by omega, List.take_length]))
    obtain ⟨x, hx⟩ := get_ex (l := c.Removed) (i := i) (by omega)
    have hxr := hR x (List.mem_of_getElem? hx)
    have hxl := itoa_len hxr.1 hxr.2
    have hd := days_len 45 (inr_take hR i)
    have hdl : (c.Removed.take i).length ≤ 1000 := by simp; omega
    refine .chk (by rw [str_s, str_s]; simp; omega) (.eq (ixs hx) (.eq (lnumI hxr.1 hxr.2) ?_))
    rw [str_app]
    refine .chk (by rw [str_s, str_s]; simp; omega) (.nx ⟨k - 1, by omega, i + 1, by omega, ?_⟩)
    rw [str_app, w64_succ (by omega), days_snoc 45 hx]
    unfold day1; simp
  rw [h3, Option.bind_some]
  congr 2
  rw [hu, hq, hp]; unfold txt; simp
theorem itext_ok (c : Calendar) (hb : Bd c) : i_formatCalendar c = some (str (txt c)) := by
  obtain ⟨⟨f0, f1⟩, ⟨t0, t1⟩, hA, hR, lA, lR⟩ := hb
  have hf := itoa_len f0 f1
  have ht := itoa_len t0 t1
  have dA := days_len 43 hA
  have dR := days_len 45 hR
  have ws : ∀ (a b : List UInt8), a.length ≤ 100000 → b.length ≤ 100000 → strings_Builder_WriteString a (str b) = some ((b.length : Int), .mk, a ++ b) := fun a b h1 h2 => by
    unfold strings_Builder_WriteString writeStringM
    rw [if_pos (by rw [str_s]; omega)]; rfl
  have wb : ∀ (a : List UInt8) (b : UInt8), a.length ≤ 100000 → strings_Builder_WriteByte a b = some (.mk, a ++ [b]) := fun a b h1 => by
    unfold strings_Builder_WriteByte writeByteM
    rw [if_pos (by omega)]
  unfold i_formatCalendar
  rw [iItoa f0 f1, Option.bind_some, chk_of (by rw [str_s, str_s]; simp; omega), Option.bind_some, iItoa t0 t1, Option.bind_some, str_app, chk_of (by rw [str_s, str_s]; simp; omega), Option.bind_some, str_app, chk_of (by rw [str_s, str_s]; simp; omega), Option.bind_some, str_app]
  obtain ⟨p, hp⟩ : ∃ p, p = Lib.itoa c.From ++ [45] ++ Lib.itoa c.To ++ [32] := ⟨_, rfl⟩
  have hpl : p.length ≤ 16 := by rw [hp]; simp; omega
  rw [← hp, ws [] p (by simp) (by omega), Option.bind_some, List.nil_append]
  have h1 : iter (i_formatCalendar_L1 c) ((0 : Int), p) = some (p ++ wd c.Weekdays) := by
    refine Tot.val (Tot.iter (fun k a => ∃ i : Nat, k + i = 7 ∧ a = ((i : Int), p ++ (List.range i).map (wdc c.Weekdays))) (n := 7) ⟨0, rfl, by simp⟩ ?_)
    rintro k _ ⟨i, hk, rfl⟩
    unfold i_formatCalendar_L1
    dsimp only
    refine .iteP (fun hlt => ?_) (fun hge => .dn (by rw [show i = 7 by omega]; rfl))
    rw [chk_of (by omega), Option.bind_some]
    refine .call (P := fun r => r = p ++ (List.range (i + 1)).map (wdc c.Weekdays)) ?_ fun r hr => .nx ⟨k - 1, by omega, i + 1, by omega, by rw [hr, w64_succ (by omega)]⟩
    have hrl : (p ++ (List.range i).map (wdc c.Weekdays)).length ≤ 100 := by simp; omega
    have hc : wdc c.Weekdays i = if bitW c.Weekdays (i : Int) = true then letters.getD i 0 else 46 := rfl
    rw [wd_succ]
    refine .ite (fun h => ?_) (fun h => ?_)
    · have h' : bitW c.Weekdays (i : Int) = true := h
      rw [if_pos h'] at hc
      refine .chk ⟨by omega, by show (i : Int) < 7; omega⟩ ?_
      rw [wb _ _ (by omega), Option.bind_some, hc, show (i : Int).toNat = i by omega]
      refine .ok ?_
      rw [List.append_assoc]; rfl
    · have h' : ¬ bitW c.Weekdays (i : Int) = true := by
        intro h2; have h3 : bitW c.Weekdays (i : Int) = false := h
        rw [h3] at h2; cases h2
      rw [if_neg h'] at hc
      rw [wb _ _ (by omega), Option.bind_some, hc]
      refine .ok ?_
      rw [List.append_assoc]; rfl
  rw [h1, Option.bind_some]
  have hwl : (wd c.Weekdays).length = 7 := by unfold wd; simp
  obtain ⟨q, hq⟩ : ∃ q, q = p ++ wd c.Weekdays := ⟨_, rfl⟩
  have hql : q.length ≤ 23 := by rw [hq]; simp; omega
  rw [← hq]
  have h2 : iter (i_formatCalendar_L2 c) ((0 : Int), q) = some (q ++ days 43 c.Added) := by
    refine Tot.val (Tot.iter (fun k a => ∃ i : Nat, k + i = c.Added.length ∧ a = ((i : Int), q ++ days 43 (c.Added.take i))) (n := c.Added.length) ⟨0, rfl, by simp [days]⟩ ?_)
    rintro k _ ⟨i, hk, rfl⟩
    unfold i_formatCalendar_L2
    dsimp only
    refine .iteP (fun hlt => ?_) (fun hge => .dn (by rw [show i = c.Added.length by omega, List.take_length]))
    obtain ⟨x, hx⟩ := get_ex (l := c.Added) (i := i) (by omega)
    have hxr := hA x (List.mem_of_getElem? hx)
    have hxl := itoa_len hxr.1 hxr.2
    have hd := days_len 43 (inr_take hA i)
    have hdl : (c.Added.take i).length ≤ 1000 := by simp; omega
    refine .eq (ixs hx) (.eq (iItoa hxr.1 hxr.2) (.chk (by rw [str_s, str_s]; simp; omega) ?_))
    rw [str_app, ws _ _ (by simp; omega) (by simp; omega), Option.bind_some]
    refine .nx ⟨k - 1, by omega, i + 1, by omega, ?_⟩
    rw [w64_succ (by omega), days_snoc 43 hx]
    unfold day1; simp
  rw [h2, Option.bind_some]
  obtain ⟨u, hu⟩ : ∃ u, u = q ++ days 43 c.Added := ⟨_, rfl⟩
  have hul : u.length ≤ 10000 := by rw [hu]; simp; omega
  rw [← hu]
  have h3 : iter (i_formatCalendar_L3 c) ((0 : Int), u) = some (u ++ days 45 c.Removed) := by
    refine Tot.val (Tot.iter (fun k a => ∃ i : Nat, k + i = c.Removed.length ∧ a = ((i : Int), u ++ days 45 (c.Removed.take i))) (n := c.Removed.length) ⟨0, rfl, by simp [days]⟩ ?_)
    rintro k _ ⟨i, hk, rfl⟩
    unfold i_formatCalendar_L3
    dsimp only
    refine .iteP (fun hlt => ?_) (fun hge => .dn (by rw [show i = c.Removed.length by omega, List.take_length]))
    obtain ⟨x, hx⟩ := get_ex (l := c.Removed) (i := i) (by omega)
    have hxr := hR x (List.mem_of_getElem? hx)
    have hxl := itoa_len hxr.1 hxr.2
    have hd := days_len 45 (inr_take hR i)
    have hdl : (c.Removed.take i).length ≤ 1000 := by simp; omega
    refine .eq (ixs hx) (.eq (iItoa hxr.1 hxr.2) (.chk (by rw [str_s, str_s]; simp; omega) ?_))
    rw [str_app, ws _ _ (by simp; omega) (by simp; omega), Option.bind_some]
    refine .nx ⟨k - 1, by omega, i + 1, by omega, ?_⟩
    rw [w64_succ (by omega), days_snoc 45 hx]
    unfold day1; simp
  rw [h3, Option.bind_some]
  unfold strings_Builder_String bldStringM
  rw [Option.bind_some]
  congr 1
  show str _ = str _
  congr 1
  rw [hu, hq, hp]; unfold txt; simp
/-- Digits. -/
def valD (l : List UInt8) : Nat := l.foldl (fun a b => 10 * a + (b.toNat - 48)) 0
def Dig (b : UInt8) : Prop := 48 ≤ b.toNat ∧ b.toNat ≤ 57
def CanD (d : List UInt8) : Prop := d ≠ [] ∧ (∀ b ∈ d, Dig b) ∧ (2 ≤ d.length → d.head? ≠ some 48)
def NoDig (l : List UInt8) : Prop := ∀ b, l.head? = some b → ¬ Dig b
theorem valD_snoc (l : List UInt8) (b : UInt8) : valD (l ++ [b]) = 10 * valD l + (b.toNat - 48) := by unfold valD; simp
theorem valD_lt : ∀ (k : Nat) (l : List UInt8), l.length = k → (∀ b ∈ l, Dig b) → valD l < 10 ^ k := by
  intro k
  induction k with
  | zero => intro l hl _; have : l = [] := List.length_eq_zero_iff.1 hl; subst this; simp [valD]
  | succ k ih =>
    intro l hl hd
    obtain ⟨a, b, rfl⟩ : ∃ a b, l = a ++ [b] := ⟨l.dropLast, l.getLast (by intro e; simp [e] at hl), (List.dropLast_concat_getLast _).symm⟩
    have h1 := ih a (by simpa using hl) (fun x hx => hd x (List.mem_append_left _ hx))
    have h2 := hd b (by simp)
    rw [valD_snoc, Nat.pow_succ]
    have := h2.2
    omega
theorem num_val : ∀ (k : Nat) (d : List UInt8), d.length = k + 1 → (∀ b ∈ d, Dig b) → (2 ≤ d.length → d.head? ≠ some 48) → num (valD d) = d := by
  intro k
  induction k with
  | zero =>
    intro d hl hd _
    match d, hl with
    | [b], _ =>
      have h := hd b (by simp)
      have hv : valD [b] = b.toNat - 48 := by simp [valD]
      rw [hv]
      unfold num
      rw [Lib.decDigits_one (by have := h.2; omega)]
      congr 1
      rw [show 48 + (b.toNat - 48) = b.toNat by have := h.1; omega]
      exact UInt8.ofNat_toNat
  | succ k ih =>
    intro d hl hd hh
    obtain ⟨a, b, rfl⟩ : ∃ a b, d = a ++ [b] := ⟨d.dropLast, d.getLast (by intro e; simp [e] at hl), (List.dropLast_concat_getLast _).symm⟩
    have hal : a.length = k + 1 := by simpa using hl
    have hha : a.head? = (a ++ [b]).head? := by
      cases a with
      | nil => simp at hal
      | cons x a => rfl
    have hne : a.head? ≠ some 48 := by rw [hha]; exact hh (by simp; omega)
    have h1 := ih a hal (fun x hx => hd x (List.mem_append_left _ hx)) (fun _ => hne)
    have hb := hd b (by simp)
    have hpos : 1 ≤ valD a := by
      apply Classical.byContradiction
      intro hn
      have h0 : valD a = 0 := by omega
      rw [h0] at h1
      unfold num at h1
      rw [Lib.decDigits_one (by omega)] at h1
      rw [← h1] at hne
      exact hne rfl
    rw [valD_snoc]
    unfold num at h1 ⊢
    have h2 := hb.1; have h3 := hb.2
    rw [dd_big (by omega), show (10 * valD a + (b.toNat - 48)) / 10 = valD a by omega, show (10 * valD a + (b.toNat - 48)) % 10 = b.toNat - 48 by omega, h1]
    congr 2
    rw [show 48 + (b.toNat - 48) = b.toNat by omega]
    exact UInt8.ofNat_toNat
theorem num_head : ∀ (n : Nat), 10 ≤ n → (num n).head? ≠ some 48 := by
  intro n
  induction n using Nat.strongRecOn with
  | _ n ih =>
    intro hn
    unfold num at ih ⊢
    rw [dd_big (by omega)]
    by_cases h : n / 10 < 10
    · rw [Lib.decDigits_one h]
      simp only [List.cons_append, List.head?_cons, ne_eq, Option.some.injEq]
      intro e
      have := congrArg UInt8.toNat e
      rw [UInt8.toNat_ofNat'] at this
      simp at this; omega
    · have := ih (n / 10) (by omega) (by omega)
      have hp := Lib.nDigits_pos (n / 10)
      rw [← Lib.decDigits_length] at hp
      cases hd : Lib.decDigits (n / 10) with
      | nil => rw [hd] at hp; simp at hp
      | cons x r => rw [hd] at this; simpa using this
theorem num_can (n : Nat) : CanD (num n) := by
  refine ⟨?_, fun b hb => num_dig n b hb, fun h2 => ?_⟩
  · intro e
    have hp := Lib.nDigits_pos n
    rw [← Lib.decDigits_length] at hp
    unfold num at e
    rw [e] at hp; simp at hp
  · by_cases h : n < 10
    · unfold num at h2
      rw [Lib.decDigits_one h] at h2; simp at h2
    · exact num_head n (by omega)
theorem can_num {d : List UInt8} (h : CanD d) : num (valD d) = d := by
  have hp := List.length_pos_iff.2 h.1
  exact num_val (d.length - 1) d (by omega) h.2.1 h.2.2
theorem val_num (n : Nat) : valD (num n) = n := num_inj (can_num (num_can n))
theorem dig_inj : ∀ {a b x y : List UInt8}, (∀ c ∈ a, Dig c) → (∀ c ∈ b, Dig c) → NoDig x → NoDig y → a ++ x = b ++ y → a = b ∧ x = y
  | [], [], _, _, _, _, _, _, h => ⟨rfl, by simpa using h⟩
  | [], z :: b, x, y, _, hb, hx, _, h => by
    simp only [List.nil_append, List.cons_append] at h
    exact absurd (hb z (by simp)) (hx z (by rw [h]; rfl))
  | z :: a, [], x, y, ha, _, _, hy, h => by
    simp only [List.nil_append, List.cons_append] at h
    exact absurd (ha z (by simp)) (hy z (by rw [← h]; rfl))
  | z :: a, w :: b, x, y, ha, hb, hx, hy, h => by
    simp only [List.cons_append, List.cons.injEq] at h
    obtain ⟨h1, h2⟩ := dig_inj (fun c hc => ha c (List.mem_cons_of_mem _ hc)) (fun c hc => hb c (List.mem_cons_of_mem _ hc)) hx hy h.2
    exact ⟨by rw [h.1, h1], h2⟩
theorem num_split {n m : Nat} {x y : List UInt8} (hx : NoDig x) (hy : NoDig y) (h : num n ++ x = num m ++ y) : n = m ∧ x = y := by
  obtain ⟨h1, h2⟩ := dig_inj (num_can n).2.1 (num_can m).2.1 hx hy h
  exact ⟨num_inj h1, h2⟩
theorem natural_ok (s : List UInt8) (hs : s.length ≤ 1000000) :
    Tot (i_natural (str s)) fun r => (r.2.2 = true → ∃ (n : Nat) (rest : List UInt8), n < 1000000 ∧ s = num n ++ rest ∧ NoDig rest ∧ r.1 = (n : Int) ∧ r.2.1 = str rest) ∧ (∀ (n : Nat) rest, n < 1000000 → s = num n ++ rest → NoDig rest → r = ((n : Int), str rest, true)) := by
  have hl : Tot (iter (i_natural_L1 (str s)) ((0 : Int), (0 : Int))) fun r =>
      (∃ n : Nat, n ≤ 6 ∧ n ≤ s.length ∧ r = .go ((valD (s.take n) : Int), (n : Int)) ∧ (∀ b ∈ s.take n, Dig b) ∧ NoDig (s.drop n) ∧ (2 ≤ n → s.head? ≠ some 48)) ∨
      (r = .ret (0, str [], false) ∧ ∃ n : Nat, (∀ b ∈ s.take (n + 1), Dig b) ∧ n + 1 ≤ s.length ∧ (n = 6 ∨ n = 1 ∧ s.head? = some 48)) := by
    refine Tot.iter (fun k a => ∃ n : Nat, k + n = s.length ∧ n ≤ 6 ∧ a = ((valD (s.take n) : Int), (n : Int)) ∧ (∀ b ∈ s.take n, Dig b) ∧ (2 ≤ n → s.head? ≠ some 48)) (n := s.length) ⟨0, rfl, by omega, rfl, by simp, by omega⟩ ?_
    rintro k _ ⟨n, hk, hn6, rfl, hd, hh⟩
    have hvl : valD (s.take n) < 10 ^ n := valD_lt n _ (by simp; omega) hd
    have hv6 : valD (s.take n) < 1000000 := Nat.lt_of_lt_of_le hvl (Nat.pow_le_pow_right (by omega) hn6)
    unfold i_natural_L1
    dsimp only
    rw [str_s, str_l, show (n : Int).toNat = n by omega]
    refine .call (P := fun b => b = true ↔ ∃ x, s[n]? = some x ∧ Dig x) (.iteP (fun hlt => ?_) (fun hge => .ok ?_)) fun b hb => .ite (fun h => ?_) (fun h => .dn (.inl ⟨n, hn6, by omega, rfl, hd, fun b' hb' => ?_, hh⟩))
    · obtain ⟨x, hx⟩ := get_ex (l := s) (i := n) (by omega)
      rw [getD_some hx]
      refine .chk ⟨by omega, by omega⟩ (.iteP (fun h1 => .chk ⟨by omega, by omega⟩ (.ok ?_)) (fun h1 => .ok ?_))
      · rw [decide_eq_true_eq]
        constructor
        · intro h2; exact ⟨x, hx, by omega, by omega⟩
        · rintro ⟨y, hy, h2⟩; rw [hx] at hy; cases hy; have := h2.2; omega
      · constructor
        · intro h2; cases h2
        · rintro ⟨y, hy, h2⟩; rw [hx] at hy; cases hy; have := h2.1; omega
    · constructor
      · intro h2; cases h2
      · rintro ⟨y, hy, h2⟩; have := get_lt hy; omega
    · obtain ⟨x, hx, hdx⟩ := hb.1 h
      have hlt := get_lt hx
      have hd1 : ∀ b ∈ s.take (n + 1), Dig b := fun b hb' => by
        rw [take_succ hx] at hb'
        rcases List.mem_append.1 hb' with hb' | hb'
        · exact hd b hb'
        · simp at hb'; subst hb'; exact hdx
      refine .call (P := fun v => v = true ↔ (n = 6 ∨ n = 1 ∧ valD (s.take n) = 0)) (.ite (fun h1 => .ok ?_) (fun h1 => .ite (fun h2 => .ok ?_) (fun h2 => .ok ?_))) fun v hv => .ite (fun h3 => .dn (.inr ⟨rfl, n, hd1, by omega, ?_⟩)) (fun h3 => ?_)
      · have := eq_of_beq h1; simp only [true_iff]; omega
      · have e1 : n = 1 := by have := eq_of_beq h2; omega
        simp only [beq_iff_eq, e1, true_and]
        constructor
        · intro h; right; omega
        · intro h; omega
      · have e1 : ¬ n = 6 := fun e => by rw [e] at h1; simp at h1
        have e2 : ¬ n = 1 := fun e => by rw [e] at h2; simp at h2
        simp [e1, e2]
      · rcases hv.1 h3 with h4 | ⟨h4, h5⟩
        · exact .inl h4
        · right
          refine ⟨h4, ?_⟩
          subst h4
          match s, hlt with
          | z :: r, _ =>
            have hz := hd z (by simp)
            have : valD [z] = z.toNat - 48 := by simp [valD]
            simp only [List.take_succ_cons, List.take_zero] at h5
            rw [this] at h5
            have h6 := hz.1
            have : z = 48 := UInt8.toNat_inj.1 (by show z.toNat = 48; omega)
            rw [this]; rfl
      · have hnv : ¬ (n = 6 ∨ n = 1 ∧ valD (s.take n) = 0) := fun hh => by have := hv.2 hh; rw [h3] at this; cases this
        rw [getD_some hx]
        have h6 := hdx.1; have h7 := hdx.2
        refine .chk ⟨by omega, by omega⟩ (.nx ⟨k - 1, by omega, n + 1, by omega, by omega, ?_, hd1, fun h2 => ?_⟩)
        · rw [IntKind.wrap_u8, w64_id (x := (valD (s.take n) : Int) * 10) (by omega), w64_id (x := ((x.toNat : Int) - 48) % 256) (by omega), w64_id (by omega), w64_succ (by omega), take_succ hx, valD_snoc]
          refine Prod.ext ?_ rfl
          show (_ : Int) = _
          omega
        · by_cases h8 : 2 ≤ n
          · exact hh h8
          · have e1 : n = 1 := by omega
            subst e1
            intro he
            apply hnv
            right
            refine ⟨rfl, ?_⟩
            match s, hlt, he with
            | z :: r, _, he =>
              simp only [List.head?_cons, Option.some.injEq] at he
              subst he
              rfl
    · intro hdb
      have : s[n]? = some b' := by rw [← List.head?_drop]; exact hb'
      have := hb.2 ⟨b', this, hdb⟩
      rw [h] at this; cases this
  unfold i_natural
  obtain ⟨r, hr, ⟨n, hn6, hnl, rfl, hd, hnd, hh⟩ | ⟨rfl, n, hd, hnl, hcase⟩⟩ := hl
  · rw [hr]
    have hvl : valD (s.take n) < 10 ^ n := valD_lt n _ (by simp; omega) hd
    have hv6 : valD (s.take n) < 1000000 := Nat.lt_of_lt_of_le hvl (Nat.pow_le_pow_right (by omega) hn6)
    have hst : s = s.take n ++ s.drop n := (List.take_append_drop n s).symm
    have ee : (str s).extract (n : Int).toNat (str s).size = str (s.drop n) := by rw [str_ext, str_s, List.take_length]; rfl
    refine ⟨((valD (s.take n) : Int), str (s.drop n), decide (0 < n)), ?_, fun h => ?_, fun m rest hm he hn => ?_⟩
    · show ((chk ((0 : Int) ≤ (n : Int) ∧ (n : Int) ≤ ((str s).size : Int))).bind _) = _
      rw [chk_of (by rw [str_s]; omega), Option.bind_some, ee]
      congr 3
      exact decide_eq_decide.2 (by omega)
    · have h0 : 0 < n := of_decide_eq_true h
      have hc : CanD (s.take n) := ⟨by intro e; have := congrArg List.length e; rw [List.length_take, List.length_nil] at this; omega, hd, fun h2 => by
        have e1 : (s.take n).head? = s.head? := by
          cases s with
          | nil => simp at hnl; omega
          | cons z r => obtain ⟨m, rfl⟩ : ∃ m, n = m + 1 := ⟨n - 1, by omega⟩; rfl
        rw [e1]; exact hh (by simp at h2; omega)⟩
      exact ⟨_, s.drop n, hv6, by rw [can_num hc]; exact hst, hnd, rfl, rfl⟩
    · rw [he] at hst
      obtain ⟨h1, h2⟩ := dig_inj (num_can m).2.1 (by rw [he] at hd; exact hd) hn (by rw [he] at hnd; exact hnd) hst
      rw [he, ← h1, ← h2, val_num]
      have h3 := congrArg List.length h1
      have h4 := (num_len hm).1
      simp at h3
      rw [decide_eq_true (by omega)]
  · rw [hr]
    refine ⟨(0, str [], false), rfl, fun h => (by cases h), fun m rest hm he hn => ?_⟩
    exfalso
    have hml := num_len hm
    have hle : n + 1 ≤ (num m).length := by
      apply Classical.byContradiction
      intro hlt
      have e1 : s.take (n + 1) = num m ++ rest.take (n + 1 - (num m).length) := by rw [he, List.take_append, List.take_of_length_le (by omega)]
      have hln := congrArg List.length e1
      simp at hln
      cases rest with
      | nil => rw [he] at hnl; simp at hnl; omega
      | cons z r =>
        refine hn z rfl (hd z ?_)
        rw [e1]
        obtain ⟨j, hj⟩ : ∃ j, n + 1 - (num m).length = j + 1 := ⟨n - (num m).length, by omega⟩
        rw [hj]
        simp
    rcases hcase with h6 | ⟨h6, h7⟩
    · omega
    · have hc := (num_can m).2.2 (by omega)
      apply hc
      rw [← h7, he]
      cases hx : num m with
      | nil => rw [hx] at hle; simp at hle
      | cons z r => rfl
/-! Calendars: the implementation's reader, whole. -/
def orI (v i : Int) : Int := (IntKind.i64.wrap ((BitVec.ofInt (IntKind.i64).bits v ||| BitVec.ofInt (IntKind.i64).bits (w64 (1 * 2 ^ (min (i : Int).toNat (IntKind.i64).bits)))).toNat : Int))
def wA (f : Nat → Bool) : Nat → Int
  | 0 => 0
  | i + 1 => if f i = true then orI (wA f i) i else wA f i
def fB (b0 b1 b2 b3 b4 b5 b6 : Bool) (i : Nat) : Bool := match i with
  | 0 => b0 | 1 => b1 | 2 => b2 | 3 => b3 | 4 => b4 | 5 => b5 | 6 => b6 | _ => false
theorem wA_key : ∀ b0 b1 b2 b3 b4 b5 b6 : Bool, 0 ≤ wA (fB b0 b1 b2 b3 b4 b5 b6) 7 ∧ wA (fB b0 b1 b2 b3 b4 b5 b6) 7 ≤ 127 ∧ ∀ i : Fin 7, bitW (wA (fB b0 b1 b2 b3 b4 b5 b6) 7) (i.val : Int) = fB b0 b1 b2 b3 b4 b5 b6 i.val := by decide +kernel
theorem wA7 (f : Nat → Bool) : 0 ≤ wA f 7 ∧ wA f 7 ≤ 127 ∧ ∀ i : Nat, i < 7 → bitW (wA f 7) (i : Int) = f i := by
  have e : wA f 7 = wA (fB (f 0) (f 1) (f 2) (f 3) (f 4) (f 5) (f 6)) 7 := rfl
  have h := wA_key (f 0) (f 1) (f 2) (f 3) (f 4) (f 5) (f 6)
  rw [e]
  refine ⟨h.1, h.2.1, fun i hi => ?_⟩
  rw [h.2.2 ⟨i, hi⟩]
  match i, hi with
  | 0, _ => rfl
  | 1, _ => rfl
  | 2, _ => rfl
  | 3, _ => rfl
  | 4, _ => rfl
  | 5, _ => rfl
  | 6, _ => rfl
theorem wA_bit0 : ∀ w : Fin 128, wA (fun i => bitW (w.val : Int) (i : Int)) 7 = (w.val : Int) := by decide +kernel
theorem wA_bit {w : Int} (h0 : 0 ≤ w) (h1 : w ≤ 127) : wA (fun i => bitW w (i : Int)) 7 = w := by
  have := wA_bit0 ⟨w.toNat, by omega⟩
  simp only at this
  rw [show ((w.toNat : Nat) : Int) = w by omega] at this
  exact this
theorem wA_congr {f g : Nat → Bool} (h : ∀ i, i < 7 → f i = g i) : wA f 7 = wA g 7 := by
  have h0 := h 0 (by omega); have h1 := h 1 (by omega); have h2 := h 2 (by omega); have h3 := h 3 (by omega)
  have h4 := h 4 (by omega); have h5 := h 5 (by omega); have h6 := h 6 (by omega)
  simp only [wA, h0, h1, h2, h3, h4, h5, h6]
theorem letter_ne (i : Nat) (h : i < 7) : letters.getD i 0 ≠ 46 := by
  match i, h with
  | 0, _ => decide
  | 1, _ => decide
  | 2, _ => decide
  | 3, _ => decide
  | 4, _ => decide
  | 5, _ => decide
  | 6, _ => decide
theorem wdc_iff (w : Int) {i : Nat} (h : i < 7) : decide (wdc w i = letters.getD i 0) = bitW w (i : Int) := by
  unfold wdc
  cases hb : bitW w (i : Int)
  · simp only [Bool.false_eq_true, if_false]
    exact decide_eq_false (fun e => letter_ne i h e.symm)
  · simp
theorem wdc_dot (w : Int) {i : Nat} (h : i < 7) : decide (wdc w i ≠ 46) = bitW w (i : Int) := by
  unfold wdc
  cases hb : bitW w (i : Int)
  · simp
  · simp only [if_true]
    exact decide_eq_true (letter_ne i h)
theorem wd_get (w : Int) {i : Nat} (h : i < 7) (x : List UInt8) : (wd w ++ x).getD i 0 = wdc w i := by
  have hl : (wd w).length = 7 := by unfold wd; simp
  rw [List.getD_eq_getElem?_getD, List.getElem?_append_left (by omega)]
  unfold wd
  simp [h]
theorem wd_eq {w w' : Int} (h0 : 0 ≤ w) (h1 : w ≤ 127) (h2 : 0 ≤ w') (h3 : w' ≤ 127) (h : wd w = wd w') : w = w' := by
  rw [← wA_bit h0 h1, ← wA_bit h2 h3]
  refine wA_congr fun i hi => ?_
  have e1 := wd_get w hi []
  have e2 := wd_get w' hi []
  rw [h, e2] at e1
  rw [← wdc_iff w hi, ← wdc_iff w' hi, e1]
def InP (l : List Int) : Prop := ∀ x ∈ l, 0 ≤ x ∧ x < 1000000
theorem days_cons (op : UInt8) (x : Int) (l : List Int) : days op (x :: l) = 32 :: op :: (Lib.itoa x ++ days op l) := by
  unfold days day1; simp
theorem nodig_c {c : UInt8} {l : List UInt8} (h : ¬ Dig c) : NoDig (c :: l) := fun b hb => by
  simp only [List.head?_cons, Option.some.injEq] at hb
  subst hb; exact h
theorem nodig_nil : NoDig [] := fun b hb => by cases hb
theorem d32 : ¬ Dig 32 := fun h => by have := h.1; simp at this
theorem d45 : ¬ Dig 45 := fun h => by have := h.1; simp at this
theorem days_nodig (op : UInt8) (l : List Int) {x : List UInt8} (hx : NoDig x) : NoDig (days op l ++ x) := by
  cases l with
  | nil => exact hx
  | cons a l => rw [days_cons]; exact nodig_c d32
theorem days_nodig' (op : UInt8) (l : List Int) : NoDig (days op l) := by
  have := days_nodig op l nodig_nil
  rwa [List.append_nil] at this
theorem days1_inj (op : UInt8) : ∀ {a b : List Int}, InP a → InP b → days op a = days op b → a = b
  | [], [], _, _, _ => rfl
  | [], y :: b, _, _, h => by rw [days_cons] at h; simp [days] at h
  | x :: a, [], _, _, h => by rw [days_cons] at h; simp [days] at h
  | x :: a, y :: b, ha, hb, h => by
    rw [days_cons, days_cons] at h
    simp only [List.cons.injEq, true_and] at h
    have hx := ha x (List.mem_cons_self ..)
    have hy := hb y (List.mem_cons_self ..)
    rw [itoa_n hx.1, itoa_n hy.1] at h
    obtain ⟨h1, h2⟩ := num_split (days_nodig' op a) (days_nodig' op b) h
    have := days1_inj op (fun z hz => ha z (List.mem_cons_of_mem _ hz)) (fun z hz => hb z (List.mem_cons_of_mem _ hz)) h2
    rw [this, show x = y by omega]
theorem days_inj : ∀ {a b : List Int} {r t : List Int}, InP a → InP b → InP r → InP t → days 43 a ++ days 45 r = days 43 b ++ days 45 t → a = b ∧ r = t
  | [], [], r, t, _, _, hr, ht, h => ⟨rfl, days1_inj 45 hr ht (by simpa [days] using h)⟩
  | [], y :: b, r, t, _, _, _, _, h => by
    cases r with
    | nil => rw [days_cons] at h; simp [days] at h
    | cons z r =>
      rw [days_cons, days_cons] at h
      simp [days] at h
  | x :: a, [], r, t, _, _, _, _, h => by
    cases t with
    | nil => rw [days_cons] at h; simp [days] at h
    | cons z t =>
      rw [days_cons, days_cons] at h
      simp [days] at h
  | x :: a, y :: b, r, t, ha, hb, hr, ht, h => by
    rw [days_cons, days_cons] at h
    simp only [List.cons_append, List.cons.injEq, true_and, List.append_assoc] at h
    have hx := ha x (List.mem_cons_self ..)
    have hy := hb y (List.mem_cons_self ..)
    rw [itoa_n hx.1, itoa_n hy.1] at h
    obtain ⟨h1, h2⟩ := num_split (days_nodig 43 a (days_nodig' 45 r)) (days_nodig 43 b (days_nodig' 45 t)) h
    obtain ⟨h3, h4⟩ := days_inj (fun z hz => ha z (List.mem_cons_of_mem _ hz)) (fun z hz => hb z (List.mem_cons_of_mem _ hz)) hr ht h2
    exact ⟨by rw [h3, show x = y by omega], h4⟩
def zc : Calendar := ⟨0, 0, 0, [], []⟩
def PS (s : List UInt8) (r : Calendar × Bool) : Prop := (∃ c, ValidC c ∧ txt c = s ∧ r = (c, true)) ∨ (r = (zc, false) ∧ ¬ ∃ c, ValidC c ∧ txt c = s)
theorem valid_inp {c : Calendar} (h : ValidC c) : InP c.Added ∧ InP c.Removed := by
  have h1 := h.1; have h2 := h.2.1
  exact ⟨fun x hx => by have := h2.2.2.1.2 x hx; omega, fun x hx => by have := h2.2.2.2.2 x hx; omega⟩
theorem txt_of {c : Calendar} (h : ValidC c) {n : Nat} {x : List UInt8} (hx : NoDig x) (he : txt c = num n ++ x) : c.From = n ∧ x = 45 :: (Lib.itoa c.To ++ 32 :: (wd c.Weekdays ++ (days 43 c.Added ++ days 45 c.Removed))) := by
  have h1 := h.1
  unfold txt at he
  rw [itoa_n h1.1] at he
  obtain ⟨a, b⟩ := num_split (nodig_c d45) hx he
  exact ⟨by omega, b.symm⟩
theorem txt_of2 {c : Calendar} (h : ValidC c) {n m : Nat} {y : List UInt8} (hy : NoDig y) (he : txt c = num n ++ 45 :: (num m ++ y)) : c.From = n ∧ c.To = m ∧ y = 32 :: (wd c.Weekdays ++ (days 43 c.Added ++ days 45 c.Removed)) := by
  have h1 := h.1
  obtain ⟨a, b⟩ := txt_of h (nodig_c d45) he
  simp only [List.cons.injEq, true_and] at b
  rw [itoa_n (by omega)] at b
  obtain ⟨c1, c2⟩ := num_split hy (nodig_c d32) b
  exact ⟨a, by omega, c2⟩
theorem txt_inj {c c' : Calendar} (h : ValidC c) (h' : ValidC c') (he : txt c = txt c') : c = c' := by
  have h1 := h'.1; have h0 := h.1
  have e2 : txt c = num c'.From.toNat ++ 45 :: (num c'.To.toNat ++ 32 :: (wd c'.Weekdays ++ (days 43 c'.Added ++ days 45 c'.Removed))) := by
    rw [he]; unfold txt; rw [itoa_n h1.1, itoa_n (by omega)]
  obtain ⟨a, b, d⟩ := txt_of2 h (nodig_c d32) e2
  simp only [List.cons.injEq, true_and] at d
  have hl : (wd c.Weekdays).length = (wd c'.Weekdays).length := by unfold wd; simp
  obtain ⟨d1, d2⟩ := List.append_inj d hl.symm
  have hw := wd_eq h0.2.2.2.1 h0.2.2.2.2 h1.2.2.2.1 h1.2.2.2.2 d1.symm
  obtain ⟨e3, e4⟩ := days_inj (valid_inp h').1 (valid_inp h).1 (valid_inp h').2 (valid_inp h).2 d2
  obtain ⟨f, t, w, aa, rr⟩ := c
  obtain ⟨f', t', w', aa', rr'⟩ := c'
  simp only at a b hw e3 e4 h1
  rw [hw, ← e3, ← e4, show f = f' by omega, show t = t' by omega]
theorem prefix_ok (l : List UInt8) : strings_HasPrefix (str l) (str [45]) = some (decide (l.head? = some 45)) := by
  unfold strings_HasPrefix hasPrefixM Lib.hasPrefix
  rw [str_l, str_l]
  congr 1
  cases l with
  | nil => simp [List.isPrefixOf]
  | cons b r =>
    by_cases h : b = 45
    · subst h; simp [List.isPrefixOf]
    · simp [List.isPrefixOf, h, Ne.symm h]
theorem ext_tail (b : UInt8) (l : List UInt8) : (str (b :: l)).extract (1 : Int).toNat (str (b :: l)).size = str l := by
  rw [str_ext, str_s, List.take_length]; rfl
/-- The days of the week. -/
theorem ipw_ok (n : Int) (y : List UInt8) (b : Bool) (hy : 7 ≤ y.length) (hyl : y.length ≤ 1000000) :
    Tot (iter (i_ParseCalendar_L1 (n, str (32 :: y), b)) ((0 : Int), (0 : Int))) fun r => (r = .go (wA (fun i => decide (y.getD i 0 = letters.getD i 0)) 7) ∧ ∀ i, i < 7 → y.getD i 0 = letters.getD i 0 ∨ y.getD i 0 = 46) ∨ (r = .ret (zc, false) ∧ ∃ i, i < 7 ∧ y.getD i 0 ≠ letters.getD i 0 ∧ y.getD i 0 ≠ 46) := by
  refine Tot.iter (fun k a => ∃ i : Nat, k + i = 7 ∧ a = ((i : Int), wA (fun i => decide (y.getD i 0 = letters.getD i 0)) i) ∧ ∀ j, j < i → y.getD j 0 = letters.getD j 0 ∨ y.getD j 0 = 46) (n := 7) ⟨0, rfl, rfl, fun j hj => by omega⟩ ?_
  rintro k _ ⟨i, hk, rfl, hi⟩
  unfold i_ParseCalendar_L1
  dsimp only
  refine .iteP (fun hlt => ?_) (fun hge => .dn (.inl ?_))
  · have e1 : w64 (1 + (i : Int)) = ((i + 1 : Nat) : Int) := by rw [w64_id (by omega)]; omega
    rw [e1, str_l, str_l, str_s, show (((i + 1 : Nat) : Int)).toNat = i + 1 by omega, show (i : Int).toNat = i by omega]
    have e2 : (32 :: y).getD (i + 1) 0 = y.getD i 0 := rfl
    have e3 : ([109, 116, 119, 116, 102, 115, 115] : List UInt8).getD i 0 = letters.getD i 0 := rfl
    have e46 : (((y.getD i 0).toNat : Int) == 46) = decide (y.getD i 0 = 46) := u8_eq _ 46
    rw [e2, e3, u8_eq, e46]
    refine Tot.flb (.chk ⟨by omega, by simp; omega⟩ (.chk ⟨by omega, by rw [str_s]; show (i : Int) < 7; omega⟩ (.iteP (fun h => .chk (by omega) (.go (.nx ⟨k - 1, by omega, i + 1, by omega, ?_, fun j hj => ?_⟩))) (fun h => .iteP (fun h2 => .go (.nx ⟨k - 1, by omega, i + 1, by omega, ?_, fun j hj => ?_⟩)) (fun h2 => .ret ⟨fun a' e => (by cases e), fun b' e => (by cases e; exact .inr ⟨rfl, i, by omega, h, h2⟩)⟩)))))
    · rw [w64_succ (by omega)]
      refine Prod.ext rfl ?_
      dsimp only
      rw [wA, if_pos (decide_eq_true h)]; rfl
    · by_cases e : j = i
      · subst e; exact .inl h
      · exact hi j (by omega)
    · rw [w64_succ (by omega)]
      refine Prod.ext rfl ?_
      dsimp only
      rw [wA, if_neg (by rw [decide_eq_true_eq]; exact h)]
    · by_cases e : j = i
      · subst e; exact .inr h2
      · exact hi j (by omega)
  · have e : i = 7 := by omega
    subst e
    exact ⟨rfl, hi⟩
/-- The days out of the order. -/
theorem ipd_ok (s : List UInt8) (hs : s.length ≤ 1000000) :
    Tot (iter i_ParseCalendar_L2 (str s, ([] : List Int), ([] : List Int))) fun r => (∃ A R, InP A ∧ InP R ∧ r = .go (A, R) ∧ s = days 43 A ++ days 45 R) ∨ (r = .ret (zc, false) ∧ ¬ ∃ A R, InP A ∧ InP R ∧ s = days 43 A ++ days 45 R) := by
  refine Tot.iter (fun k a => ∃ (u : List UInt8) (A R : List Int), k = u.length ∧ a = (str u, A, R) ∧ InP A ∧ InP R ∧ A.length + R.length + u.length ≤ s.length ∧ s = days 43 A ++ (days 45 R ++ u) ∧ (∀ A' R', InP A' → InP R' → s = days 43 A' ++ days 45 R' → ∃ A2 R2, InP A2 ∧ InP R2 ∧ u = days 43 A2 ++ days 45 R2 ∧ (R ≠ [] → A2 = []))) (n := s.length)
    ⟨s, [], [], rfl, rfl, by intro x hx; simp at hx, by intro x hx; simp at hx, by simp, by simp [days], fun A' R' h1 h2 h3 => ⟨A', R', h1, h2, h3, fun h => absurd rfl h⟩⟩ ?_
  rintro k _ ⟨u, A, R, rfl, rfl, hA, hR, hlen, hse, hmt⟩
  have nope : (∀ A2 R2, InP A2 → InP R2 → (R ≠ [] → A2 = []) → u ≠ days 43 A2 ++ days 45 R2) → ¬ ∃ A R, InP A ∧ InP R ∧ s = days 43 A ++ days 45 R := by
    rintro h ⟨A', R', h1, h2, h3⟩
    obtain ⟨A2, R2, g1, g2, g3, g4⟩ := hmt A' R' h1 h2 h3
    exact h A2 R2 g1 g2 g4 g3
  unfold i_ParseCalendar_L2
  dsimp only
  rw [beq_str]
  refine .iteN (fun hne => ?_) (fun he => .dn (.inl ⟨A, R, hA, hR, rfl, by rw [hse, he, List.append_nil]⟩))
  have shape : ∀ A2 R2, InP A2 → InP R2 → u = days 43 A2 ++ days 45 R2 → ∃ (op : UInt8) (x : Nat) (t : List UInt8), u = 32 :: op :: (num x ++ t) ∧ x < 1000000 ∧ NoDig t ∧ ((op = 43 ∧ ∃ A3, A2 = (x : Int) :: A3 ∧ InP A3 ∧ t = days 43 A3 ++ days 45 R2) ∨ (op = 45 ∧ A2 = [] ∧ ∃ R3, R2 = (x : Int) :: R3 ∧ InP R3 ∧ t = days 45 R3)) := by
    intro A2 R2 g1 g2 g3
    cases A2 with
    | cons a A3 =>
      have ha := g1 a (List.mem_cons_self ..)
      rw [days_cons, itoa_n ha.1] at g3
      refine ⟨43, a.toNat, days 43 A3 ++ days 45 R2, by rw [g3]; simp, by omega, days_nodig 43 A3 (days_nodig' 45 R2), .inl ⟨rfl, A3, by rw [show ((a.toNat : Nat) : Int) = a by omega], fun z hz => g1 z (List.mem_cons_of_mem _ hz), rfl⟩⟩
    | nil =>
      cases R2 with
      | nil => exact absurd (by rw [g3]; simp [days]) hne
      | cons a R3 =>
        have ha := g2 a (List.mem_cons_self ..)
        rw [days_cons, itoa_n ha.1] at g3
        refine ⟨45, a.toNat, days 45 R3, by rw [g3]; simp [days], by omega, days_nodig' 45 R3, .inr ⟨rfl, rfl, R3, by rw [show ((a.toNat : Nat) : Int) = a by omega], fun z hz => g2 z (List.mem_cons_of_mem _ hz), rfl⟩⟩
  have e32 : ∀ b : UInt8, ((b.toNat : Int) != 32) = !decide (b = 32) := fun b => by
    have := u8_eq b 32
    show (!((b.toNat : Int) == 32)) = _
    rw [show (32 : Int) = ((32 : UInt8).toNat : Int) from rfl, this]
  rw [str_s, str_l]
  refine .call (P := fun v => v = true ↔ ¬ ∃ (op z : UInt8) (w : List UInt8), u = 32 :: op :: z :: w) (.iteP (fun h => .ok ?_) (fun h => .chk ⟨by omega, by omega⟩ (.ok ?_))) fun v hv => .ite (fun h => .dn (.inr ⟨rfl, nope fun A2 R2 g1 g2 _ g3 => ?_⟩)) (fun h => ?_)
  · simp only [true_iff]
    rintro ⟨op, z, w, rfl⟩
    simp at h; omega
  · rw [show (0 : Int).toNat = 0 from rfl, e32]
    match u, h with
    | [], h => simp at h
    | [_], h => simp at h
    | [_, _], h => simp at h
    | b :: op :: z :: w, _ =>
      have : (b :: op :: z :: w).getD 0 0 = b := rfl
      rw [this]
      by_cases hb : b = 32
      · subst hb
        simp only [decide_true, Bool.not_true, Bool.false_eq_true, false_iff, Classical.not_not]
        exact ⟨op, z, w, rfl⟩
      · simp only [decide_eq_false hb, Bool.not_false, true_iff]
        rintro ⟨op', z', w', e⟩
        simp only [List.cons.injEq] at e
        exact hb e.1
  · obtain ⟨op, x, t, e1, e2, e3, _⟩ := shape A2 R2 g1 g2 g3
    refine hv.1 h ?_
    have := (num_len e2).1
    cases hn : num x with
    | nil => rw [hn] at this; simp at this
    | cons z w => exact ⟨op, z, w ++ t, by rw [e1, hn]; rfl⟩
  obtain ⟨op, z, w, rfl⟩ : ∃ (op z : UInt8) (w : List UInt8), u = 32 :: op :: z :: w := Classical.byContradiction fun hn => by have := hv.2 hn; rw [h] at this; cases this
  have ee : (str (32 :: op :: z :: w)).extract (2 : Int).toNat (32 :: op :: z :: w).length = str (z :: w) := by
    rw [str_ext, List.take_length]; rfl
  have eop : (32 :: op :: z :: w).getD (1 : Int).toNat 0 = op := rfl
  simp only [ee, eop]
  have hul : (32 :: op :: z :: w).length = (z :: w).length + 2 := by simp
  refine .chk ⟨by omega, by simp; omega⟩ (.chk ⟨by omega, by simp; omega⟩ (.call (natural_ok (z :: w) (by omega)) fun ⟨xv, rst, ok⟩ ⟨n1, n2⟩ => ?_))
  dsimp only at n1 n2 ⊢
  refine .ite (fun h => .dn (.inr ⟨rfl, nope fun A2 R2 g1 g2 _ g3 => ?_⟩)) (fun h => ?_)
  · obtain ⟨op', x, t, e1, e2, e3, _⟩ := shape A2 R2 g1 g2 g3
    simp only [List.cons.injEq, true_and] at e1
    have := n2 x t e2 e1.2 e3
    simp only [Prod.mk.injEq] at this
    rw [this.2.2] at h; simp at h
  have hok : ok = true := by cases ok <;> simp_all
  subst hok
  obtain ⟨x, t, x1, x2, x3, x4, x5⟩ := n1 rfl
  subst x4; subst x5
  have hxl := num_len x1
  have htl : (z :: w).length = (num x).length + t.length := by rw [x2]; simp
  have hxx : ∀ A2 R2, InP A2 → InP R2 → 32 :: op :: z :: w = days 43 A2 ++ days 45 R2 → ((op = 43 ∧ ∃ A3, A2 = (x : Int) :: A3 ∧ InP A3 ∧ t = days 43 A3 ++ days 45 R2) ∨ (op = 45 ∧ A2 = [] ∧ ∃ R3, R2 = (x : Int) :: R3 ∧ InP R3 ∧ t = days 45 R3)) := by
    intro A2 R2 g1 g2 g3
    obtain ⟨op', x', t', e1, e2, e3, e4⟩ := shape A2 R2 g1 g2 g3
    simp only [List.cons.injEq, true_and] at e1
    obtain ⟨e5, e6⟩ := e1
    rw [x2] at e6
    obtain ⟨e7, e8⟩ := num_split x3 e3 e6
    subst e5; subst e7; subst e8
    exact e4
  have e43 : ((op.toNat : Int) == 43) = decide (op = 43) := u8_eq op 43
  have e45 : ((op.toNat : Int) == 45) = decide (op = 45) := u8_eq op 45
  rw [e43, e45]
  have hux : 32 :: op :: z :: w = 32 :: op :: (num x ++ t) := by rw [x2]
  refine .call (P := fun v => v = true ↔ (op = 43 ∧ R = [])) (.iteP (fun h => .ok ?_) (fun h => .ok ?_)) fun v hv2 => .ite (fun h => ?_) (fun h => .iteP (fun h2 => ?_) (fun h2 => .dn (.inr ⟨rfl, nope fun A2 R2 g1 g2 g4 g3 => ?_⟩)))
  · simp [h]
  · simp [h]
  · obtain ⟨ho, hr0⟩ := hv2.1 h
    subst ho; subst hr0
    refine .chk (by simp; omega) (.nx ⟨t.length, by omega, t, A ++ [(x : Int)], [], rfl, rfl, ?_, hR, by simp only [List.length_append, List.length_cons, List.length_nil] at hlen htl ⊢; omega, ?_, fun A' R' h1 h2 h3 => ?_⟩)
    · intro q hq
      rcases List.mem_append.1 hq with hq | hq
      · exact hA q hq
      · simp at hq; subst hq; omega
    · rw [hse, hux]
      have e9 : days 43 (A ++ [(x : Int)]) = days 43 A ++ (32 :: 43 :: num x) := by
        unfold days day1; simp [itoa_nat]
      rw [e9]; simp [days]
    · obtain ⟨A2, R2, g1, g2, g3, g4⟩ := hmt A' R' h1 h2 h3
      rcases hxx A2 R2 g1 g2 g3 with ⟨_, A3, q1, q2, q3⟩ | ⟨q1, _⟩
      · exact ⟨A3, R2, q2, g2, q3, fun h => absurd rfl h⟩
      · exact absurd q1 (by decide)
  · subst h2
    refine .chk (by simp; omega) (.nx ⟨t.length, by omega, t, A, R ++ [(x : Int)], rfl, rfl, hA, ?_, by simp only [List.length_append, List.length_cons, List.length_nil] at hlen htl ⊢; omega, ?_, fun A' R' h1 h2 h3 => ?_⟩)
    · intro q hq
      rcases List.mem_append.1 hq with hq | hq
      · exact hR q hq
      · simp at hq; subst hq; omega
    · rw [hse, hux]
      have e9 : days 45 (R ++ [(x : Int)]) = days 45 R ++ (32 :: 45 :: num x) := by
        unfold days day1; simp [itoa_nat]
      rw [e9]; simp
    · obtain ⟨A2, R2, g1, g2, g3, g4⟩ := hmt A' R' h1 h2 h3
      rcases hxx A2 R2 g1 g2 g3 with ⟨q1, _⟩ | ⟨_, q1, R3, q2, q3, q4⟩
      · exact absurd q1 (by decide)
      · exact ⟨[], R3, by intro x hx; simp at hx, q3, by rw [q4]; simp [days], fun _ => rfl⟩
  · rcases hxx A2 R2 g1 g2 g3 with ⟨q1, A3, q2, _⟩ | ⟨q1, _⟩
    · by_cases hr0 : R = []
      · have := hv2.2 ⟨q1, hr0⟩
        rw [h] at this; cases this
      · have := g4 hr0
        rw [q2] at this; cases this
    · exact h2 q1
theorem iparse_ok (s : List UInt8) (hs : s.length ≤ 100000) : Tot (i_ParseCalendar (str s)) (PS s) := by
  unfold i_ParseCalendar
  refine .call (natural_ok s (by omega)) fun ⟨fv, rs1, ok1⟩ ⟨a1, a2⟩ => ?_
  dsimp only at a1 a2 ⊢
  have key1 : ∀ c, ValidC c → txt c = s → ok1 = true ∧ rs1 = str (45 :: (Lib.itoa c.To ++ 32 :: (wd c.Weekdays ++ (days 43 c.Added ++ days 45 c.Removed)))) := by
    intro c hc he
    have h1 := hc.1
    have := a2 c.From.toNat _ (by omega) (by rw [← he]; unfold txt; rw [itoa_n h1.1]) (nodig_c d45)
    simp only [Prod.mk.injEq] at this
    exact ⟨this.2.2, this.2.1⟩
  refine .call (P := fun v => v = true ↔ ¬ (ok1 = true ∧ ∃ y, rs1 = str (45 :: y))) (.ite (fun h => .ok ?_) (fun h => ?_)) fun v hv => .ite (fun h => .ok (.inr ⟨rfl, fun ⟨c, hc, he⟩ => hv.1 h ⟨(key1 c hc he).1, _, (key1 c hc he).2⟩⟩)) (fun h => ?_)
  · simp only [true_iff]
    intro hh; rw [hh.1] at h; simp at h
  · have hok : ok1 = true := by cases ok1 <;> simp_all
    obtain ⟨l, hl⟩ : ∃ l, rs1 = str l := ⟨rs1.data.toList, rfl⟩
    rw [hl, prefix_ok]
    refine .ok ?_
    cases l with
    | nil =>
      simp only [List.head?_nil, reduceCtorEq, decide_false, Bool.not_false, true_iff]
      rintro ⟨_, y, e⟩
      cases str_inj.1 e
    | cons b r =>
      by_cases hb : b = 45
      · subst hb
        simp only [List.head?_cons, decide_true, Bool.not_true, Bool.false_eq_true, false_iff, Classical.not_not]
        exact ⟨hok, r, rfl⟩
      · simp only [List.head?_cons, Option.some.injEq, hb, decide_false, Bool.not_false, true_iff]
        rintro ⟨_, y, e⟩
        have := str_inj.1 e
        simp only [List.cons.injEq] at this
        exact hb this.1
  obtain ⟨hok, y1, hy1⟩ : ok1 = true ∧ ∃ y, rs1 = str (45 :: y) := Classical.byContradiction fun hn => by have := hv.2 hn; rw [h] at this; cases this
  subst hok; subst hy1
  obtain ⟨n, r1, b1, b2, b3, b4, b5⟩ := a1 rfl
  have b5' := str_inj.1 b5
  subst b5'
  have b4' : fv = (n : Int) := b4
  subst b4'
  have hy1l : y1.length ≤ s.length := by rw [b2]; simp; omega
  refine .chk ⟨by omega, by rw [str_s]; simp; omega⟩ ?_
  rw [ext_tail]
  refine .call (natural_ok y1 (by omega)) fun ⟨tv, rs2, ok2⟩ ⟨d1, d2⟩ => ?_
  dsimp only at d1 d2 ⊢
  have key2 : ∀ c, ValidC c → txt c = s → ok2 = true ∧ rs2 = str (32 :: (wd c.Weekdays ++ (days 43 c.Added ++ days 45 c.Removed))) := by
    intro c hc he
    have h1 := hc.1
    have h2 := str_inj.1 (key1 c hc he).2
    simp only [List.cons.injEq, true_and] at h2
    have := d2 c.To.toNat _ (by omega) (by rw [h2, itoa_n (by omega)]) (nodig_c d32)
    simp only [Prod.mk.injEq] at this
    exact ⟨this.2.2, this.2.1⟩
  have wl : ∀ w : Int, (wd w).length = 7 := fun w => by unfold wd; simp
  refine .call (P := fun v => v = true ↔ ¬ (ok2 = true ∧ ∃ y, 7 ≤ y.length ∧ rs2 = str (32 :: y))) (.ite (fun h => .ok ?_) (fun h => ?_)) fun v hv => .ite (fun h => .ok (.inr ⟨rfl, fun ⟨c, hc, he⟩ => hv.1 h ⟨(key2 c hc he).1, _, by have := wl c.Weekdays; simp; omega, (key2 c hc he).2⟩⟩)) (fun h => ?_)
  · simp only [true_iff]
    intro hh; rw [hh.1] at h; simp at h
  · have hok : ok2 = true := by cases ok2 <;> simp_all
    obtain ⟨l, hl⟩ : ∃ l, rs2 = str l := ⟨rs2.data.toList, rfl⟩
    rw [hl, str_s, str_l]
    refine .iteP (fun h8 => .ok ?_) (fun h8 => .chk ⟨by omega, by omega⟩ (.ok ?_))
    · simp only [true_iff]
      rintro ⟨_, y, e1, e2⟩
      have := congrArg List.length (str_inj.1 e2)
      simp at this; omega
    · cases l with
      | nil => simp at h8
      | cons b r =>
        have e32 : ((b.toNat : Int) != 32) = !decide (b = 32) := by
          have := u8_eq b 32
          show (!((b.toNat : Int) == 32)) = _
          rw [show (32 : Int) = ((32 : UInt8).toNat : Int) from rfl, this]
        have eb : (b :: r).getD (0 : Int).toNat 0 = b := rfl
        rw [eb, e32]
        by_cases hb : b = 32
        · subst hb
          simp only [decide_true, Bool.not_true, Bool.false_eq_true, false_iff, Classical.not_not]
          exact ⟨hok, r, by simp at h8; omega, rfl⟩
        · simp only [decide_eq_false hb, Bool.not_false, true_iff]
          rintro ⟨_, y, _, e⟩
          have := str_inj.1 e
          simp only [List.cons.injEq] at this
          exact hb this.1
  obtain ⟨hok, y, hy7, hy⟩ : ok2 = true ∧ ∃ y, 7 ≤ y.length ∧ rs2 = str (32 :: y) := Classical.byContradiction fun hn => by have := hv.2 hn; rw [h] at this; cases this
  subst hok; subst hy
  obtain ⟨m, r2, e1, e2, e3, e4, e5⟩ := d1 rfl
  have e5' := str_inj.1 e5
  subst e5'
  have e4' : tv = (m : Int) := e4
  subst e4'
  have hyl : y.length ≤ y1.length := by rw [e2]; simp; omega
  have key3 : ∀ c, ValidC c → txt c = s → c.From = n ∧ c.To = m ∧ y = wd c.Weekdays ++ (days 43 c.Added ++ days 45 c.Removed) := by
    intro c hc he
    rw [b2, e2] at he
    obtain ⟨q1, q2, q3⟩ := txt_of2 hc e3 he
    simp only [List.cons.injEq, true_and] at q3
    exact ⟨q1, q2, q3⟩
  refine Tot.flb (Tot.mono (ipw_ok (m : Int) y true hy7 (by omega)) ?_)
  rintro r (⟨rfl, hch⟩ | ⟨rfl, i, hi, hn1, hn2⟩)
  · refine ⟨fun r e => (by cases e), fun u e => ?_⟩
    cases e
    obtain ⟨f, hf⟩ : ∃ f : Nat → Bool, f = fun i => decide (y.getD i 0 = letters.getD i 0) := ⟨_, rfl⟩
    rw [← hf]
    obtain ⟨w0, w1, w2⟩ := wA7 f
    have hy8 : y = wd (wA f 7) ++ y.drop 7 := by
      have : y.take 7 = wd (wA f 7) := by
        apply List.ext_getElem?
        intro i
        rw [List.getElem?_take]
        by_cases hi : i < 7
        · rw [if_pos hi]
          obtain ⟨x, hx⟩ := get_ex (l := y) (i := i) (by omega)
          have hg := getD_some hx
          have hwg : (wd (wA f 7))[i]? = some (wdc (wA f 7) i) := by unfold wd; simp [hi]
          rw [hx, hwg]
          congr 1
          unfold wdc
          rw [w2 i hi]
          have hfi : f i = decide (y.getD i 0 = letters.getD i 0) := by rw [hf]
          rw [hfi, hg]
          by_cases hxl : x = letters.getD i 0
          · rw [if_pos (decide_eq_true hxl)]; exact hxl
          · rw [if_neg (by rw [decide_eq_true_eq]; exact hxl)]
            rcases hch i hi with h | h
            · rw [hg] at h; exact absurd h hxl
            · rw [hg] at h; exact h
        · rw [if_neg hi, List.getElem?_eq_none (by rw [wl]; omega)]
      rw [← this, List.take_append_drop]
    refine .chk ⟨by omega, by rw [str_s]; simp; omega⟩ ?_
    have e8 : (str (32 :: y)).extract (8 : Int).toNat (str (32 :: y)).size = str (y.drop 7) := by
      rw [str_ext, str_s, List.take_length]; rfl
    rw [e8]
    refine Tot.flb (Tot.mono (ipd_ok (y.drop 7) (by simp; omega)) ?_)
    rintro r (⟨A, R, hA, hR, rfl, hd⟩ | ⟨rfl, hno⟩)
    · refine ⟨fun r e => (by cases e), fun u e => ?_⟩
      cases e
      dsimp only
      have hAl : A.length ≤ 1000000 ∧ R.length ≤ 1000000 := by
        have hdl : ∀ (op : UInt8) (l : List Int), l.length ≤ (days op l).length := fun op l => by
          induction l with
          | nil => simp
          | cons x l ih => rw [days_cons]; simp; omega
        have h1 := hdl 43 A
        have h2 := hdl 45 R
        have h3 := congrArg List.length hd
        simp at h3; omega
      obtain ⟨c0, hc0⟩ : ∃ c0 : Calendar, c0 = ⟨(n : Int), (m : Int), wA f 7, A, R⟩ := ⟨_, rfl⟩
      rw [← hc0, ivalid_eq c0 (by rw [hc0]; exact hAl), Option.bind_some]
      have htx : txt c0 = s := by
        rw [hc0, b2, e2]
        unfold txt
        dsimp only
        rw [itoa_nat, itoa_nat, ← hd, ← hy8]
      have huq : ∀ c, ValidC c → txt c = s → c = c0 := by
        intro c hc he
        obtain ⟨q1, q2, q3⟩ := key3 c hc he
        have hcp := valid_inp hc
        have h1 := hc.1
        rw [hy8] at q3
        obtain ⟨q4, q5⟩ := List.append_inj q3 (by rw [wl, wl])
        have q6 := wd_eq w0 w1 h1.2.2.2.1 h1.2.2.2.2 q4
        rw [hd] at q5
        obtain ⟨q7, q8⟩ := days_inj hA hcp.1 hR hcp.2 q5
        rw [hc0, q6, q7, q8, ← q1, ← q2]
      by_cases hv0 : ValidC c0
      · rw [decide_eq_true hv0]
        exact .ok (.inl ⟨c0, hv0, htx, rfl⟩)
      · rw [decide_eq_false hv0]
        exact .ok (.inr ⟨rfl, fun ⟨c, hc, he⟩ => hv0 (huq c hc he ▸ hc)⟩)
    · refine ⟨fun r e => ?_, fun u e => (by cases e)⟩
      cases e
      refine .inr ⟨rfl, fun ⟨c, hc, he⟩ => hno ?_⟩
      have q3 := (key3 c hc he).2.2
      have hcp := valid_inp hc
      refine ⟨c.Added, c.Removed, hcp.1, hcp.2, ?_⟩
      rw [q3]
      exact List.drop_left' (wl _)
  · refine ⟨fun r e => ?_, fun u e => (by cases e)⟩
    cases e
    refine .inr ⟨rfl, fun ⟨c, hc, he⟩ => ?_⟩
    have q3 := (key3 c hc he).2.2
    rw [q3, wd_get _ hi] at hn1 hn2
    unfold wdc at hn1 hn2
    split at hn1
    · exact hn1 rfl
    · rename_i hb
      rw [if_neg hb] at hn2
      exact hn2 rfl
/-! Calendars: the specification's reader. -/
theorem lread_loop (l : List UInt8) (hl : l.length ≤ 6) : iter (s_l1Read_L1 (str l)) ((0 : Int), (0 : Int)) = some (.go (valD l : Int)) ∧ (∀ b ∈ l, Dig b) ∨ iter (s_l1Read_L1 (str l)) ((0 : Int), (0 : Int)) = some (.ret (0, false)) ∧ ¬ ∀ b ∈ l, Dig b := by
  have h : Tot (iter (s_l1Read_L1 (str l)) ((0 : Int), (0 : Int))) fun r => (r = .go (valD l : Int) ∧ ∀ b ∈ l, Dig b) ∨ (r = .ret (0, false) ∧ ¬ ∀ b ∈ l, Dig b) := by
    refine Tot.iter (fun k a => ∃ n : Nat, k + n = l.length ∧ a = ((valD (l.take n) : Int), (n : Int)) ∧ ∀ b ∈ l.take n, Dig b) (n := l.length) ⟨0, rfl, rfl, by simp⟩ ?_
    rintro k _ ⟨n, hk, rfl, hd⟩
    have hvl : valD (l.take n) < 10 ^ n := valD_lt n _ (by simp; omega) hd
    have hv6 : valD (l.take n) < 1000000 := Nat.lt_of_lt_of_le hvl (Nat.pow_le_pow_right (by omega) (by omega : n ≤ 6))
    unfold s_l1Read_L1
    dsimp only
    rw [str_s, str_l, show (n : Int).toNat = n by omega]
    refine .iteP (fun hlt => ?_) (fun hge => .dn (.inl ?_))
    · obtain ⟨x, hx⟩ := get_ex (l := l) (i := n) (by omega)
      rw [getD_some hx]
      have hb := x.toNat_lt
      refine .chk ⟨by omega, by omega⟩ (.call (P := fun v => v = true ↔ ¬ Dig x) (.iteP (fun h => .ok ?_) (fun h => .chk ⟨by omega, by omega⟩ (.ok ?_))) fun v hv => .ite (fun h => .dn (.inr ⟨rfl, fun hh => hv.1 h (hh x (List.mem_of_getElem? hx))⟩)) (fun h => ?_))
      · simp only [true_iff]; intro hh; have := hh.1; omega
      · rw [decide_eq_true_eq]
        constructor
        · intro h2 hh; have := hh.2; omega
        · intro hh
          apply Classical.byContradiction
          intro h2
          exact hh ⟨by omega, by omega⟩
      · have hdx : Dig x := Classical.byContradiction fun hn => by have := hv.2 hn; rw [h] at this; cases this
        have h6 := hdx.1; have h7 := hdx.2
        refine .chk ⟨by omega, by omega⟩ (.nx ⟨k - 1, by omega, n + 1, by omega, ?_, fun b hb' => ?_⟩)
        · rw [IntKind.wrap_u8, w64_id (x := 10 * (valD (l.take n) : Int)) (by omega), w64_id (x := ((x.toNat : Int) - 48) % 256) (by omega), w64_id (by omega), w64_succ (by omega), take_succ hx, valD_snoc]
          refine Prod.ext ?_ rfl
          show (_ : Int) = _
          omega
        · rw [take_succ hx] at hb'
          rcases List.mem_append.1 hb' with hb' | hb'
          · exact hd b hb'
          · simp at hb'; subst hb'; exact hdx
    · have e : n = l.length := by omega
      subst e
      rw [List.take_length] at hd ⊢
      exact ⟨rfl, hd⟩
  obtain ⟨r, hr, ⟨rfl, h⟩ | ⟨rfl, h⟩⟩ := h
  · exact .inl ⟨hr, h⟩
  · exact .inr ⟨hr, h⟩
theorem lread_tot (s : List UInt8) (hs : s.length ≤ 100000) : Tot (s_l1Read (str s)) fun _ => True := by
  unfold s_l1Read
  rw [str_s]
  refine .call (P := fun n => ∃ l : List UInt8, n = str l ∧ l.length ≤ s.length) ?_ fun n ⟨l, hl, hll⟩ => ?_
  · refine .call (P := fun v => v = true → 1 < s.length) ?_ fun v hv => .ite (fun h => ?_) (fun h => .ok ⟨s, rfl, Nat.le_refl _⟩)
    · refine .iteP (fun h => ?_) (fun h => .ok (fun h => by cases h))
      refine .chk ⟨by omega, by omega⟩ (.ok (fun _ => by omega))
    · have := hv h
      refine .chk ⟨by omega, by omega⟩ (.ok ⟨s.drop 1, ?_, by simp⟩)
      rw [str_ext, List.take_length]; rfl
  subst hl
  rw [str_s, lin_eq, Option.bind_some]
  refine .iteN (fun h => .ok trivial) (fun h6 => ?_)
  rcases lread_loop l (by omega) with ⟨h, hd⟩ | ⟨h, _⟩
  · rw [h]
    have hvl : valD l < 10 ^ l.length := valD_lt _ l rfl hd
    have hv6 : valD l < 1000000 := Nat.lt_of_lt_of_le hvl (Nat.pow_le_pow_right (by omega) (by omega : l.length ≤ 6))
    show Tot ((if (decide (((l.length : Int)) < (s.length : Int))) = true then some (w64 (0 - (valD l : Int))) else some (valD l : Int)).bind _) _
    refine .call (P := fun i => -1000000 < i ∧ i < 1000000) (.iteP (fun _ => .ok (by rw [w64_id (by omega)]; omega)) (fun _ => .ok (by omega))) fun i hi => .eq (lnumI hi.1 hi.2) (.ite (fun _ => .ok trivial) (fun _ => .ok trivial))
  · rw [h]; exact ⟨_, rfl, trivial⟩
theorem lread_num {n : Nat} (hn : n < 1000000) : s_l1Read (str (num n)) = some ((n : Int), true) := by
  have hl := num_len hn
  have hc := num_can n
  unfold s_l1Read
  rw [str_s]
  have e1 : (if (decide (1 < ((num n).length : Int))) = true then (chk ((0 : Int) ≤ 0 ∧ 0 < ((num n).length : Int))).bind fun u => some ((((str (num n)).data.toList.getD (0 : Int).toNat 0).toNat : Int) == 45) else some false) = some false := by
    split
    · rw [chk_of ⟨by omega, by omega⟩, Option.bind_some, str_l]
      cases hx : num n with
      | nil => rw [hx] at hl; simp at hl
      | cons b r =>
        have hb := hc.2.1 b (by rw [hx]; simp)
        have : (((b :: r).getD (0 : Int).toNat 0).toNat : Int) = b.toNat := rfl
        rw [this]
        have h1 := hb.1
        congr 1
        simp; omega
    · rfl
  rw [e1]
  simp only [Option.bind_some, Bool.false_eq_true, if_false]
  rw [str_s, lin_eq, decide_eq_true (by omega)]
  simp only [Option.bind_some, Bool.not_true, Bool.false_eq_true, if_false]
  rcases lread_loop (num n) hl.2 with ⟨h, _⟩ | ⟨_, h⟩
  · rw [h]
    show ((if (decide (((num n).length : Int) < ((num n).length : Int))) = true then some (w64 (0 - (valD (num n) : Int))) else some (valD (num n) : Int)).bind _) = _
    rw [decide_eq_false (by omega), val_num]
    simp only [Bool.false_eq_true, if_false, Option.bind_some]
    rw [lnumI (by omega) (by omega), Option.bind_some, itoa_nat, beq_str]
    simp
  · exact absurd hc.2.1 h

/-- The days of the week. -/
theorem spw_ok (q : List (List UInt8)) (w7 : List UInt8) (h1 : q[1]? = some w7) (hl : w7.length = 7) : iter (s_ParseCalendar_L1 (q.map str)) ((0 : Int), (0 : Int)) = some (wA (fun i => decide (w7.getD i 0 ≠ 46)) 7) := by
  refine Tot.val (Tot.iter (fun k a => ∃ i : Nat, k + i = 7 ∧ a = ((i : Int), wA (fun i => decide (w7.getD i 0 ≠ 46)) i)) (n := 7) ⟨0, rfl, rfl⟩ ?_)
  rintro k _ ⟨i, hk, rfl⟩
  unfold s_ParseCalendar_L1
  dsimp only
  have hi1 : idx (q.map str) 1 = some (str w7) := by
    have : (q.map str)[1]? = some (str w7) := by rw [List.getElem?_map, h1]; rfl
    exact ixs (i := 1) this
  refine .iteP (fun hlt => ?_) (fun hge => .dn (by rw [show i = 7 by omega]))
  rw [hi1, Option.bind_some, str_s, str_l, hl, u64_id (by omega) (by omega), show (i : Int).toNat = i by omega]
  have e46 : (((w7.getD i 0).toNat : Int) != 46) = decide (w7.getD i 0 ≠ 46) := by
    have := u8_eq (w7.getD i 0) 46
    show (!((((w7.getD i 0).toNat : Nat) : Int) == 46)) = _
    rw [show (46 : Int) = ((46 : UInt8).toNat : Int) from rfl, this]
    by_cases h : w7.getD i 0 = 46 <;> simp [h]
  rw [e46]
  refine .call (P := fun r => r = wA (fun i => decide (w7.getD i 0 ≠ 46)) (i + 1)) (.chk ⟨by omega, by omega⟩ (.iteP (fun h => .chk (by omega) (.ok ?_)) (fun h => .ok ?_))) fun r hr => .nx ⟨k - 1, by omega, i + 1, by omega, by rw [hr, w64_succ (by omega)]⟩
  · rw [wA, if_pos (decide_eq_true h)]; rfl
  · rw [wA, if_neg (by rw [decide_eq_true_eq]; exact h)]
/-- The days out of the order: an answer in any case. -/
theorem spd_tot (q : List (List UInt8)) (hq : q.length ≤ 200000) (hp : ∀ p ∈ q, p.length ≤ 100000) : Tot (iter (s_ParseCalendar_L2 (q.map str)) ((2 : Int), ([] : List Int), ([] : List Int))) fun r => r = .ret (zc, false) ∨ ∃ A R, r = .go (A, R) ∧ A.length ≤ 300000 ∧ R.length ≤ 300000 := by
  refine Tot.iter (fun k a => ∃ i : Nat, k + i = q.length + 2 ∧ a.1 = (i : Int) ∧ a.2.1.length ≤ i ∧ a.2.2.length ≤ i) (n := q.length) ⟨2, rfl, rfl, by simp, by simp⟩ ?_
  rintro k ⟨_, A, R⟩ ⟨i, hk, rfl, hA, hR⟩
  dsimp only at hA hR
  unfold s_ParseCalendar_L2
  dsimp only
  refine .iteP (fun hlt => ?_) (fun hge => .dn (.inr ⟨A, R, rfl, by omega, by omega⟩))
  have hlt' : i < q.length := by simp at hlt; omega
  obtain ⟨p, hpq⟩ := get_ex (l := q) (i := i) hlt'
  have hpl := hp p (List.mem_of_getElem? hpq)
  have hix : idx (q.map str) (i : Int) = some (str p) := ixs (by rw [List.getElem?_map, hpq]; rfl)
  refine Tot.flb ?_
  rw [hix, Option.bind_some, beq_str]
  have rt : ∀ {P : Int × List Int × List Int → Prop} {Q : Fl (Calendar × Bool) (List Int × List Int) → Prop}, Q (.ret (zc, false)) → (∀ a', (Lp.dn (.ret (zc, false)) : Lp (Int × List Int × List Int) (Fl (Calendar × Bool) (List Int × List Int))) = .nx a' → P a') ∧ ∀ b, (Lp.dn (.ret (zc, false)) : Lp (Int × List Int × List Int) (Fl (Calendar × Bool) (List Int × List Int))) = .dn b → Q b :=
    fun hq => ⟨fun a' e => (by cases e), fun b' e => (by cases e; exact hq)⟩
  refine .iteP (fun h0 => .ret (rt (.inl rfl))) (fun h0 => ?_)
  have hpos := List.length_pos_iff.2 h0
  rw [Option.bind_some, str_s]
  refine .chk ⟨by omega, by omega⟩ ?_
  have ee : (str p).extract (1 : Int).toNat p.length = str (p.drop 1) := by rw [str_ext, List.take_length]; rfl
  rw [ee]
  refine .call (lread_tot (p.drop 1) (by simp; omega)) fun r _ => .ite (fun _ => .ret (rt (.inl rfl))) (fun _ => ?_)
  rw [Option.bind_some, str_s]
  refine .chk ⟨by omega, by omega⟩ (.ite (fun _ => .chk (by simp; omega) (.go (.nx ⟨k - 1, by omega, i + 1, by omega, w64_succ (by omega), by simp; omega, by dsimp only; omega⟩))) (fun _ => .chk (by simp; omega) (.go (.nx ⟨k - 1, by omega, i + 1, by omega, w64_succ (by omega), by dsimp only; omega, by simp; omega⟩))))
theorem spd_ok (p0 p1 : List UInt8) (A R : List Int) (hA : InP A) (hR : InP R) (lA : A.length ≤ 1000) (lR : R.length ≤ 1000) :
    iter (s_ParseCalendar_L2 ((p0 :: p1 :: (A.map (fun x => 43 :: Lib.itoa x) ++ R.map (fun x => 45 :: Lib.itoa x))).map str)) ((2 : Int), ([] : List Int), ([] : List Int)) = some (.go (A, R)) := by
  refine Tot.val (Tot.iter (fun k a => ∃ i : Nat, k + i = A.length + R.length ∧ a = (((2 + i : Nat) : Int), A.take i, R.take (i - A.length))) (n := A.length + R.length) ⟨0, rfl, by simp⟩ ?_)
  rintro k _ ⟨i, hk, rfl⟩
  unfold s_ParseCalendar_L2
  dsimp only
  have hlen : (((p0 :: p1 :: (A.map (fun x => 43 :: Lib.itoa x) ++ R.map (fun x => 45 :: Lib.itoa x))).map str).length : Int) = ((2 + (A.length + R.length) : Nat) : Int) := by simp; omega
  rw [hlen]
  refine .iteP (fun hlt => ?_) (fun hge => .dn (by rw [show i = A.length + R.length by omega, List.take_of_length_le (by omega), List.take_of_length_le (by omega)]))
  obtain ⟨op, x, hx, hxr, hcase⟩ : ∃ (op : UInt8) (x : Int), idx ((p0 :: p1 :: (A.map (fun x => 43 :: Lib.itoa x) ++ R.map (fun x => 45 :: Lib.itoa x))).map str) (((2 + i : Nat) : Int)) = some (str (op :: Lib.itoa x)) ∧ (0 ≤ x ∧ x < 1000000) ∧ ((op = 43 ∧ A[i]? = some x ∧ i < A.length) ∨ (op = 45 ∧ R[i - A.length]? = some x ∧ A.length ≤ i)) := by
    by_cases hi : i < A.length
    · obtain ⟨x, hx⟩ := get_ex (l := A) (i := i) hi
      refine ⟨43, x, ixs ?_, hA x (List.mem_of_getElem? hx), .inl ⟨rfl, hx, hi⟩⟩
      rw [List.getElem?_map, show 2 + i = i + 1 + 1 by omega, List.getElem?_cons_succ, List.getElem?_cons_succ, List.getElem?_append_left (by simpa using hi), List.getElem?_map, hx]
      rfl
    · obtain ⟨x, hx⟩ := get_ex (l := R) (i := i - A.length) (by omega)
      refine ⟨45, x, ixs ?_, hR x (List.mem_of_getElem? hx), .inr ⟨rfl, hx, by omega⟩⟩
      rw [List.getElem?_map, show 2 + i = i + 1 + 1 by omega, List.getElem?_cons_succ, List.getElem?_cons_succ, List.getElem?_append_right (by simp; omega), List.length_map, List.getElem?_map, hx]
      rfl
  have hl := itoa_len (n := x) (by omega) (by omega)
  refine Tot.flb ?_
  rw [hx, Option.bind_some, beq_str, decide_eq_false (by simp)]
  simp only [Bool.false_eq_true, if_false]
  rw [Option.bind_some, str_s]
  refine .chk ⟨by omega, by simp; omega⟩ ?_
  have ee : (str (op :: Lib.itoa x)).extract (1 : Int).toNat (op :: Lib.itoa x).length = str (num x.toNat) := by rw [str_ext, List.take_length, itoa_n hxr.1]; rfl
  have ew : w64 ((2 + i : Nat) : Int) + 1 = ((2 + (i + 1) : Nat) : Int) := by rw [w64_id (by omega)]; omega
  have ew2 : w64 (((2 + i : Nat) : Int) + 1) = ((2 + (i + 1) : Nat) : Int) := by rw [w64_id (by omega)]; omega
  rw [ee, lread_num (by omega), Option.bind_some]
  simp only [Bool.not_true, Bool.false_eq_true, if_false]
  rw [Option.bind_some, str_s, str_l]
  have e43 : (((op :: Lib.itoa x).getD (0 : Int).toNat 0).toNat : Int) = (op.toNat : Int) := rfl
  have eop : ((op.toNat : Int) == 43) = decide (op = 43) := u8_eq op 43
  rw [e43, eop, show ((x.toNat : Nat) : Int) = x by omega, ew2]
  refine .chk ⟨by omega, by rw [List.length_cons]; omega⟩ ?_
  rcases hcase with ⟨rfl, h1, h2⟩ | ⟨rfl, h1, h2⟩
  · rw [decide_eq_true rfl]
    simp only [if_true]
    refine .chk (by simp; omega) (.go (.nx ⟨k - 1, by omega, i + 1, by omega, ?_⟩))
    rw [take_succ h1, show i + 1 - A.length = 0 by omega, show i - A.length = 0 by omega]
  · rw [decide_eq_false (by decide)]
    simp only [Bool.false_eq_true, if_false]
    refine .chk (by simp; omega) (.go (.nx ⟨k - 1, by omega, i + 1, by omega, ?_⟩))
    have hA1 : A.take i = A := List.take_of_length_le h2
    have hA2 : A.take (i + 1) = A := List.take_of_length_le (by omega)
    rw [hA1, hA2, show i + 1 - A.length = i - A.length + 1 by omega, take_succ h1]
/-- The parts of a calendar's text. -/
theorem no32_i {x : Int} (h : 0 ≤ x) {op : UInt8} (ho : op ≠ 32) : 32 ∉ op :: Lib.itoa x := by
  rw [itoa_n h]
  simp only [List.mem_cons, not_or]
  exact ⟨fun e => ho e.symm, num_no (.inl (by decide)) _⟩
theorem spl_days1 {op : UInt8} (ho : op ≠ 32) : ∀ (l : List Int) (p : List UInt8), InP l → 32 ∉ p → spl1 32 (p ++ days op l) = p :: l.map (fun x => op :: Lib.itoa x)
  | [], p, _, hp => by
    rw [show days op [] = [] from rfl, List.append_nil]; exact spl1_self hp
  | x :: l, p, hl, hp => by
    have hx := hl x (List.mem_cons_self ..)
    rw [days_cons, spl1_app hp, show op :: (Lib.itoa x ++ days op l) = (op :: Lib.itoa x) ++ days op l from rfl, spl_days1 ho l _ (fun y hy => hl y (List.mem_cons_of_mem _ hy)) (no32_i hx.1 ho)]
    rfl
theorem spl_days2 (R : List Int) (hR : InP R) : ∀ (A : List Int) (p : List UInt8), InP A → 32 ∉ p → spl1 32 (p ++ (days 43 A ++ days 45 R)) = p :: (A.map (fun x => 43 :: Lib.itoa x) ++ R.map (fun x => 45 :: Lib.itoa x))
  | [], p, _, hp => by
    rw [show days 43 [] = [] from rfl, List.nil_append]; exact spl_days1 (by decide) R p hR hp
  | x :: A, p, hA, hp => by
    have hx := hA x (List.mem_cons_self ..)
    rw [days_cons, show p ++ (32 :: 43 :: (Lib.itoa x ++ days 43 A) ++ days 45 R) = p ++ 32 :: ((43 :: Lib.itoa x) ++ (days 43 A ++ days 45 R)) by simp, spl1_app hp, spl_days2 R hR A _ (fun y hy => hA y (List.mem_cons_of_mem _ hy)) (no32_i hx.1 (by decide))]
    rfl
theorem wd_no (w : Int) : 32 ∉ wd w := by
  unfold wd
  intro h
  obtain ⟨i, hi, he⟩ := List.mem_map.1 h
  have hi7 := List.mem_range.1 hi
  unfold wdc at he
  split at he
  · match i, hi7 with
    | 0, _ => cases he
    | 1, _ => cases he
    | 2, _ => cases he
    | 3, _ => cases he
    | 4, _ => cases he
    | 5, _ => cases he
    | 6, _ => cases he
  · cases he
theorem valid_bd {c : Calendar} (h : ValidC c) : Bd c := by
  have h1 := h.1; have h2 := h.2.1
  have hp := valid_inp h
  exact ⟨by omega, by omega, fun x hx => by have := hp.1 x hx; omega, fun x hx => by have := hp.2 x hx; omega, by omega, by omega⟩
theorem valid_cb {c : Calendar} (h : ValidC c) : CB c := by
  have h2 := h.2.1
  exact ⟨by omega, by omega⟩
theorem days_len8 (op : UInt8) : ∀ {l : List Int}, InP l → (days op l).length ≤ 8 * l.length
  | [], _ => by simp [days]
  | x :: l, h => by
    have ih := days_len8 op (l := l) (fun y hy => h y (List.mem_cons_of_mem _ hy))
    have hx := h x (List.mem_cons_self ..)
    have := num_len (n := x.toNat) (by omega)
    rw [days_cons, itoa_n hx.1]
    simp; omega
theorem txt_len {c : Calendar} (h : ValidC c) : (txt c).length ≤ 150 := by
  have h1 := h.1; have h2 := h.2.1
  have hp := valid_inp h
  have a := days_len8 43 hp.1
  have b := days_len8 45 hp.2
  have f := num_len (n := c.From.toNat) (by omega)
  have t := num_len (n := c.To.toNat) (by omega)
  have w : (wd c.Weekdays).length = 7 := by unfold wd; simp
  unfold txt
  rw [itoa_n h1.1, itoa_n (by omega)]
  simp; omega
theorem sparse_c {c : Calendar} (h : ValidC c) : s_ParseCalendar (str (txt c)) = some (c, true) := by
  have h1 := h.1; have h2 := h.2.1
  have hp := valid_inp h
  have hlen := txt_len h
  have wl : (wd c.Weekdays).length = 7 := by unfold wd; simp
  have hsp : spl1 32 (txt c) = (num c.From.toNat ++ 45 :: num c.To.toNat) :: wd c.Weekdays :: (c.Added.map (fun x => 43 :: Lib.itoa x) ++ c.Removed.map (fun x => 45 :: Lib.itoa x)) := by
    unfold txt
    rw [itoa_n h1.1, itoa_n (by omega), show num c.From.toNat ++ 45 :: (num c.To.toNat ++ 32 :: (wd c.Weekdays ++ (days 43 c.Added ++ days 45 c.Removed))) = (num c.From.toNat ++ 45 :: num c.To.toNat) ++ 32 :: (wd c.Weekdays ++ (days 43 c.Added ++ days 45 c.Removed)) by simp, spl1_app, spl_days2 _ hp.2 _ _ hp.1 (wd_no _)]
    simp only [List.mem_append, List.mem_cons, not_or]
    exact ⟨num_no (.inl (by decide)) _, by decide, num_no (.inl (by decide)) _⟩
  unfold s_ParseCalendar
  have e32 : mkU8 32 = 32 := rfl
  have e45 : mkU8 45 = 45 := rfl
  rw [e32, e45, lsplit_ok _ 32 (by omega), Option.bind_some, hsp, str_s, decide_eq_false (by omega)]
  simp only [Bool.false_eq_true, if_false]
  obtain ⟨q, hq⟩ : ∃ q, q = (num c.From.toNat ++ 45 :: num c.To.toNat) :: wd c.Weekdays :: (c.Added.map (fun x => 43 :: Lib.itoa x) ++ c.Removed.map (fun x => 45 :: Lib.itoa x)) := ⟨_, rfl⟩
  have hql : ((q.map str).length : Int) = 2 + (c.Added.length + c.Removed.length) := by rw [hq]; simp; omega
  have i0 : idx (q.map str) 0 = some (str (num c.From.toNat ++ 45 :: num c.To.toNat)) := by rw [hq]; rfl
  have i1 : idx (q.map str) 1 = some (str (wd c.Weekdays)) := by rw [hq]; rfl
  have hw1 := spw_ok q (wd c.Weekdays) (by rw [hq]; rfl) wl
  have hd1 := spd_ok (num c.From.toNat ++ 45 :: num c.To.toNat) (wd c.Weekdays) c.Added c.Removed hp.1 hp.2 (by omega) (by omega)
  rw [← hq] at hd1 ⊢
  have fl := num_len (n := c.From.toNat) (by omega)
  have tl := num_len (n := c.To.toNat) (by omega)
  have hs45 : spl1 45 (num c.From.toNat ++ 45 :: num c.To.toNat) = [num c.From.toNat, num c.To.toNat] := by
    rw [spl1_app (num_no (.inl (by decide)) _), spl1_self (num_no (.inl (by decide)) _)]
  rw [hql, decide_eq_false (by omega), i1]
  simp only [Bool.false_eq_true, if_false, Option.bind_some]
  rw [str_s, wl]
  simp only [show (((7 : Nat) : Int) != 7) = false from rfl, Bool.false_eq_true, if_false]
  rw [i0, Option.bind_some, lsplit_ok _ 45 (by simp; omega), Option.bind_some, hs45]
  simp only [List.map_cons, List.map_nil, List.length_cons, List.length_nil]
  have z0 : idx [str (num c.From.toNat), str (num c.To.toNat)] 0 = some (str (num c.From.toNat)) := rfl
  have z1 : idx [str (num c.From.toNat), str (num c.To.toNat)] 1 = some (str (num c.To.toNat)) := rfl
  simp only [show ((((0 + 1 + 1 : Nat) : Int)) != 2) = false from rfl, Bool.false_eq_true, if_false]
  rw [z0, Option.bind_some, lread_num (by omega), Option.bind_some, z1, Option.bind_some, lread_num (by omega), Option.bind_some]
  simp only [Bool.not_true, Bool.false_eq_true, if_false, Option.bind_some]
  have hW : wA (fun i => decide ((wd c.Weekdays).getD i 0 ≠ 46)) 7 = c.Weekdays := by
    refine Eq.trans (wA_congr fun i hi => ?_) (wA_bit h1.2.2.2.1 h1.2.2.2.2)
    have := wd_get c.Weekdays hi []
    rw [List.append_nil] at this
    rw [this]
    exact wdc_dot c.Weekdays hi
  rw [hw1, Option.bind_some, hW, hd1]
  show (s_l3Good (⟨((c.From.toNat : Nat) : Int), ((c.To.toNat : Nat) : Int), c.Weekdays, c.Added, c.Removed⟩ : Calendar)).bind _ = _
  have ec : (⟨((c.From.toNat : Nat) : Int), ((c.To.toNat : Nat) : Int), c.Weekdays, c.Added, c.Removed⟩ : Calendar) = c := by
    rw [show ((c.From.toNat : Nat) : Int) = c.From by omega, show ((c.To.toNat : Nat) : Int) = c.To by omega]
  simp only [ec]
  rw [lgood_eq c (valid_cb h), decide_eq_true h, Option.bind_some, ltext_ok c (valid_bd h)]
  simp only [Bool.not_true, Bool.false_eq_true, if_false, Option.bind_some, beq_self_eq_true]
theorem sparse_t (s : List UInt8) (hs : s.length ≤ 100000) : Tot (s_ParseCalendar (str s)) fun r => r = (zc, false) ∨ ∃ c, r = (c, true) ∧ ValidC c ∧ txt c = s := by
  unfold s_ParseCalendar
  have e32 : mkU8 32 = 32 := rfl
  have e45 : mkU8 45 = 45 := rfl
  rw [e32, e45, lsplit_ok _ 32 (by omega), Option.bind_some, str_s]
  obtain ⟨q, hq⟩ : ∃ q, q = spl1 32 s := ⟨_, rfl⟩
  rw [← hq]
  have hqj : Lib.join q [32] = s := by rw [hq]; exact join_spl1 32 s
  have sb : ∀ (c : UInt8) (l : List UInt8), (spl1 c l).length ≤ l.length + 1 ∧ ∀ p ∈ spl1 c l, p.length ≤ l.length := by
    intro c l
    induction l with
    | nil => simp [spl1]
    | cons x r ih =>
      by_cases h : x = c
      · rw [spl1, if_pos h]
        refine ⟨by simp; exact ih.1, fun p hp => ?_⟩
        rcases List.mem_cons.1 hp with rfl | hp
        · simp
        · have := ih.2 p hp; simp; omega
      · obtain ⟨a, t, h1, h2⟩ := spl1_cons (r := r) h
        rw [h2]
        rw [h1] at ih
        refine ⟨by have := ih.1; simp at this ⊢; omega, fun p hp => ?_⟩
        rcases List.mem_cons.1 hp with rfl | hp
        · have := ih.2 a (List.mem_cons_self ..); simp; omega
        · have := ih.2 p (List.mem_cons_of_mem _ hp); simp; omega
  have hqb := sb 32 s
  rw [← hq] at hqb
  have ixq : ∀ (i : Nat) p, q[i]? = some p → idx (q.map str) (i : Int) = some (str p) := fun i p h => ixs (by rw [List.getElem?_map, h]; rfl)
  refine .call (P := fun v => v = false → ∃ p0 p1, q[0]? = some p0 ∧ q[1]? = some p1 ∧ p1.length = 7) (.iteP (fun _ => .ok (fun h => (by cases h))) (fun h150 => .iteP (fun _ => .ok (fun h => (by cases h))) (fun h2 => ?_))) fun v hv => .ite (fun _ => .ok (.inl rfl)) (fun h => ?_)
  · simp only [List.length_map] at h2
    obtain ⟨p0, hp0⟩ := get_ex (l := q) (i := 0) (by omega)
    obtain ⟨p1, hp1⟩ := get_ex (l := q) (i := 1) (by omega)
    refine .eq (ixq 1 p1 hp1) (.ok fun h => ⟨p0, p1, hp0, hp1, ?_⟩)
    rw [str_s] at h
    simp at h; omega
  obtain ⟨p0, p1, hp0, hp1, h7⟩ := hv h
  have hp0l := hqb.2 p0 (List.mem_of_getElem? hp0)
  refine .eq (ixq 0 p0 hp0) ?_
  rw [lsplit_ok p0 45 (by omega), Option.bind_some]
  have hpb := sb 45 p0
  obtain ⟨u, hu⟩ : ∃ u, u = spl1 45 p0 := ⟨_, rfl⟩
  rw [← hu] at hpb ⊢
  refine .ite (fun _ => .ok (.inl rfl)) (fun h2 => ?_)
  have hul : u.length = 2 := by simp at h2; omega
  obtain ⟨a0, ha0⟩ := get_ex (l := u) (i := 0) (by omega)
  obtain ⟨a1, ha1⟩ := get_ex (l := u) (i := 1) (by omega)
  have l0 := hpb.2 a0 (List.mem_of_getElem? ha0)
  have l1 := hpb.2 a1 (List.mem_of_getElem? ha1)
  have ix0 : idx (u.map str) 0 = some (str a0) := ixs (i := 0) (by rw [List.getElem?_map, ha0]; rfl)
  have ix1 : idx (u.map str) 1 = some (str a1) := ixs (i := 1) (by rw [List.getElem?_map, ha1]; rfl)
  refine .eq ix0 (.call (lread_tot a0 (by omega)) fun r2 _ => .eq ix1 (.call (lread_tot a1 (by omega)) fun r3 _ => .call (P := fun _ => True) (.ite (fun _ => .ok trivial) (fun _ => .ok trivial)) fun v1 _ => .ite (fun _ => .ok (.inl rfl)) (fun _ => ?_)))
  refine .eq (spw_ok q p1 hp1 h7) (Tot.flb (Tot.mono (spd_tot q (by omega) (fun p hp => by have := hqb.2 p hp; omega)) ?_))
  rintro r (rfl | ⟨A, R, rfl, hAl, hRl⟩)
  · exact ⟨fun r e => (by cases e; exact .inl rfl), fun u e => (by cases e)⟩
  refine ⟨fun r e => (by cases e), fun u e => ?_⟩
  cases e
  dsimp only
  obtain ⟨c, hc⟩ : ∃ c : Calendar, c = ⟨r2.1, r3.1, wA (fun i => decide (p1.getD i 0 ≠ 46)) 7, A, R⟩ := ⟨_, rfl⟩
  rw [← hc, lgood_eq c (by rw [hc]; exact ⟨by dsimp only; omega, by dsimp only; omega⟩), Option.bind_some]
  refine .call (P := fun v => v = false → ValidC c ∧ txt c = s) (.iteN (fun _ => .ok (fun h => (by cases h))) (fun hv => ?_)) fun v hv => .ite (fun _ => .ok (.inl rfl)) (fun h => .ok (.inr ⟨c, rfl, (hv h).1, (hv h).2⟩))
  rw [ltext_ok c (valid_bd hv), Option.bind_some, beq_str]
  refine .ok fun h => ⟨hv, ?_⟩
  simpa using h
theorem parse_same (s : List UInt8) (hs : s.length ≤ 100000) : ∃ r, i_ParseCalendar (str s) = some r ∧ s_ParseCalendar (str s) = some r ∧ PS s r := by
  obtain ⟨r, hr, hp⟩ := iparse_ok s hs
  refine ⟨r, hr, ?_, hp⟩
  rcases hp with ⟨c, hc, he, rfl⟩ | ⟨rfl, hno⟩
  · rw [← he]; exact sparse_c hc
  · obtain ⟨r', hr', h⟩ := sparse_t s hs
    rcases h with rfl | ⟨c, _, hc, he⟩
    · exact hr'
    · exact absurd ⟨c, hc, he⟩ hno
/-! Calendars: one day excepted; what runs; the draws; the law. -/
theorem sp_dec (d : Int) : ∀ {l : List Int}, l.Pairwise (· < ·) → ∃ a b, (∀ x ∈ a, x < d) ∧ (∀ x ∈ b, d < x) ∧ ((l = a ++ b) ∨ (l = a ++ d :: b))
  | [], _ => ⟨[], [], by simp, by simp, .inl rfl⟩
  | x :: l, h => by
    rw [List.pairwise_cons] at h
    obtain ⟨a, b, ha, hb, hl⟩ := sp_dec d h.2
    rcases Int.lt_trichotomy x d with hx | hx | hx
    · refine ⟨x :: a, b, fun y hy => ?_, hb, ?_⟩
      · rcases List.mem_cons.1 hy with rfl | hy
        · exact hx
        · exact ha y hy
      · rcases hl with rfl | rfl
        · exact .inl rfl
        · exact .inr rfl
    · subst hx
      have : ∀ y ∈ l, x < y := h.1
      exact ⟨[], l, by simp, this, .inr rfl⟩
    · exact ⟨[], x :: l, by simp, fun y hy => by
        rcases List.mem_cons.1 hy with rfl | hy
        · exact hx
        · have := h.1 y hy; omega, .inl rfl⟩
theorem bs_ok (l : List Int) (d : Int) (hl : l.length ≤ 100000) {a b : List Int} (ha : ∀ x ∈ a, x < d) (hb : ∀ x ∈ b, d < x) (h : l = a ++ b ∨ l = a ++ d :: b) :
    slices_BinarySearch_int l d = some ((a.length : Int), decide (l = a ++ d :: b)) := by
  have hlow : ∀ (i : Nat) x, l[i]? = some x → i < a.length → x < d := by
    intro i x hx hi
    rcases h with rfl | rfl
    · rw [List.getElem?_append_left hi] at hx; exact ha x (List.mem_of_getElem? hx)
    · rw [List.getElem?_append_left hi] at hx; exact ha x (List.mem_of_getElem? hx)
  have hhigh : ∀ (i : Nat) x, l[i]? = some x → a.length ≤ i → d ≤ x := by
    intro i x hx hi
    rcases h with rfl | rfl
    · rw [List.getElem?_append_right hi] at hx; have := hb x (List.mem_of_getElem? hx); omega
    · rw [List.getElem?_append_right hi] at hx
      rcases List.mem_cons.1 (List.mem_of_getElem? hx) with rfl | hm
      · omega
      · have := hb x hm; omega
  have hal : a.length ≤ l.length := by rcases h with rfl | rfl <;> simp
  have hloop : iter (slices_BinarySearch_int_L1 l d) ((0 : Int), (l.length : Int)) = some (a.length : Int) := by
    refine Tot.val (Tot.iter (fun k s => ∃ i j : Nat, s = ((i : Int), (j : Int)) ∧ i ≤ a.length ∧ a.length ≤ j ∧ j ≤ l.length ∧ k = j - i) (n := l.length) ⟨0, l.length, rfl, by omega, hal, Nat.le_refl _, by omega⟩ ?_)
    rintro k _ ⟨i, j, rfl, hi, hj, hjl, rfl⟩
    unfold slices_BinarySearch_int_L1
    dsimp only
    refine .iteP (fun hlt => ?_) (fun hge => .dn (by omega))
    have e1 : w64 (((IntKind.u64.wrap (w64 ((i : Int) + (j : Int)))).fdiv (2 ^ (min (1 : Int).toNat (IntKind.u64).bits)))) = (((i + j) / 2 : Nat) : Int) := by
      have e2 : IntKind.u64.wrap (w64 ((i : Int) + (j : Int))) = ((i + j : Nat) : Int) := by
        rw [w64_id (by omega), IntKind.wrap_u64]; omega
      rw [e2]
      have e3 : (2 : Int) ^ (min (1 : Int).toNat (IntKind.u64).bits) = 2 := by decide
      rw [e3, Int.fdiv_eq_ediv_of_nonneg _ (by omega), w64_id (by omega)]
      omega
    rw [e1]
    obtain ⟨x, hx⟩ := get_ex (l := l) (i := (i + j) / 2) (by omega)
    refine .chk (by omega) (.eq (ixs hx) ?_)
    have hls : cmp_Less_int x d = some (decide (x < d)) := by
      unfold cmp_Less_int cmp_isNaN_int; simp
    rw [hls, Option.bind_some]
    refine .iteP (fun h1 => .nx ?_) (fun h1 => .nx ?_)
    · have : (i + j) / 2 < a.length := by
        apply Classical.byContradiction
        intro hn
        have := hhigh _ x hx (by omega)
        omega
      exact ⟨j - ((i + j) / 2 + 1), by omega, (i + j) / 2 + 1, j, by rw [w64_succ (by omega)], by omega, hj, hjl, rfl⟩
    · have : a.length ≤ (i + j) / 2 := by
        apply Classical.byContradiction
        intro hn
        exact h1 (hlow _ x hx (by omega))
      exact ⟨(i + j) / 2 - i, by omega, i, (i + j) / 2, rfl, hi, this, by omega, rfl⟩
  unfold slices_BinarySearch_int
  rw [hloop, Option.bind_some]
  by_cases hp : a.length < l.length
  · obtain ⟨x, hx⟩ := get_ex hp
    rw [decide_eq_true (by omega)]
    simp only [if_true]
    rw [ixs hx, Option.bind_some]
    by_cases hxd : x = d
    · subst hxd
      simp only [beq_self_eq_true, if_true, Option.bind_some]
      have : l = a ++ x :: b := by
        rcases h with rfl | h
        · rw [List.getElem?_append_right (Nat.le_refl _), Nat.sub_self] at hx
          have := hb x (List.mem_of_getElem? hx); omega
        · exact h
      rw [decide_eq_true this]
    · have e : (x == d) = false := by simpa using hxd
      simp only [e, Bool.false_eq_true, if_false]
      have hnan : slices_isNaN_int x = some false := by unfold slices_isNaN_int; simp
      rw [Option.bind_some, hnan]
      simp only [Option.bind_some, Bool.false_eq_true, if_false]
      rw [decide_eq_false]
      rintro rfl
      rw [List.getElem?_append_right (Nat.le_refl _), Nat.sub_self] at hx
      simp at hx
      exact hxd hx.symm
  · rw [decide_eq_false (by omega)]
    simp only [Bool.false_eq_true, if_false, Option.bind_some]
    rw [decide_eq_false]
    rintro rfl
    simp at hp
def putL (a b : List Int) (d : Int) (in_ : Bool) : List Int := if in_ = true then a ++ d :: b else a ++ b
theorem iwith_ok (l : List Int) (d : Int) (in_ : Bool) (hl : l.length ≤ 1000) {a b : List Int} (ha : ∀ x ∈ a, x < d) (hb : ∀ x ∈ b, d < x) (h : l = a ++ b ∨ l = a ++ d :: b) : i_withDay l d in_ = some (putL a b d in_) := by
  have hne : ∀ {l : List Int}, l = a ++ b → ¬ l = a ++ d :: b := fun h1 h2 => by
    have := congrArg List.length (h1.symm.trans h2); simp at this
  have hal : a.length ≤ l.length := by rcases h with rfl | rfl <;> simp
  unfold i_withDay
  rw [bs_ok l d (by omega) ha hb h, Option.bind_some]
  have ecl : slices_Clone_int l = some l := by
    unfold slices_Clone_int; rw [chk_of (by simp; omega)]; rfl
  rw [ecl, Option.bind_some]
  unfold putL
  rcases h with h | h
  · rw [decide_eq_false (hne h)]
    cases in_
    · simp [h]
    · simp only [if_true, Bool.not_false, Option.bind_some]
      unfold slices_Insert_int_m insM
      rw [if_pos ⟨by omega, by omega, by simp, by simp; omega⟩]
      simp [h]
  · rw [decide_eq_true h]
    cases in_
    · simp only [Bool.false_eq_true, if_false, Bool.not_false, if_true, Option.bind_some]
      unfold slices_Delete_int_m delM
      have hlen := congrArg List.length h
      simp at hlen
      rw [w64_succ (by omega), if_pos ⟨by omega, by omega, by omega⟩]
      simp only [Option.bind_some]
      congr 1
      rw [h, show ((a.length : Int)).toNat = a.length by omega, show (((a.length + 1 : Nat) : Int)).toNat = a.length + 1 by omega, List.take_left, ← List.drop_drop, List.drop_left]
      rfl
    · simp [h]
theorem without_ok (l : List Int) (d : Int) (hl : l.length ≤ 1000) {a b : List Int} (ha : ∀ x ∈ a, x < d) (hb : ∀ x ∈ b, d < x) (h : l = a ++ b ∨ l = a ++ d :: b) : s_l3Without l d = some (a ++ b) := by
  have h1 : iter (s_l3Without_L1 l d) ((0 : Int), ([] : List Int)) = some (l.filter (· != d)) := by
    refine Tot.val (Tot.iter (fun k s => ∃ i : Nat, k + i = l.length ∧ s = ((i : Int), (l.take i).filter (· != d))) (n := l.length) ⟨0, rfl, by simp⟩ ?_)
    rintro k _ ⟨i, hk, rfl⟩
    unfold s_l3Without_L1
    dsimp only
    refine .iteP (fun hlt => ?_) (fun hge => .dn (by rw [show i = l.length by omega, List.take_length]))
    obtain ⟨x, hx⟩ := get_ex (l := l) (i := i) (by omega)
    have hfl := List.length_filter_le (fun y => y != d) (l.take i)
    refine .call (P := fun r => r = (l.take (i + 1)).filter (· != d)) (.eq (ixs hx) (.ite (fun h => .eq (ixs hx) (.chk (by simp at hfl ⊢; omega) (.ok ?_))) (fun h => .ok ?_))) fun r hr => .nx ⟨k - 1, by omega, i + 1, by omega, by rw [hr, w64_succ (by omega)]⟩
    · rw [take_succ hx, List.filter_append]; simp [h]
    · rw [take_succ hx, List.filter_append]; simp [h]
  unfold s_l3Without
  rw [h1, Option.bind_some]
  congr 1
  have fa : a.filter (· != d) = a := List.filter_eq_self.2 fun x hx => by have := ha x hx; simp; omega
  have fb : b.filter (· != d) = b := List.filter_eq_self.2 fun x hx => by have := hb x hx; simp; omega
  rcases h with rfl | rfl
  · rw [List.filter_append, fa, fb]
  · rw [List.filter_append, fa, List.filter_cons]; simp [fb]
theorem put_ok (d : Int) {a b : List Int} (hl : (a ++ b).length ≤ 1000) (ha : ∀ x ∈ a, x < d) (hb : ∀ x ∈ b, d < x) : s_l1Put (a ++ b) d = some (a ++ d :: b) := by
  have hla : (a ++ b).length = a.length + b.length := List.length_append
  have h1 : iter (s_l1Put_L1 (a ++ b) d) (0 : Int) = some (a.length : Int) := by
    refine Tot.val (Tot.iter (fun k s => ∃ i : Nat, k + i = a.length ∧ s = (i : Int)) (n := a.length) ⟨0, rfl, rfl⟩ ?_)
    rintro k _ ⟨i, hk, rfl⟩
    unfold s_l1Put_L1
    refine .call (P := fun v => v = true ↔ i < a.length) (.iteP (fun hlt => ?_) (fun hge => .ok ?_)) fun v hv => .ite (fun h => .nx ⟨k - 1, by have := hv.1 h; omega, i + 1, by have := hv.1 h; omega, w64_succ (by omega)⟩) (fun h => .dn ?_)
    · obtain ⟨x, hx⟩ := get_ex (l := a ++ b) (i := i) (by omega)
      refine .eq (ixs hx) (.ok ?_)
      rw [decide_eq_true_eq]
      by_cases hi : i < a.length
      · rw [List.getElem?_append_left hi] at hx
        have := ha x (List.mem_of_getElem? hx)
        exact ⟨fun _ => hi, fun _ => this⟩
      · rw [List.getElem?_append_right (by omega)] at hx
        have := hb x (List.mem_of_getElem? hx)
        exact ⟨fun h => by omega, fun h => absurd h hi⟩
    · constructor
      · intro h; cases h
      · intro h; omega
    · have : ¬ i < a.length := fun hh => by have := hv.2 hh; rw [h] at this; cases this
      omega
  unfold s_l1Put
  rw [h1, Option.bind_some]
  have h2 : (if (decide ((a.length : Int) < ((a ++ b).length : Int))) = true then (idx (a ++ b) (a.length : Int)).bind fun e1 => some (e1 == d) else some false) = some false := by
    split
    · rename_i hlt
      have hlt' := of_decide_eq_true hlt
      obtain ⟨x, hx⟩ := get_ex (l := a ++ b) (i := a.length) (by omega)
      rw [ixs hx, Option.bind_some]
      rw [List.getElem?_append_right (Nat.le_refl _)] at hx
      have := hb x (List.mem_of_getElem? hx)
      congr 1
      simp; omega
    · rfl
  rw [h2]
  simp only [Option.bind_some, Bool.false_eq_true, if_false]
  rw [chk_of ⟨by omega, by omega, by omega⟩, Option.bind_some, show ((a.length : Int)).toNat = a.length by omega, show (0 : Int).toNat = 0 from rfl, List.take_left, List.drop_left, List.drop_zero, List.nil_append]
  rw [chk_of (by simp; omega), Option.bind_some, chk_of (by simp; omega), Option.bind_some, chk_of ⟨by omega, by omega⟩, Option.bind_some, chk_of (by simp; omega), Option.bind_some]
  simp
theorem except_ok (c : Calendar) (d : Int) (runs : Bool) (hb : CB c) : (∃ r, i_ExceptDay c d runs = some r ∧ s_ExceptDay c d runs = some r ∧ (r = (zc, false) ∨ ∃ aA bA aR bR, r = (⟨c.From, c.To, c.Weekdays, putL aA bA d (runs && !byW c.Weekdays d), putL aR bR d (!runs && byW c.Weekdays d)⟩, true) ∧ ValidC c ∧ ValidC r.1 ∧ (c.From ≤ d ∧ d ≤ c.To) ∧
    (∀ x ∈ aA, x < d) ∧ (∀ x ∈ bA, d < x) ∧ (c.Added = aA ++ bA ∨ c.Added = aA ++ d :: bA) ∧ (∀ x ∈ aR, x < d) ∧ (∀ x ∈ bR, d < x) ∧ (c.Removed = aR ++ bR ∨ c.Removed = aR ++ d :: bR))) := by
  unfold i_ExceptDay s_ExceptDay
  rw [ivalid_eq c hb, lgood_eq c hb, lin_eq]
  simp only [Option.bind_some]
  by_cases hv : ValidC c
  · rw [decide_eq_true hv]
    simp only [Bool.not_true, Bool.false_eq_true, if_false]
    by_cases hd : c.From ≤ d ∧ d ≤ c.To
    · have h1 := hv.1; have h2 := hv.2.1
      rw [decide_eq_false (by omega : ¬ d < c.From), decide_eq_false (by omega : ¬ c.To < d), decide_eq_true hd]
      simp only [Bool.not_true, Bool.false_eq_true, if_false, Option.bind_some]
      obtain ⟨aA, bA, p1, p2, p3⟩ := sp_dec d h2.2.2.1.1
      obtain ⟨aR, bR, q1, q2, q3⟩ := sp_dec d h2.2.2.2.1
      have lA : (aA ++ bA).length ≤ 8 := by
        have h8 := h2.1
        rcases p3 with h | h
        · rw [h] at h8; exact h8
        · rw [h] at h8; simp at h8 ⊢; omega
      have lR : (aR ++ bR).length ≤ 8 := by
        have h8 := h2.2.1
        rcases q3 with h | h
        · rw [h] at h8; exact h8
        · rw [h] at h8; simp at h8 ⊢; omega
      have iA : ∀ b, i_withDay c.Added d b = some (putL aA bA d b) := fun b => iwith_ok _ _ _ (by omega) p1 p2 p3
      have iR : ∀ b, i_withDay c.Removed d b = some (putL aR bR d b) := fun b => iwith_ok _ _ _ (by omega) q1 q2 q3
      rw [byWeekday_eq _ (by omega), Option.bind_some, without_ok _ _ (by omega) p1 p2 p3, Option.bind_some, without_ok _ _ (by omega) q1 q2 q3, Option.bind_some, regular_eq c (by omega), decide_eq_true hd]
      simp only [Bool.true_and, Option.bind_some, iA, iR]
      have pA := put_ok d (a := aA) (b := bA) (by omega) p1 p2
      have pR := put_ok d (a := aR) (b := bR) (by omega) q1 q2
      obtain ⟨c', hc'⟩ : ∃ c' : Calendar, c' = ⟨c.From, c.To, c.Weekdays, putL aA bA d (runs && !byW c.Weekdays d), putL aR bR d (!runs && byW c.Weekdays d)⟩ := ⟨_, rfl⟩
      have hpl : ∀ (a b : List Int) (x : Bool), (a ++ b).length ≤ 8 → (putL a b d x).length ≤ 1000000 := fun a b x h => by
        unfold putL; split
        · simp at h ⊢; omega
        · omega
      have hcb : CB c' := by rw [hc']; exact ⟨hpl _ _ _ lA, hpl _ _ _ lR⟩
      have fin : ∀ (m1 m2 : Option (Calendar × Bool)), m1 = ((i_IsValidCalendar c').bind fun r6 => if (!r6) = true then some ((⟨0, 0, 0, ([] : List Int), ([] : List Int)⟩ : Calendar), false) else some (c', true)) → m2 = ((s_l3Good c').bind fun r6 => if (!r6) = true then some ((⟨0, 0, 0, ([] : List Int), ([] : List Int)⟩ : Calendar), false) else some (c', true)) → ∃ r, m1 = some r ∧ m2 = some r ∧ (r = (zc, false) ∨ ∃ aA bA aR bR, r = (⟨c.From, c.To, c.Weekdays, putL aA bA d (runs && !byW c.Weekdays d), putL aR bR d (!runs && byW c.Weekdays d)⟩, true) ∧ ValidC c ∧ ValidC r.1 ∧ (c.From ≤ d ∧ d ≤ c.To) ∧
          (∀ x ∈ aA, x < d) ∧ (∀ x ∈ bA, d < x) ∧ (c.Added = aA ++ bA ∨ c.Added = aA ++ d :: bA) ∧ (∀ x ∈ aR, x < d) ∧ (∀ x ∈ bR, d < x) ∧ (c.Removed = aR ++ bR ∨ c.Removed = aR ++ d :: bR)) := by
        intro m1 m2 e1 e2
        rw [ivalid_eq c' hcb, Option.bind_some] at e1
        rw [lgood_eq c' hcb, Option.bind_some] at e2
        by_cases hv' : ValidC c'
        · rw [decide_eq_true hv'] at e1 e2
          exact ⟨(c', true), e1, e2, .inr ⟨aA, bA, aR, bR, by rw [hc'], hv, hv', hd, p1, p2, p3, q1, q2, q3⟩⟩
        · rw [decide_eq_false hv'] at e1 e2
          exact ⟨(zc, false), e1, e2, .inl rfl⟩
      refine fin _ _ ?_ ?_
      · rw [hc']
        cases runs <;> cases byW c.Weekdays d <;> rfl
      · rw [hc']
        cases runs <;> cases byW c.Weekdays d <;> simp only [Bool.not_true, Bool.not_false, Bool.false_eq_true, if_true, if_false, Option.bind_some, pA, pR] <;> rfl
    · rw [decide_eq_false hd]
      refine ⟨(zc, false), ?_, rfl, .inl rfl⟩
      by_cases h1 : d < c.From
      · rw [decide_eq_true h1]; rfl
      · rw [decide_eq_false h1, decide_eq_true (by omega)]; rfl
  · rw [decide_eq_false hv]
    exact ⟨(zc, false), rfl, rfl, .inl rfl⟩
theorem contains_ok (l : List Int) (v : Int) (hl : l.length ≤ 1000000) : slices_Contains_int l v = some (decide (v ∈ l)) := by
  have h : Tot (iter (slices_Index_int_L1 l v) (0 : Int)) fun r => (r = .go () ∧ v ∉ l) ∨ (∃ i : Nat, r = .ret (i : Int) ∧ v ∈ l) := by
    refine Tot.iter (fun k a => ∃ i : Nat, k + i = l.length ∧ a = (i : Int) ∧ v ∉ l.take i) (n := l.length) ⟨0, rfl, rfl, by simp⟩ ?_
    rintro k _ ⟨i, hk, rfl, hno⟩
    unfold slices_Index_int_L1
    refine .iteP (fun hlt => ?_) (fun hge => .dn (.inl ⟨rfl, ?_⟩))
    · obtain ⟨x, hx⟩ := get_ex (l := l) (i := i) (by omega)
      refine .eq (ixs hx) (.ite (fun h => .dn (.inr ⟨i, rfl, by have := eq_of_beq h; subst this; exact List.mem_of_getElem? hx⟩)) (fun h => .nx ⟨k - 1, by omega, i + 1, by omega, w64_succ (by omega), ?_⟩))
      rw [take_succ hx]
      simp only [List.mem_append, List.mem_singleton, not_or]
      exact ⟨hno, fun e => by rw [e] at h; simp at h⟩
    · have e : i = l.length := by omega
      subst e
      rwa [List.take_length] at hno
  unfold slices_Contains_int slices_Index_int
  obtain ⟨r, hr, ⟨rfl, h⟩ | ⟨i, rfl, h⟩⟩ := h
  · rw [hr, decide_eq_false h]; rfl
  · rw [hr, decide_eq_true h]
    show some (decide (0 ≤ (i : Int))) = _
    rw [decide_eq_true (by omega)]
def runsB (c : Calendar) (a : Int) : Bool := if byW c.Weekdays a = true then !decide (a ∈ c.Removed) || decide (a ∈ c.Added) else decide (a ∈ c.Added)
theorem runs_ok {c : Calendar} (h : ValidC c) {a : Int} (h1 : c.From ≤ a) (h2 : a ≤ c.To) : i_RunsOn c a = some (runsB c a, true) := by
  have g1 := h.1; have g2 := h.2.1
  unfold i_RunsOn
  rw [ivalid_eq c (valid_cb h), decide_eq_true h, isDay_eq, decide_eq_true (by omega)]
  simp only [Option.bind_some, Bool.not_true, Bool.false_eq_true, if_false]
  unfold i_runsOn
  rw [decide_eq_false (by omega : ¬ a < c.From), decide_eq_false (by omega : ¬ c.To < a), byWeekday_eq _ (by omega), contains_ok _ _ (by omega), contains_ok _ _ (by omega)]
  simp only [Bool.false_eq_true, if_false, Option.bind_some]
  unfold runsB
  cases byW c.Weekdays a
  · rfl
  · by_cases hm : a ∈ c.Removed
    · simp [hm]
    · simp [hm]
theorem cal_ok {c : l1Cur} (h : Cur 0 c) : Tot (s_l1Cur_calendar c) fun r => Cur 20000 r.2 ∧ (-10 ≤ r.1.From ∧ r.1.From ≤ 10000) ∧ (-10 ≤ r.1.To ∧ r.1.To ≤ 10000) ∧ (∀ x ∈ r.1.Added, 0 ≤ x ∧ x ≤ 10000) ∧ (∀ x ∈ r.1.Removed, 0 ≤ x ∧ x ≤ 10000) ∧ r.1.Added.length ≤ 10 ∧ r.1.Removed.length ≤ 10 := by
  unfold s_l1Cur_calendar
  refine .call (among_ok _ (by simp) h (by omega)) fun r ⟨h1, m1⟩ => .call (among_ok _ (by simp) h1 (by omega)) fun r1 ⟨h2, m2⟩ => .call (among_ok _ (by simp) h2 (by omega)) fun r2 ⟨h3, m3⟩ => ?_
  have b1 : 0 ≤ r.1 ∧ r.1 ≤ 3600 := by simp at m1; omega
  have b2 : 0 ≤ r1.1 ∧ r1.1 ≤ 40 := by simp at m2; omega
  have ew : w64 (r.1 + r1.1) = r.1 + r1.1 := w64_id (by omega)
  refine .call (P := fun o => Cur 10000 ⟨o.1, o.2.1, ⟨o.2.2.1⟩⟩ ∧ (∀ x ∈ o.2.2.2.1, 0 ≤ x ∧ x ≤ 4000) ∧ (∀ x ∈ o.2.2.2.2, 0 ≤ x ∧ x ≤ 4000) ∧ o.2.2.2.1.length + o.2.2.2.2.length ≤ 5) ?_ fun ⟨v12, v13, v14, v15, v16⟩ ⟨hc, hA, hR, hl⟩ => ?_
  · refine Tot.iter (fun k a => ∃ i : Nat, k + i = 42 ∧ a.1 = r.1 + i ∧ i ≤ 41 ∧ Cur (6 + 2 * i) ⟨a.2.1, a.2.2.1, ⟨a.2.2.2.1⟩⟩ ∧ (∀ x ∈ a.2.2.2.2.1, 0 ≤ x ∧ x ≤ 4000) ∧ (∀ x ∈ a.2.2.2.2.2, 0 ≤ x ∧ x ≤ 4000) ∧ a.2.2.2.2.1.length + a.2.2.2.2.2.length ≤ 5) (n := 42) ⟨0, rfl, by show r.1 = _; omega, by omega, h3.mono (by omega), by simp, by simp, by simp⟩ ?_
    rintro k ⟨v, v1, v2, v3, v4, v5⟩ ⟨i, hk, hv, hi, hc, hA, hR, hl⟩
    dsimp only at hv hc hA hR hl
    subst hv
    unfold s_l1Cur_calendar_L1
    dsimp only
    rw [ew, w64_id (x := (v4.length : Int) + (v5.length : Int)) (by omega)]
    refine .call (P := fun b => b = true → (i : Int) ≤ r1.1 ∧ v4.length + v5.length < 5) (.iteP (fun h1 => .ok (fun h2 => ⟨by omega, by have := of_decide_eq_true h2; omega⟩)) (fun _ => .ok (fun h => by cases h))) fun b hb => .ite (fun h => ?_) (fun h => .dn ⟨hc.mono (by omega), hA, hR, hl⟩)
    obtain ⟨g1, g2⟩ := hb h
    refine .call (P := fun o => Cur (6 + 2 * (i + 1)) ⟨o.1, o.2.1, ⟨o.2.2.1⟩⟩ ∧ (∀ x ∈ o.2.2.2.1, 0 ≤ x ∧ x ≤ 4000) ∧ (∀ x ∈ o.2.2.2.2, 0 ≤ x ∧ x ≤ 4000) ∧ o.2.2.2.1.length + o.2.2.2.2.length ≤ 5) (.call (one_ok 6 hc (by omega)) fun r3 h3 => .ite (fun _ => .ok ⟨h3.mono (by omega), hA, hR, by dsimp only; omega⟩) (fun _ => .eq (regular_eq _ (by omega)) (.ite (fun _ => .chk (by simp; omega) (.ok ⟨h3.mono (by omega), hA, fun x hx => ?_, by simp; omega⟩)) (fun _ => .chk (by simp; omega) (.ok ⟨h3.mono (by omega), fun x hx => ?_, hR, by simp; omega⟩))))) fun ⟨v7, v8, v9, v10, v11⟩ ⟨q1, q2, q3, q4⟩ => .nx ⟨k - 1, by omega, i + 1, by omega, by show w64 (r.1 + (i : Int) + 1) = _; rw [w64_id (by omega)]; omega, by omega, q1, q2, q3, q4⟩
    · rcases List.mem_append.1 hx with hx | hx
      · exact hR x hx
      · simp at hx; subst hx; omega
    · rcases List.mem_append.1 hx with hx | hx
      · exact hA x hx
      · simp at hx; subst hx; omega
  dsimp only at hc hA hR hl ⊢
  rw [ew, w64_id (x := r.1 + r1.1 + 1) (by omega)]
  have wk : ∀ {l : List Int}, (∀ x ∈ l, 0 ≤ x ∧ x ≤ 4000) → ∀ x ∈ l, 0 ≤ x ∧ x ≤ 10000 := fun h x hx => by have := h x hx; omega
  have wa : ∀ {l : List Int} {y : Int}, (∀ x ∈ l, 0 ≤ x ∧ x ≤ 4000) → 0 ≤ y → y ≤ 4000 → ∀ x ∈ l ++ [y], 0 ≤ x ∧ x ≤ 10000 := fun h h0 h1 x hx => by
    rcases List.mem_append.1 hx with hx | hx
    · have := h x hx; omega
    · simp at hx; subst hx; omega
  refine .call (P := fun o => Cur 20000 ⟨o.1, o.2.1, ⟨o.2.2.1⟩⟩ ∧ (-10 ≤ o.2.2.2.1 ∧ o.2.2.2.1 ≤ 10000) ∧ (∀ x ∈ o.2.2.2.2.2.1, 0 ≤ x ∧ x ≤ 10000) ∧ (∀ x ∈ o.2.2.2.2.2.2, 0 ≤ x ∧ x ≤ 10000) ∧ o.2.2.2.2.2.1.length ≤ 10 ∧ o.2.2.2.2.2.2.length ≤ 10) (.call (pick_ok 40 hc (by omega)) fun r5 ⟨h5, _, _⟩ => .ite (fun _ => .call (among_ok _ (by simp) h5 (by omega)) fun r6 ⟨h6, m6⟩ => .ok ⟨h6.mono (by omega), ?_, wk hA, wk hR, ?_, ?_⟩) (fun _ => .ite (fun _ => .call (among_ok _ (by simp) h5 (by omega)) fun r7 ⟨h7, _⟩ => .ok ⟨h7.mono (by omega), ?_, wk hA, wk hR, ?_, ?_⟩) (fun _ => .ite (fun _ => .chk (by simp; omega) (.ok ⟨h5.mono (by omega), ?_, wa hA (by omega) (by omega), wk hR, ?_, ?_⟩)) (fun _ => .ite (fun _ => .chk (by simp; omega) (.ok ⟨h5.mono (by omega), ?_, wk hA, wa hR (by omega) (by omega), ?_, ?_⟩)) (fun _ => .ok ⟨h5.mono (by omega), ?_, wk hA, wk hR, ?_, ?_⟩))))) fun ⟨v17, v18, v19, v20, v21, v22, v23⟩ ⟨q1, q2, q3, q4, q5, q6⟩ => .ok ⟨q1, by dsimp only; omega, q2, q3, q4, q5, q6⟩
  all_goals first | (dsimp only; simp at m6; omega) | (dsimp only; omega) | (simp; omega)
theorem spoilt_ok {k : Nat} {c : l1Cur} (h : Cur k c) (hk : k ≤ 1000000) (t : List UInt8) (ht : t.length ≤ 90000) : Tot (s_l1Cur_spoilt c (str t) (str [43, 45, 46, 32, 109, 48])) fun r => r.1.data.toList.length ≤ t.length + 1 := by
  unfold s_l1Cur_spoilt
  rw [beq_str]
  refine .iteP (fun e => ?_) (fun e => ?_)
  · refine .chk (by rw [str_s]; decide) (.ok ?_)
    rw [str_ext]
    show ((List.take 1 [43, 45, 46, 32, 109, 48]).drop 0).length ≤ _
    simp
  · have hpos : 0 < t.length := List.length_pos_iff.2 e
    rw [str_s]
    refine .call (pick_ok _ h (by omega)) fun r ⟨h1, a0, a1⟩ => .call (pick_ok _ h1 (by omega)) fun r1 ⟨h2, b0, b1⟩ => ?_
    have hw : (str [43, 45, 46, 32, 109, 48]).size = 6 := rfl
    rw [hw] at b1
    rw [hw]
    have hw5 : 1 ≤ ((List.take 6 ([43, 45, 46, 32, 109, 48] : List UInt8)).drop r1.1.toNat).length := by
      rw [List.length_drop, List.length_take]
      show 1 ≤ min 6 6 - r1.1.toNat
      omega
    obtain ⟨w, hwl, hwe⟩ : ∃ w : List UInt8, 1 ≤ w.length ∧ (str [43, 45, 46, 32, 109, 48]).extract r1.1.toNat 6 = str w := ⟨_, hw5, str_ext _ _ _⟩
    rw [hwe]
    have hx : (str w).extract (0 : Int).toNat (1 : Int).toNat = str (w.take 1) := by rw [str_ext]; simp
    have hx1 : (w.take 1).length ≤ 1 := by simp; omega
    have l0 : (str t).extract (0 : Int).toNat r.1.toNat = str (t.take r.1.toNat) := by rw [str_ext]; simp
    have l1 : ∀ n : Int, (str t).extract n.toNat t.length = str (t.drop n.toNat) := fun n => by rw [str_ext, List.take_length]
    have ew : w64 (r.1 + 1) = r.1 + 1 := w64_id (by omega)
    refine .chk (by omega) (.chk (by rw [str_s]; omega) (.call (pick_ok 3 h2 (by omega)) fun r2 ⟨h3, _, _⟩ => ?_))
    simp only [hx, l0, l1, str_app, ew, str_s]
    refine .ite (fun _ => .chk (by omega) (.chk (by simp; omega) (.chk (by omega) (.chk (by simp; omega) (.ok ?_))))) (fun _ => .ite (fun _ => .chk (by omega) (.chk (by simp; omega) (.chk (by omega) (.chk (by simp; omega) (.ok ?_))))) (fun _ => .chk (by omega) (.chk (by omega) (.chk (by simp; omega) (.ok ?_)))))
    all_goals (rw [str_l]; simp; omega)
theorem rints_ok (l : List Int) (hl : l.length ≤ 1000000) : v_rInts l l = some true := by
  unfold v_rInts
  rw [show ((l.length : Int) != (l.length : Int)) = false by simp]
  simp only [Bool.false_eq_true, if_false]
  have := all_loop (step := v_rInts_L1 l l) l (fun _ => True) (by omega) false (fun i x hx _ => by
    unfold v_rInts_L1
    rw [if_pos (by simpa using get_lt hx), ixs hx, Option.bind_some]
    simp) (fun i x hx h => absurd trivial h) (by unfold v_rInts_L1; simp)
  rw [this, if_pos (fun _ _ => trivial)]; rfl
theorem rcal_ok (c : Calendar) (hb : CB c) : v_rCalendars c c = some true := by
  unfold v_rCalendars
  rw [rints_ok _ hb.1, rints_ok _ hb.2]
  simp
theorem rBig_eq (code : List UInt8) : v_rBig code = some (decide (65536 < (code.length : Int))) := rfl
theorem calendars_true (code : List UInt8) : v_FnCalendars code = some true := by
  unfold v_FnCalendars
  refine Tot.val (.eq (rBig_eq code) (.iteP (fun _ => .ok rfl) (fun _ => ?_)))
  refine .call (P := fun r => Bd r.1 ∧ CB r.1) ?_ fun ⟨c, d, runs⟩ ⟨hB, hb⟩ => ?_
  · unfold s_DrawExceptDay
    refine .call (cal_ok (cur0 code)) fun r ⟨h1, h2, h3, h4, h5, h6, h7⟩ => ?_
    unfold s_l1Cur_dayNear
    refine .call (P := fun r3 => Cur 30000 r3.2) (.call (pick_ok 41 h1 (by omega)) fun r2 ⟨g1, _, _⟩ => .call (amongw_ok _ (by simp) g1 (by omega)) fun r3 ⟨g2, _⟩ => .ok (g2.mono (by omega))) fun r3 hr3 => .call (one_ok 2 hr3 (by omega)) fun r4 _ => .ok ⟨⟨by dsimp only; omega, by dsimp only; omega, fun x hx => by have := h4 x hx; omega, fun x hx => by have := h5 x hx; omega, by dsimp only; omega, by dsimp only; omega⟩, by dsimp only; omega, by dsimp only; omega⟩
  dsimp only at hB hb ⊢
  have fi : i_FormatCalendar c = some (if ValidC c then (str (txt c), true) else (str [], false)) := by
    unfold i_FormatCalendar
    rw [ivalid_eq c hb, Option.bind_some]
    by_cases hv : ValidC c
    · rw [decide_eq_true hv, itext_ok c hB, if_pos hv]; rfl
    · rw [decide_eq_false hv, if_neg hv]; rfl
  have fs : s_FormatCalendar c = some (if ValidC c then (str (txt c), true) else (str [], false)) := by
    unfold s_FormatCalendar
    rw [lgood_eq c hb, Option.bind_some]
    by_cases hv : ValidC c
    · rw [decide_eq_true hv, ltext_ok c hB, if_pos hv]; rfl
    · rw [decide_eq_false hv, if_neg hv]; rfl
  refine .eq fi (.eq fs (.eq (a := false) ?_ ?_))
  · rw [ivalid_eq c hb]
    by_cases hv : ValidC c
    · simp [hv]
    · simp [hv]
  simp only [Bool.false_eq_true, if_false]
  refine Tot.flb (Tot.mono (P := fun v => v = .go ()) ?_ fun v hv => ⟨fun r h => (by rw [hv] at h; cases h), fun u _ => ?_⟩)
  · by_cases hv : ValidC c
    · rw [if_pos hv]
      simp only [if_true]
      have hl := txt_len hv
      obtain ⟨r, hr, hp⟩ := iparse_ok (txt c) (by omega)
      have : r = (c, true) := by
        rcases hp with ⟨c', hc', he, rfl⟩ | ⟨_, hno⟩
        · rw [txt_inj hc' hv he]
        · exact absurd ⟨c, hv, rfl⟩ hno
      subst this
      rw [hr, Option.bind_some]
      dsimp only
      rw [rcal_ok c hb]
      exact .ok rfl
    · rw [if_neg hv]
      exact .ok rfl
  obtain ⟨r, x1, x2, hx⟩ := except_ok c d runs hb
  have hrb : CB r.1 := by
    rcases hx with rfl | ⟨_, _, _, _, _, _, hv', _⟩
    · exact ⟨by show (0 : Nat) ≤ _; omega, by show (0 : Nat) ≤ _; omega⟩
    · exact valid_cb hv'
  refine .eq x1 (.eq x2 (.eq (a := false) ?_ ?_))
  · rw [rcal_ok r.1 hrb]
    simp
  simp only [Bool.false_eq_true, if_false]
  refine Tot.flb (Tot.mono (P := fun v => v = .go ()) ?_ fun v hv => ⟨fun r h => (by rw [hv] at h; cases h), fun u _ => ?_⟩)
  · obtain ⟨hf, _⟩ := hB
    refine Tot.iter (fun k a => ∃ i : Nat, k + i = 100 ∧ a = c.From + i ∧ i ≤ 61) (n := 100) ⟨0, rfl, by show c.From = _; omega, by omega⟩ ?_
    rintro k _ ⟨i, hk, rfl, hi⟩
    unfold v_FnCalendars_L1
    dsimp only
    rw [w64_id (x := c.From + 60) (by omega)]
    refine .call (P := fun b => b = true → c.From + i ≤ c.To ∧ r.2 = true ∧ (i : Int) ≤ 60) (.iteP (fun h1 => .ite (fun h2 => .ok (fun h3 => ⟨h1, h2, by have := of_decide_eq_true h3; omega⟩)) (fun _ => .ok (fun h => by cases h))) (fun _ => .ok (fun h => by cases h))) fun b hb2 => .ite (fun h => ?_) (fun h => .dn rfl)
    obtain ⟨g1, g2, g3⟩ := hb2 h
    rcases hx with rfl | ⟨aA, bA, aR, bR, hr, hv, hv', hd, p1, p2, p3, q1, q2, q3⟩
    · cases g2
    · obtain ⟨a, ha⟩ : ∃ a : Int, a = c.From + i := ⟨_, rfl⟩
      rw [← ha] at g1 ⊢
      have hr1 : r.1 = ⟨c.From, c.To, c.Weekdays, putL aA bA d (runs && !byW c.Weekdays d), putL aR bR d (!runs && byW c.Weekdays d)⟩ := by rw [hr]
      rw [runs_ok hv (by omega) g1, Option.bind_some, runs_ok hv' (by rw [hr1]; show c.From ≤ a; omega) (by rw [hr1]; exact g1), Option.bind_some]
      have nA : ∀ {aa bb : List Int}, (∀ x ∈ aa, x < d) → (∀ x ∈ bb, d < x) → ∀ x, x ≠ d → ∀ f, (x ∈ putL aa bb d f ↔ x ∈ aa ++ bb) := fun {aa bb} h1 h2 x hxd f => by
        unfold putL; cases f <;> simp [hxd]
      have dA : ∀ {aa bb : List Int}, (∀ x ∈ aa, x < d) → (∀ x ∈ bb, d < x) → ∀ f, (d ∈ putL aa bb d f ↔ f = true) := fun {aa bb} h1 h2 f => by
        have n1 : d ∉ aa := fun h => by have := h1 d h; omega
        have n2 : d ∉ bb := fun h => by have := h2 d h; omega
        unfold putL; cases f <;> simp [n1, n2]
      have mA : ∀ x, x ≠ d → (x ∈ c.Added ↔ x ∈ aA ++ bA) := fun x hxd => by
        rcases p3 with h | h <;> rw [h] <;> simp [hxd]
      have mR : ∀ x, x ≠ d → (x ∈ c.Removed ↔ x ∈ aR ++ bR) := fun x hxd => by
        rcases q3 with h | h <;> rw [h] <;> simp [hxd]
      refine .eq (a := false) ?_ (.nx ⟨k - 1, by omega, i + 1, by omega, by rw [ha, w64_id (by omega)]; omega, by omega⟩)
      simp only [Bool.not_true, Bool.false_eq_true, if_false]
      by_cases had : a = d
      · have e1 : runsB r.1 a = runs := by
          unfold runsB
          rw [hr1]
          dsimp only
          rw [had]
          have f1 := dA p1 p2 (runs && !byW c.Weekdays d)
          have f2 := dA q1 q2 (!runs && byW c.Weekdays d)
          cases runs <;> cases hbw : byW c.Weekdays d <;> simp [hbw] at f1 f2 <;> simp [f1, f2]
        rw [e1]
        simp [had]
      · have e1 : runsB r.1 a = runsB c a := by
          unfold runsB
          rw [hr1]
          dsimp only
          have f1 := (nA p1 p2 a had (runs && !byW c.Weekdays d)).trans (mA a had).symm
          have f2 := (nA q1 q2 a had (!runs && byW c.Weekdays d)).trans (mR a had).symm
          rw [decide_eq_decide.2 f1, decide_eq_decide.2 f2]
        rw [e1]
        have e2 : (a == d) = false := by simpa using had
        have e3 : (a != d) = true := by simpa using had
        simp [e2, e3]
  refine .call (P := fun t => t.data.toList.length ≤ 60000) ?_ fun t ht => ?_
  · unfold s_DrawParseCalendar
    refine .call (cal_ok (cur0 code)) fun r ⟨h1, h2, h3, h4, h5, h6, h7⟩ => ?_
    have hBd : Bd r.1 := ⟨by omega, by omega, fun x hx => by have := h4 x hx; omega, fun x hx => by have := h5 x hx; omega, by omega, by omega⟩
    have dA := days_len 43 hBd.2.2.1
    have dR := days_len 45 hBd.2.2.2.1
    have f := itoa_len hBd.1.1 hBd.1.2
    have t := itoa_len hBd.2.1.1 hBd.2.1.2
    have w : (wd r.1.Weekdays).length = 7 := by unfold wd; simp
    have hl : (txt r.1).length ≤ 1000 := by unfold txt; simp; omega
    refine .eq (ltext_ok r.1 hBd) (.call (P := fun t => t.data.toList.length ≤ 60000) (.call (one_ok 3 h1 (by omega)) fun r2 g2 => .ite (fun _ => .call (spoilt_ok g2 (by omega) (txt r.1) (by omega)) fun r3 hr3 => .ok (by omega)) (fun _ => .ok (by rw [str_l]; omega))) fun v hv => .ok hv)
  · obtain ⟨q, y1, y2, _⟩ := parse_same t.data.toList (by omega)
    have z1 : i_ParseCalendar t = some q := y1
    have z2 : s_ParseCalendar t = some q := y2
    refine .eq z1 (.eq z2 ?_)
    have hqb : CB q.1 := by
      obtain ⟨r', hr', hp⟩ := iparse_ok t.data.toList (by omega)
      rw [y1] at hr'; cases hr'
      rcases hp with ⟨c', hc', _, rfl⟩ | ⟨rfl, _⟩
      · exact valid_cb hc'
      · exact ⟨by show (0 : Nat) ≤ _; omega, by show (0 : Nat) ≤ _; omega⟩
    rw [rcal_ok q.1 hqb]
    simp only [beq_self_eq_true, if_true, Option.bind_some]
    exact .ok rfl
end Go.Proofs.YtbedhobglodjbaaDoor
