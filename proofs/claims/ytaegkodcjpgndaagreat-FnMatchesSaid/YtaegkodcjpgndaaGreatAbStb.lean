/- My own layer: stable sorting of few elements: each is put in from behind. -/
import Derived.Test.YtaegkodcjpgndaaGreatAbPdq6
namespace Go.Ab.Pdq
set_option linter.unusedVariables false
set_option linter.unusedSimpArgs false
section
variable {α : Type}
def insR (lt : α → α → Bool) (x : α) : List α → List α
 | [] => [x]
 | y :: r => bif lt x y then y :: insR lt x r else x :: y :: r
def insE (lt : α → α → Bool) (x : α) (l : List α) : List α := (insR lt x l.reverse).reverse
def isort (lt : α → α → Bool) (l : List α) : List α := l.foldl (fun o x => insE lt x o) []
variable {lt : α → α → Bool} {x : α}
theorem insE_nil : insE lt x [] = [x] := rfl
theorem insE_snoc (o : List α) (y : α) : insE lt x (o ++ [y]) = bif lt x y then insE lt x o ++ [y] else o ++ [y] ++ [x] := by
 unfold insE
 rw [List.reverse_append]
 show (bif lt x y then y :: insR lt x o.reverse else x :: y :: o.reverse).reverse = _
 cases lt x y
 ·simp
 ·simp
theorem snoc_ex {l : List α} (h : 0 < l.length) : ∃ o z, l = o ++ [z] := by
 have hn : l ≠ [] := List.length_pos_iff.1 h
 exact ⟨l.dropLast, l.getLast hn, (List.dropLast_concat_getLast hn).symm⟩
theorem insE_slot : ∀ (n : Nat) {o : List α} {k : Nat}, o.length = n → k ≤ o.length → (∀ y ∈ o.drop k, lt x y = true) → (∀ y, 0 < k → o[k - 1]? = some y → lt x y = false) → o.take k ++ [x] ++ o.drop k = insE lt x o
 | 0, o, k, hn, hk, _, _ => by
  have : o = [] := List.length_eq_zero_iff.1 hn
  subst this
  simp [insE_nil]
 | n + 1, o, k, hn, hk, h1, h2 => by
  obtain ⟨p, y, rfl⟩ := snoc_ex (l := o) (by omega)
  have hp : (p ++ [y]).length = p.length + 1 := by simp
  rw [insE_snoc]
  by_cases hkk : k = (p ++ [y]).length
  ·have := h2 y (by omega) (by rw [hkk, hp]; simp)
   rw [this, hkk, List.take_length, List.drop_length]; simp
  ·have hy := h1 y (by rw [List.drop_append_of_le_length (by omega)]; simp)
   have ih := insE_slot n (o := p) (k := k) (by omega) (by omega) (fun z hz => h1 z (by rw [List.drop_append_of_le_length (by omega)]; simp [hz])) (fun z hz hz2 => h2 z hz (by rw [List.getElem?_append_left (by omega)]; exact hz2))
   rw [hy, cond_true, ← ih, List.take_append_of_le_length (by omega), List.drop_append_of_le_length (by omega), List.append_assoc, List.append_assoc, List.append_assoc]
theorem insE_perm (o : List α) : (insE lt x o).Perm (o ++ [x]) := by
 have : ∀ l : List α, (insR lt x l).Perm (x :: l) := by
  intro l
  induction l with
  | nil => exact .refl _
  | cons y r ih =>
   unfold insR
   cases lt x y
   ·exact .refl _
   ·exact (List.Perm.cons y ih).trans (.swap x y r)
 unfold insE
 refine (List.reverse_perm _).trans ((this _).trans ?_)
 exact ((List.reverse_perm o).cons x).trans (List.perm_append_comm (l₁ := [x]))
theorem isort_snoc (l : List α) (y : α) : isort lt (l ++ [y]) = insE lt y (isort lt l) := by unfold isort; rw [List.foldl_append]; rfl
theorem isort_perm (l : List α) : (isort lt l).Perm l := by
 have : ∀ n (l : List α), l.length = n → (isort lt l).Perm l := by
  intro n
  induction n with
  | zero =>
   intro l hl
   have : l = [] := List.length_eq_zero_iff.1 hl
   subst this; exact .refl _
  | succ n ih =>
   intro l hl
   obtain ⟨p, y, rfl⟩ := snoc_ex (l := l) (by omega)
   rw [isort_snoc]
   exact (insE_perm _).trans ((ih p (by simpa using hl)).append_right [y])
 exact this _ l rfl
theorem isort_len (l : List α) : (isort lt l).length = l.length := (isort_perm l).length_eq
theorem insE_sorted (tr : ∀ a b c, lt b a = false → lt c b = false → lt c a = false) (as : ∀ a b, lt a b = true → lt b a = false) {o : List α} (h : o.Pairwise fun a b => lt b a = false) : (insE lt x o).Pairwise fun a b => lt b a = false := by
 have : ∀ n (o : List α), o.length = n → o.Pairwise (fun a b => lt b a = false) → (insE lt x o).Pairwise fun a b => lt b a = false := by
  intro n
  induction n with
  | zero =>
   intro o hn _
   have : o = [] := List.length_eq_zero_iff.1 hn
   subst this
   rw [insE_nil]; simp
  | succ n ih =>
   intro o hn h
   obtain ⟨p, y, rfl⟩ := snoc_ex (l := o) (by omega)
   rw [List.pairwise_append] at h
   rw [insE_snoc]
   cases hy : lt x y with
   | true =>
    rw [cond_true, List.pairwise_append]
    refine ⟨ih p (by simpa using hn) h.1, by simp, fun a ha b hb => ?_⟩
    have hb : b = y := by simpa using hb
    subst hb
    rcases List.mem_append.1 ((insE_perm p).mem_iff.1 ha) with ha | ha
    ·exact h.2.2 a ha b (by simp)
    ·have : a = x := by simpa using ha
     subst this; exact as _ _ hy
   | false =>
    rw [cond_false, List.pairwise_append]
    refine ⟨List.pairwise_append.2 h, by simp, fun a ha b hb => ?_⟩
    have hb : b = x := by simpa using hb
    subst hb
    rcases List.mem_append.1 ha with ha | ha
    ·exact tr _ _ _ (h.2.2 a ha y (by simp)) hy
    ·have : a = y := by simpa using ha
     subst this; exact hy
 exact this _ o rfl h
theorem isort_sorted (tr : ∀ a b c, lt b a = false → lt c b = false → lt c a = false) (as : ∀ a b, lt a b = true → lt b a = false) (l : List α) : (isort lt l).Pairwise fun a b => lt b a = false := by
 have : ∀ n (l : List α), l.length = n → (isort lt l).Pairwise fun a b => lt b a = false := by
  intro n
  induction n with
  | zero =>
   intro l hl
   have : l = [] := List.length_eq_zero_iff.1 hl
   subst this; simp [isort]
  | succ n ih =>
   intro l hl
   obtain ⟨p, y, rfl⟩ := snoc_ex (l := l) (by omega)
   rw [isort_snoc]
   exact insE_sorted tr as (ih p (by simpa using hl))
 exact this _ l rfl
variable {cmp : α → α → Option Int} {U : α → Prop} (hc : ∀ x y, U x → U y → ∃ c, cmp x y = some c ∧ decide (c < 0) = lt x y)
include hc
theorem ins_loop (A : List α) (x : α) (rest : List α) (hl : A.length ≤ 4294967296) (hUx : U x) (hUA : ∀ y ∈ A, U y) : Tot (iter (insertionSort_L1 0 cmp) ((A.length : Int), A ++ x :: rest)) fun r => r = insE lt x A ++ rest := by
 refine Tot.iter (fun m s => s.1 = (m : Int) ∧ m ≤ A.length ∧ s.2 = A.take m ++ x :: (A.drop m ++ rest) ∧ ∀ y ∈ A.drop m, lt x y = true) (n := A.length) ⟨rfl, Nat.le_refl _, by simp, by simp⟩ ?_
 rintro m ⟨v, d⟩ ⟨hv, hm, hd, hlt⟩
 simp only at hv hd
 subst hv; subst hd
 have ht : (A.take m).length = m := by rw [List.length_take]; omega
 have hx : (A.take m ++ x :: (A.drop m ++ rest))[m]? = some x := by
  rw [List.getElem?_append_right (by omega), ht, Nat.sub_self]; rfl
 unfold insertionSort_L1
 refine .call (P := fun b => (b = true → 0 < m ∧ ∃ y, A[m - 1]? = some y ∧ lt x y = true) ∧ (b = false → ∀ y, 0 < m → A[m - 1]? = some y → lt x y = false)) (.iteP (fun h0 => ?_) fun h0 => .ok ⟨fun h => (by cases h), fun _ y h _ => absurd h (by omega)⟩) fun b hb => .ite (fun htr => ?_) (fun hf => .dn ?_)
 ·obtain ⟨y, hy⟩ := get_ex (l := A) (i := m - 1) (by omega)
  have ew : w64 ((m : Int) - 1) = ((m - 1 : Nat) : Int) := by rw [w64_id (by omega)]; omega
  have hy' : (A.take m ++ x :: (A.drop m ++ rest))[m - 1]? = some y := by
   rw [List.getElem?_append_left (by omega), List.getElem?_take_of_lt (by omega)]; exact hy
  obtain ⟨c, hc1, hc2⟩ := hc x y hUx (hUA y (List.mem_of_getElem? hy))
  rw [ew]
  refine .eq (ixs hx) (.eq (ixs hy') (.eq hc1 (.ok ⟨fun h => ⟨by omega, y, hy, by rw [← hc2]; exact h⟩, fun h z _ hz => ?_⟩)))
  rw [hy] at hz; cases hz
  rw [← hc2]; exact h
 ·obtain ⟨h0, y, hy, hxy⟩ := hb.1 htr
  have ew : w64 ((m : Int) - 1) = ((m - 1 : Nat) : Int) := by rw [w64_id (by omega)]; omega
  have hy' : (A.take m ++ x :: (A.drop m ++ rest))[m - 1]? = some y := by
   rw [List.getElem?_append_left (by omega), List.getElem?_take_of_lt (by omega)]; exact hy
  have e1 : A.take m = A.take (m - 1) ++ [y] := by
   have := take_succ hy
   rwa [show m - 1 + 1 = m by omega] at this
  have e2 : A.drop (m - 1) = y :: A.drop m := by
   have := List.drop_eq_getElem_cons (l := A) (i := m - 1) (by omega)
   rw [this, show m - 1 + 1 = m by omega]
   congr 1
   exact (List.getElem?_eq_some_iff.1 hy).2
  have ht1 : (A.take (m - 1)).length = m - 1 := by rw [List.length_take]; omega
  have hset : ((A.take m ++ x :: (A.drop m ++ rest)).set m y).set (m - 1) x = A.take (m - 1) ++ x :: (A.drop (m - 1) ++ rest) := by
   rw [List.set_append_right _ _ (by omega), ht, Nat.sub_self, List.set_cons_zero, e1, List.append_assoc, List.set_append_right _ _ (by omega), ht1, Nat.sub_self, e2]
   rfl
  have hs1 : ((A.take m ++ x :: (A.drop m ++ rest)).set m y)[m - 1]? = some y := by
   rw [List.getElem?_set_ne (by omega)]; exact hy'
  rw [ew]
  refine .eq (ixs hy') (.eq (ixs hx) (.eq (ixs hx) ?_))
  rw [Int.toNat_natCast, Int.toNat_natCast]
  refine .eq (ixs hs1) (.nx ⟨m - 1, by omega, rfl, by omega, hset, fun z hz => ?_⟩)
  rw [e2] at hz
  rcases List.mem_cons.1 hz with rfl | hz
  ·exact hxy
  ·exact hlt z hz
 ·have := insE_slot (lt := lt) (x := x) A.length (o := A) (k := m) rfl hm hlt (hb.2 hf)
  rw [← this]; simp
theorem insertion_stU (l : List α) (hl : l.length ≤ 4294967295) (hU : ∀ x ∈ l, U x) : insertionSort l 0 (l.length : Int) cmp = some (isort lt l) := by
 unfold insertionSort
 have w1 : w64 (0 + 1) = 1 := rfl
 rw [w1]
 cases l with
 | nil => rw [iter_eq]; unfold insertionSort_L2; rfl
 | cons a l =>
  refine Tot.val (Tot.iter (fun m s => ∃ i : Nat, s.1 = (i : Int) ∧ 1 ≤ i ∧ m + i = (a :: l).length ∧ s.2 = isort lt ((a :: l).take i) ++ (a :: l).drop i) (n := l.length) ⟨1, rfl, by omega, by simp, rfl⟩ ?_)
  rintro m ⟨v, d⟩ ⟨i, hv, h1, hm, hd⟩
  simp only at hv hd
  subst hv; subst hd
  unfold insertionSort_L2
  refine .iteP (fun h => ?_) (fun h => .dn ?_)
  ·obtain ⟨x, hx⟩ := get_ex (l := a :: l) (i := i) (by omega)
   have e : (a :: l).drop i = x :: (a :: l).drop (i + 1) := by
    rw [List.drop_eq_getElem_cons (by omega)]
    congr 1
    exact (List.getElem?_eq_some_iff.1 hx).2
   have hil : (isort lt ((a :: l).take i)).length = i := by rw [isort_len, List.length_take]; omega
   rw [e]
   have hi := ins_loop hc (isort lt ((a :: l).take i)) x ((a :: l).drop (i + 1)) (by omega) (hU x (List.mem_of_getElem? hx)) fun y hy => hU y (List.mem_of_mem_take ((isort_perm _).mem_iff.1 hy))
   rw [hil] at hi
   refine .call hi fun r hr => .nx ⟨m - 1, by omega, i + 1, w64_succ (by omega), by omega, by omega, ?_⟩
   rw [hr, take_succ hx, isort_snoc]
  ·have : i = (a :: l).length := by omega
   subst this
   rw [List.take_length, List.drop_length, List.append_nil]
end
end Go.Ab.Pdq
