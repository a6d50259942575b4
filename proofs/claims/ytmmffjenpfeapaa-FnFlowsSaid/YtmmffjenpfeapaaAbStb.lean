/- My own layer: plain lemmas about models: loops, lists, numbers. -/
import Derived.Test.YtmmffjenpfeapaaAbEx5
namespace Go.Ab
set_option linter.unusedVariables false
set_option linter.unusedSimpArgs false

theorem iter_rule {A B : Type} {step : A → Option (Lp A B)} (I : Nat → A → Prop) (Q : B → Prop)
  (h : ∀ k a, I k a → (∃ a' k', step a = some (.nx a') ∧ k' < k ∧ I k' a') ∨ (∃ b, step a = some (.dn b) ∧ Q b)) : ∀ {k a}, I k a → ∃ b, iter step a = some b ∧ Q b := by
 intro k
 induction k using Nat.strongRecOn with
 | _ k ih =>
  intro a ha
  rcases h k a ha with ⟨a', k', h1, h2, h3⟩ | ⟨b, h1, h2⟩
  ·rw [iter_nx h1]; exact ih k' h2 h3
  ·exact ⟨b, iter_dn h1, h2⟩

theorem idx_nat {α : Type} (l : List α) (i : Nat) : idx l (i : Int) = l[i]? := by
 unfold idx; rw [if_pos (by omega)]; simp
theorem idx_of {α : Type} {l : List α} {i : Int} {x : α} (h0 : 0 ≤ i) (h : l[i.toNat]? = some x) : idx l i = some x := by
 unfold idx; rw [if_pos h0]; exact h
theorem idx_lt {α : Type} {l : List α} {i : Int} (h0 : 0 ≤ i) (h : i < l.length) : ∃ x, idx l i = some x ∧ l[i.toNat]? = some x ∧ x ∈ l := by
 have h1 : i.toNat < l.length := by omega
 refine ⟨l[i.toNat], idx_of h0 (List.getElem?_eq_getElem h1), List.getElem?_eq_getElem h1, List.getElem_mem h1⟩
theorem chk_of {p : Prop} [Decidable p] (h : p) : chk p = some () := by unfold chk; rw [if_pos h]
@[simp] theorem flb_go {R V : Type} (u : V) (k : V → Option R) : flb (some (.go u)) k = k u := rfl
@[simp] theorem flb_ret {R V : Type} (r : R) (k : V → Option R) : flb (some (Fl.ret r : Fl R V)) k = some r := rfl
theorem w64_succ {n : Nat} (h : n < 9223372036854775807) : w64 ((n : Int) + 1) = ((n + 1 : Nat) : Int) := by rw [w64_id (by omega)]; omega
theorem w64_pred {n : Nat} (h : n < 9223372036854775807) : w64 (((n + 1 : Nat) : Int) - 1) = (n : Int) := by rw [w64_id (by omega)]; omega
theorem and255 (x : Int) : 0 ≤ w64 (IntKind.u64.wrap ((BitVec.ofInt (IntKind.u64).bits x &&& BitVec.ofInt (IntKind.u64).bits 255).toNat : Int)) ∧ w64 (IntKind.u64.wrap ((BitVec.ofInt (IntKind.u64).bits x &&& BitVec.ofInt (IntKind.u64).bits 255).toNat : Int)) ≤ 255 := by
 have h : (BitVec.ofInt (IntKind.u64).bits x &&& BitVec.ofInt (IntKind.u64).bits 255).toNat ≤ 255 := by
  rw [BitVec.toNat_and]
  have : (BitVec.ofInt (IntKind.u64).bits 255).toNat = 255 := by decide
  rw [this]
  exact Nat.and_le_right
 have h2 : IntKind.u64.wrap ((BitVec.ofInt (IntKind.u64).bits x &&& BitVec.ofInt (IntKind.u64).bits 255).toNat : Int) = ((BitVec.ofInt (IntKind.u64).bits x &&& BitVec.ofInt (IntKind.u64).bits 255).toNat : Int) := by
  rw [IntKind.wrap_u64]; omega
 rw [h2, w64_id (by omega)]
 omega
theorem tmod_rng {a b : Int} (h1 : 0 ≤ a) (h2 : 0 < b) : 0 ≤ a.tmod b ∧ a.tmod b < b := ⟨Int.tmod_nonneg b h1, Int.tmod_lt_of_pos a h2⟩
theorem take_succ {α : Type} {l : List α} {i : Nat} {x : α} (h : l[i]? = some x) : l.take (i + 1) = l.take i ++ [x] := by
 rw [List.take_add_one, h]; rfl
theorem get_ex {α : Type} {l : List α} {i : Nat} (h : i < l.length) : ∃ x, l[i]? = some x := ⟨_, List.getElem?_eq_getElem h⟩
def Chain {α : Type} (l : List α) (ok : α → Prop) (ord : α → α → Prop) : Prop := (∀ e ∈ l, ok e) ∧ ∀ (i : Nat) (a b : α), l[i]? = some a → l[i + 1]? = some b → ord a b
theorem sum_bd {l : List Int} {M : Int} (h : ∀ x ∈ l, 0 ≤ x ∧ x ≤ M) : 0 ≤ l.sum ∧ l.sum ≤ M * l.length := by
 induction l with
 | nil => simp
 | cons a l ih =>
  have h1 := h a (List.mem_cons_self ..)
  have h2 := ih fun x hx => h x (List.mem_cons_of_mem _ hx)
  simp only [List.sum_cons, List.length_cons, Int.natCast_add, Int.mul_add]
  simp only [Int.natCast_one, Int.mul_one]
  omega
theorem sum_loop {α : Type} (f : α → Int) (l : List α) (hl : l.length ≤ 1000000) (hb : ∀ x ∈ l, 0 ≤ f x ∧ f x ≤ 1000000) {step : Int × Int → Option (Lp (Int × Int) Int)}
  (hstep : ∀ (i : Nat) (s : Int) (x : α), l[i]? = some x → step (s, (i : Int)) = some (.nx (w64 (s + f x), w64 ((i : Int) + 1)))) (hend : ∀ s, step (s, (l.length : Int)) = some (.dn s)) :
  iter step (0, 0) = some ((l.map f).sum) := by
 have bd : ∀ i, 0 ≤ ((l.take i).map f).sum ∧ ((l.take i).map f).sum ≤ 1000000 * 1000000 := by
  intro i
  have := sum_bd (l := (l.take i).map f) (M := 1000000) (by
   intro x hx
   obtain ⟨y, hy, rfl⟩ := List.mem_map.1 hx
   exact hb y (List.mem_of_mem_take hy))
  have h2 : (((l.take i).map f).length : Int) ≤ 1000000 := by simp; omega
  omega
 have h := iter_rule (step := step) (fun m a => ∃ i : Nat, a.2 = (i : Int) ∧ m + i = l.length ∧ a.1 = ((l.take i).map f).sum) (fun b => b = (l.map f).sum) ?_ (k := l.length) (a := (0, 0)) ⟨0, rfl, by omega, by simp⟩
 ·obtain ⟨b, hb, rfl⟩ := h
  exact hb
 rintro m ⟨s, v⟩ ⟨i, hv, hm, hs⟩
 simp only at hv hs
 subst hv
 by_cases hlt : i < l.length
 ·left
  obtain ⟨x, hx⟩ := get_ex hlt
  have hxb := hb x (List.mem_of_getElem? hx)
  have hbi := bd i
  refine ⟨_, m - 1, hstep i s x hx, by omega, i + 1, ?_, by omega, ?_⟩
  ·exact w64_succ (by omega)
  ·show w64 (s + f x) = _
   rw [w64_id (by omega), take_succ hx, hs]; simp
 ·right
  have e : i = l.length := by omega
  subst e
  exact ⟨s, hend s, by rw [hs, List.take_length]⟩
end Go.Ab
namespace Go.Ab
set_option linter.unusedVariables false
set_option linter.unusedSimpArgs false

def fixI {α : Type} (p : α → Bool) (l : List α) : Int := match l.findIdx? p with
 | some i => (i : Int)
 | none => -1
theorem fixI_some {α : Type} {p : α → Bool} {l : List α} {i : Nat} (h : fixI p l = (i : Int)) : l.findIdx? p = some i := by
 unfold fixI at h
 split at h
 ·rename_i j hj; rw [hj]; congr 1; omega
 ·omega
theorem fixI_at {α : Type} {p : α → Bool} {l : List α} {i : Nat} (h : fixI p l = (i : Int)) : ∃ x, l[i]? = some x ∧ p x = true ∧ ∀ j y, j < i → l[j]? = some y → p y = false := by
 have := fixI_some h
 rw [List.findIdx?_eq_some_iff_getElem] at this
 obtain ⟨h1, h2, h3⟩ := this
 refine ⟨_, List.getElem?_eq_getElem h1, h2, fun j y hj hy => ?_⟩
 have h4 := h3 j hj
 obtain ⟨hjl, hy2⟩ := List.getElem?_eq_some_iff.1 hy
 subst hy2
 simpa using h4
theorem fixI_of {α : Type} {p : α → Bool} {l : List α} {i : Nat} {x : α} (h : l[i]? = some x) (hp : p x = true) (hn : ∀ (j : Nat) y, j < i → l[j]? = some y → p y = false) : fixI p l = (i : Int) := by
 obtain ⟨hi, hx⟩ := List.getElem?_eq_some_iff.1 h
 have : l.findIdx? p = some i := by
  rw [List.findIdx?_eq_some_iff_getElem]
  refine ⟨hi, by rw [hx]; exact hp, fun j hj => ?_⟩
  have := hn j _ hj (List.getElem?_eq_getElem (by omega))
  simp [this]
 unfold fixI; rw [this]
theorem fixI_rng {α : Type} (p : α → Bool) (l : List α) : -1 ≤ fixI p l ∧ fixI p l < l.length ∨ (l = [] ∧ fixI p l = -1) := by
 cases l with
 | nil => exact .inr ⟨rfl, rfl⟩
 | cons a l =>
  left
  unfold fixI
  split
  ·rename_i i hi
   have := (List.findIdx?_eq_some_iff_getElem.1 hi).1
   omega
  ·simp; omega
theorem fixI_map {α β : Type} (f : α → β) (p : β → Bool) (l : List α) : fixI p (l.map f) = fixI (fun x => p (f x)) l := by
 unfold fixI
 rw [List.findIdx?_map]
 rfl
theorem fixI_congr {α : Type} {p q : α → Bool} (l : List α) (h : ∀ x, p x = q x) : fixI p l = fixI q l := by
 have : p = q := funext h
 rw [this]

theorem find_loop {α R : Type} (l : List α) (p : α → Bool) (f : Nat → R) {step : Int → Option (Lp Int (Fl R Unit))}
  (hstep : ∀ (i : Nat) x, l[i]? = some x → step (i : Int) = some (if p x = true then .dn (.ret (f i)) else .nx ((i + 1 : Nat) : Int))) (hend : step (l.length : Int) = some (.dn (.go ()))) :
  iter step 0 = some (match l.findIdx? p with | some i => .ret (f i) | none => .go ()) := by
 have h := iter_rule (step := step) (fun m v => ∃ i : Nat, v = (i : Int) ∧ m + i = l.length ∧ ∀ j y, j < i → l[j]? = some y → p y = false) (fun b => b = match l.findIdx? p with | some i => .ret (f i) | none => .go ()) ?_ (k := l.length) (a := 0) ⟨0, rfl, by omega, fun j y hj => by omega⟩
 ·obtain ⟨b, hb, rfl⟩ := h
  exact hb
 rintro m v ⟨i, rfl, hm, ha⟩
 by_cases hlt : i < l.length
 ·obtain ⟨x, hx⟩ := get_ex hlt
  by_cases hp : p x = true
  ·right
   refine ⟨_, by rw [hstep i x hx, if_pos hp], ?_⟩
   rw [fixI_some (fixI_of hx hp ha)]
  ·left
   refine ⟨_, m - 1, by rw [hstep i x hx, if_neg hp], by omega, i + 1, rfl, by omega, fun j y hj hy => ?_⟩
   by_cases hji : j < i
   ·exact ha j y hji hy
   ·have : j = i := by omega
    subst this
    rw [hx] at hy; cases hy
    simpa using hp
 ·right
  have e : i = l.length := by omega
  subst e
  refine ⟨_, hend, ?_⟩
  have : l.findIdx? p = none := List.findIdx?_eq_none_iff.2 fun x hx => by
   obtain ⟨j, hj⟩ := List.getElem?_of_mem hx
   exact ha j x (List.getElem?_eq_some_iff.1 hj).1 hj
  rw [this]
theorem find_val {α : Type} (l : List α) (p : α → Bool) {step : Int → Option (Lp Int (Fl Int Unit))}
  (hstep : ∀ (i : Nat) x, l[i]? = some x → step (i : Int) = some (if p x = true then .dn (.ret (i : Int)) else .nx ((i + 1 : Nat) : Int))) (hend : step (l.length : Int) = some (.dn (.go ()))) :
  flb (iter step 0) (fun (_ : Unit) => some (-1)) = some (fixI p l) := by
 rw [find_loop l p (fun i => (i : Int)) hstep hend]
 unfold fixI
 cases l.findIdx? p <;> rfl

theorem all_from {α : Type} (l : List α) (ok : Nat → α → Prop) (s0 : Int) (n0 : Nat) (hs0 : s0 = (n0 : Int)) (hn0 : n0 ≤ l.length) {step : Int → Option (Lp Int (Fl Bool Unit))}
  (hstep : ∀ (i : Nat) x, n0 ≤ i → l[i]? = some x → (step (i : Int) = some (.nx ((i + 1 : Nat) : Int)) ∧ ok i x) ∨ (step (i : Int) = some (.dn (.ret false)) ∧ ¬ ok i x)) (hend : step (l.length : Int) = some (.dn (.go ()))) :
  (iter step s0 = some (.go ()) ∧ ∀ (i : Nat) x, n0 ≤ i → l[i]? = some x → ok i x) ∨ (iter step s0 = some (.ret false) ∧ ¬ ∀ (i : Nat) x, n0 ≤ i → l[i]? = some x → ok i x) := by
 have h := iter_rule (step := step) (fun m v => ∃ i : Nat, v = (i : Int) ∧ m + i = l.length ∧ n0 ≤ i ∧ ∀ (j : Nat) x, n0 ≤ j → j < i → l[j]? = some x → ok j x)
  (fun b => (b = .go () ∧ ∀ (i : Nat) x, n0 ≤ i → l[i]? = some x → ok i x) ∨ (b = .ret false ∧ ¬ ∀ (i : Nat) x, n0 ≤ i → l[i]? = some x → ok i x)) ?_ (k := l.length - n0) (a := s0) ⟨n0, hs0, by omega, Nat.le_refl _, fun j x h1 h2 => by omega⟩
 ·obtain ⟨b, hb, ⟨rfl, h1⟩ | ⟨rfl, h1⟩⟩ := h
  ·exact .inl ⟨hb, h1⟩
  ·exact .inr ⟨hb, h1⟩
 rintro m v ⟨i, rfl, hm, hn, ha⟩
 by_cases hlt : i < l.length
 ·obtain ⟨x, hx⟩ := get_ex hlt
  rcases hstep i x hn hx with ⟨h1, h2⟩ | ⟨h1, h2⟩
  ·left
   refine ⟨_, m - 1, h1, by omega, i + 1, rfl, by omega, by omega, fun j y hj0 hj hy => ?_⟩
   by_cases hji : j < i
   ·exact ha j y hj0 hji hy
   ·have : j = i := by omega
    subst this
    rw [hx] at hy; cases hy
    exact h2
  ·right
   exact ⟨_, h1, .inr ⟨rfl, fun hc => h2 (hc i x hn hx)⟩⟩
 ·right
  have e : i = l.length := by omega
  subst e
  exact ⟨_, hend, .inl ⟨rfl, fun j x hj0 hx => ha j x hj0 (List.getElem?_eq_some_iff.1 hx).1 hx⟩⟩
theorem all_loop {α : Type} (l : List α) (ok : Nat → α → Prop) {step : Int → Option (Lp Int (Fl Bool Unit))}
  (hstep : ∀ (i : Nat) x, l[i]? = some x → (step (i : Int) = some (.nx ((i + 1 : Nat) : Int)) ∧ ok i x) ∨ (step (i : Int) = some (.dn (.ret false)) ∧ ¬ ok i x)) (hend : step (l.length : Int) = some (.dn (.go ()))) (s0 : Int) (n0 : Nat) (hs0 : s0 = (n0 : Int)) (hn0 : n0 ≤ l.length) :
  (iter step s0 = some (.go ()) ∧ ∀ (i : Nat) x, n0 ≤ i → l[i]? = some x → ok i x) ∨ (iter step s0 = some (.ret false) ∧ ¬ ∀ (i : Nat) x, n0 ≤ i → l[i]? = some x → ok i x) :=
 all_from l ok s0 n0 hs0 hn0 (fun i x _ hx => hstep i x hx) hend
theorem all_val {α : Type} (l : List α) (ok : Nat → α → Prop) [hd : Decidable (∀ (i : Nat) x, l[i]? = some x → ok i x)] {step : Int → Option (Lp Int (Fl Bool Unit))}
  (hstep : ∀ (i : Nat) x, l[i]? = some x → (step (i : Int) = some (.nx ((i + 1 : Nat) : Int)) ∧ ok i x) ∨ (step (i : Int) = some (.dn (.ret false)) ∧ ¬ ok i x)) (hend : step (l.length : Int) = some (.dn (.go ()))) (k : Unit → Option Bool) :
  flb (iter step 0) k = if (∀ (i : Nat) x, l[i]? = some x → ok i x) then k () else some false := by
 rcases all_loop l ok hstep hend 0 0 rfl (by omega) with ⟨h1, h2⟩ | ⟨h1, h2⟩
 ·rw [h1, if_pos (fun i x hx => h2 i x (by omega) hx)]; rfl
 ·rw [h1, if_neg (fun hc => h2 fun i x _ hx => hc i x hx)]; rfl

theorem fill_loop {α β : Type} (f : α → β) (l : List α) (l0 : List β) (hl0 : l0.length = l.length) {step : Int × List β → Option (Lp (Int × List β) (List β))}
  (hstep : ∀ (i : Nat) (a : List β) (x : α) (y : β), a.length = l.length → a[i]? = some y → l[i]? = some x → step ((i : Int), a) = some (.nx (((i + 1 : Nat) : Int), a.set i (f x)))) (hend : ∀ a, a.length = l.length → step ((l.length : Int), a) = some (.dn a)) :
  iter step (0, l0) = some (l.map f) := by
 have h := iter_rule (step := step) (fun m a => ∃ i : Nat, a.1 = (i : Int) ∧ m + i = l.length ∧ a.2.length = l.length ∧ ∀ (j : Nat) x, j < i → l[j]? = some x → a.2[j]? = some (f x)) (fun b => b = l.map f) ?_ (k := l.length) (a := (0, l0)) ⟨0, rfl, by omega, hl0, fun j x hj => by omega⟩
 ·obtain ⟨b, hb, rfl⟩ := h
  exact hb
 rintro m ⟨v, a⟩ ⟨i, hv, hm, hlen, ha⟩
 simp only at hv ha hlen
 subst hv
 by_cases hlt : i < l.length
 ·left
  obtain ⟨x, hx⟩ := get_ex hlt
  obtain ⟨y, hy⟩ := get_ex (l := a) (i := i) (by omega)
  refine ⟨_, m - 1, hstep i a x y hlen hy hx, by omega, i + 1, rfl, by omega, by simpa using hlen, fun j z hj hz => ?_⟩
  show (a.set i (f x))[j]? = _
  by_cases hji : j = i
  ·subst hji
   rw [hx] at hz; cases hz
   rw [List.getElem?_set_self (by omega)]
  ·rw [List.getElem?_set_ne (Ne.symm hji)]
   exact ha j z (by omega) hz
 ·right
  have e : i = l.length := by omega
  subst e
  refine ⟨a, hend a hlen, ?_⟩
  apply List.ext_getElem?
  intro j
  rw [List.getElem?_map]
  by_cases hj : j < l.length
  ·obtain ⟨x, hx⟩ := get_ex hj
   rw [hx, ha j x hj hx]; rfl
  ·rw [List.getElem?_eq_none (by omega), List.getElem?_eq_none (by omega)]; rfl
theorem app_loop {α β : Type} (f : α → β) (l : List α) {step : Int × List β → Option (Lp (Int × List β) (List β))}
  (hstep : ∀ (i : Nat) (a : List β) (x : α), a.length = i → l[i]? = some x → step ((i : Int), a) = some (.nx (((i + 1 : Nat) : Int), a ++ [f x]))) (hend : ∀ a, a.length = l.length → step ((l.length : Int), a) = some (.dn a)) :
  iter step (0, []) = some (l.map f) := by
 have h := iter_rule (step := step) (fun m a => ∃ i : Nat, a.1 = (i : Int) ∧ m + i = l.length ∧ a.2 = (l.take i).map f) (fun b => b = l.map f) ?_ (k := l.length) (a := (0, [])) ⟨0, rfl, by omega, by simp⟩
 ·obtain ⟨b, hb, rfl⟩ := h
  exact hb
 rintro m ⟨v, a⟩ ⟨i, hv, hm, ha⟩
 simp only at hv ha
 subst hv
 have hlen : a.length = min i l.length := by rw [ha]; simp
 by_cases hlt : i < l.length
 ·left
  obtain ⟨x, hx⟩ := get_ex hlt
  refine ⟨_, m - 1, hstep i a x (by omega) hx, by omega, i + 1, rfl, by omega, ?_⟩
  show a ++ [f x] = _
  rw [take_succ hx, ha]; simp
 ·right
  have e : i = l.length := by omega
  subst e
  exact ⟨a, hend a (by omega), by rw [ha, List.take_length]⟩
end Go.Ab
namespace Go.Ab
set_option linter.unusedVariables false
set_option linter.unusedSimpArgs false
def Tot {α : Type} (m : Option α) (Q : α → Prop) : Prop := ∃ a, m = some a ∧ Q a
theorem Tot.ok {α : Type} {a : α} {Q : α → Prop} (h : Q a) : Tot (some a) Q := ⟨a, rfl, h⟩
theorem Tot.mono {α : Type} {m : Option α} {P Q : α → Prop} (h : Tot m P) (hk : ∀ a, P a → Q a) : Tot m Q := by
 obtain ⟨a, h1, h2⟩ := h; exact ⟨a, h1, hk a h2⟩
theorem Tot.bind {α β : Type} {m : Option α} {k : α → Option β} {Q : β → Prop} (h : Tot m fun a => Tot (k a) Q) : Tot (m.bind k) Q := by
 obtain ⟨a, rfl, h2⟩ := h; exact h2
theorem Tot.call {α β : Type} {m : Option α} {k : α → Option β} {P : α → Prop} {Q : β → Prop} (h : Tot m P) (hk : ∀ a, P a → Tot (k a) Q) : Tot (m.bind k) Q := .bind (h.mono hk)
theorem Tot.eq {α β : Type} {m : Option α} {a : α} {k : α → Option β} {Q : β → Prop} (h : m = some a) (hk : Tot (k a) Q) : Tot (m.bind k) Q := by subst h; exact hk
theorem Tot.ite {α : Type} {c : Bool} {a b : Option α} {Q : α → Prop} (h1 : c = true → Tot a Q) (h2 : c = false → Tot b Q) : Tot (if c = true then a else b) Q := by
 cases c
 ·simpa using h2 rfl
 ·simpa using h1 rfl
theorem Tot.iteP {α : Type} {c : Prop} [Decidable c] {a b : Option α} {Q : α → Prop} (h1 : c → Tot a Q) (h2 : ¬ c → Tot b Q) : Tot (if decide c = true then a else b) Q :=
 .ite (fun h => h1 (of_decide_eq_true h)) (fun h => h2 (of_decide_eq_false h))
theorem Tot.iteN {α : Type} {c : Prop} [Decidable c] {a b : Option α} {Q : α → Prop} (h1 : ¬ c → Tot a Q) (h2 : c → Tot b Q) : Tot (if (!decide c) = true then a else b) Q :=
 .ite (fun h => h1 (by simpa using h)) (fun h => h2 (by simpa using h))
theorem Tot.chk {β : Type} {p : Prop} [Decidable p] {k : Unit → Option β} {Q : β → Prop} (h : p) (hk : Tot (k ()) Q) : Tot ((Ab.chk p).bind k) Q := .eq (chk_of h) hk
theorem Tot.idx {α β : Type} {l : List α} {i : Int} {k : α → Option β} {Q : β → Prop} (h0 : 0 ≤ i) (h : i < l.length) (hk : ∀ x, l[i.toNat]? = some x → Tot (k x) Q) : Tot ((Ab.idx l i).bind k) Q := by
 obtain ⟨x, h1, h2, _⟩ := idx_lt h0 h
 exact .eq h1 (hk x h2)
theorem Tot.flb {R V : Type} {m : Option (Fl R V)} {k : V → Option R} {Q : R → Prop} (h : Tot m fun v => (∀ r, v = .ret r → Q r) ∧ ∀ u, v = .go u → Tot (k u) Q) : Tot (Ab.flb m k) Q := by
 obtain ⟨v, rfl, h1, h2⟩ := h
 cases v with
 | ret r => exact ⟨r, rfl, h1 r rfl⟩
 | go u => exact h2 u rfl
theorem Tot.iter {A B : Type} {step : A → Option (Lp A B)} (I : Nat → A → Prop) {Q : B → Prop} {n : Nat} {a : A} (h0 : I n a)
  (h : ∀ k a, I k a → Tot (step a) fun r => (∀ a', r = .nx a' → ∃ k', k' < k ∧ I k' a') ∧ ∀ b, r = .dn b → Q b) : Tot (Ab.iter step a) Q := by
 refine iter_rule I Q (fun k a ha => ?_) h0
 obtain ⟨r, h1, h2, h3⟩ := h k a ha
 cases r with
 | nx a' =>
  obtain ⟨k', g1, g2⟩ := h2 a' rfl
  exact .inl ⟨a', k', h1, g1, g2⟩
 | dn b => exact .inr ⟨b, h1, h3 b rfl⟩
theorem Tot.nx {A B : Type} {a : A} {P : A → Prop} {Q : B → Prop} (h : P a) : Tot (some (Lp.nx a : Lp A B)) fun r => (∀ a', r = .nx a' → P a') ∧ ∀ b, r = .dn b → Q b :=
 ⟨_, rfl, fun a' e => by cases e; exact h, fun b e => by cases e⟩
theorem Tot.dn {A B : Type} {b : B} {P : A → Prop} {Q : B → Prop} (h : Q b) : Tot (some (Lp.dn b : Lp A B)) fun r => (∀ a', r = .nx a' → P a') ∧ ∀ b, r = .dn b → Q b :=
 ⟨_, rfl, fun a' e => (by cases e), fun b' e => (by cases e; exact h)⟩
theorem Tot.go {R V : Type} {u : V} {P : R → Prop} {Q : V → Prop} (h : Q u) : Tot (some (Fl.go u : Fl R V)) fun v => (∀ r, v = .ret r → P r) ∧ ∀ u, v = .go u → Q u :=
 ⟨_, rfl, fun r e => (by cases e), fun u' e => by cases e; exact h⟩
theorem Tot.ret {R V : Type} {r : R} {P : R → Prop} {Q : V → Prop} (h : P r) : Tot (some (Fl.ret r : Fl R V)) fun v => (∀ r, v = .ret r → P r) ∧ ∀ u, v = .go u → Q u :=
 ⟨_, rfl, fun r' e => (by cases e; exact h), fun u' e => by cases e⟩
theorem Tot.val {α : Type} {m : Option α} {a : α} (h : Tot m (· = a)) : m = some a := by obtain ⟨x, h1, rfl⟩ := h; exact h1
theorem Tot.of {α : Type} {m : Option α} {a : α} {Q : α → Prop} (h : m = some a) (hq : Q a) : Tot m Q := ⟨a, h, hq⟩
theorem ixs {α : Type} {l : List α} {i : Nat} {x : α} (h : l[i]? = some x) : Ab.idx l (i : Int) = some x := (idx_nat l i).trans h
theorem get_lt {α : Type} {l : List α} {i : Nat} {x : α} (h : l[i]? = some x) : i < l.length := (List.getElem?_eq_some_iff.1 h).1
theorem set_same {α : Type} {l : List α} {i : Nat} {x : α} (h : l[i]? = some x) : l.set i x = l := by
 obtain ⟨h1, h2⟩ := List.getElem?_eq_some_iff.1 h
 subst h2; exact List.set_getElem_self h1
theorem flb_dec {P : Prop} [Decidable P] {m : Option (Fl Bool Unit)} (h : Tot m fun b => (b = .go () ∧ P) ∨ (b = .ret false ∧ ¬ P)) : Ab.flb m (fun _ => some true) = some (decide P) := by
 obtain ⟨b, rfl, ⟨rfl, hp⟩ | ⟨rfl, hp⟩⟩ := h
 ·simp [hp]
 ·simp [hp]
theorem idx_some {α : Type} {l : List α} {i : Int} {x : α} (h : Ab.idx l i = some x) : 0 ≤ i ∧ i < l.length ∧ l[i.toNat]? = some x := by
 unfold Ab.idx at h
 split at h
 ·have := get_lt h; exact ⟨by omega, by omega, h⟩
 ·cases h
theorem idx_fix {α : Type} {p : α → Bool} {l : List α} (h : ¬ fixI p l < 0) : ∃ (k : Nat) (x : α), fixI p l = (k : Int) ∧ l[k]? = some x ∧ p x = true ∧ ∀ j y, j < k → l[j]? = some y → p y = false := by
 have e : fixI p l = ((fixI p l).toNat : Int) := by omega
 obtain ⟨x, h1, h2, h3⟩ := fixI_at e
 exact ⟨_, x, e, h1, h2, h3⟩
theorem sum_take_succ {l : List Int} {i : Nat} {x : Int} (h : l[i]? = some x) : (l.take (i + 1)).sum = (l.take i).sum + x := by
 rw [take_succ h]; simp
theorem bind_assoc' {α β γ : Type} (m : Option α) (f : α → Option β) (g : β → Option γ) : (m.bind fun x => (f x).bind g) = (m.bind f).bind g := by cases m <;> rfl
end Go.Ab
namespace Go.Ab.Pdq
set_option linter.unusedVariables false
set_option linter.unusedSimpArgs false
set_option maxRecDepth 100000
set_option linter.unusedVariables false
noncomputable def insertionSort_L1 {α : Type} (a : Int) (cmp : α → α → Option (Int)) : Int × (List α) → Option (Lp (Int × (List α)) ((List α)))
 | (v1, data2) =>
  (if (decide (a < v1)) = true then (idx data2 v1).bind fun e2 =>
  (idx data2 (w64 (v1 - 1))).bind fun e3 =>
  (cmp e2 e3).bind fun r1 =>
  some (decide (r1 < 0)) else some false).bind fun (v2 : Bool) =>
  if v2 = true then
   (idx data2 (w64 (v1 - 1))).bind fun e8 =>
   (idx data2 v1).bind fun e9 =>
   (idx data2 v1).bind fun e10 =>
   (idx (data2.set v1.toNat e8) (w64 (v1 - 1))).bind fun e11 =>
   some (.nx ((w64 (v1 - 1)), ((data2.set v1.toNat e8).set (w64 (v1 - 1)).toNat e9)))
  else
   some (.dn data2)
noncomputable def insertionSort_L2 {α : Type} (a : Int) (b : Int) (cmp : α → α → Option (Int)) : Int × (List α) → Option (Lp (Int × (List α)) ((List α)))
 | (v, data1) =>
  if (decide (v < b)) = true then
   (iter (insertionSort_L1 a cmp) (v, data1)).bind fun (data3 : List α) =>
   some (.nx ((w64 (v + 1)), data3))
  else
   some (.dn data1)
noncomputable def insertionSort {α : Type} (data : List α) (a : Int) (b : Int) (cmp : α → α → Option (Int)) : Option ((List α)) :=
 iter (insertionSort_L2 a b cmp) ((w64 (a + 1)), data)
noncomputable def siftDown_L1 {α : Type} (hi : Int) (first : Int) (cmp : α → α → Option (Int)) : Int × (List α) → Option (Lp (Int × (List α)) ((List α)))
 | (v, data1) =>
  if (decide (hi ≤ (w64 ((w64 (2 * v)) + 1)))) = true then
   some (.dn data1)
  else
   ((if (decide ((w64 ((w64 ((w64 (2 * v)) + 1)) + 1)) < hi)) = true then (idx data1 (w64 (first + (w64 ((w64 (2 * v)) + 1))))).bind fun e3 =>
   (idx data1 (w64 ((w64 (first + (w64 ((w64 (2 * v)) + 1)))) + 1))).bind fun e4 =>
   (cmp e3 e4).bind fun r2 =>
   some (decide (r2 < 0)) else some false).bind fun (v2 : Bool) =>
   if v2 = true then
    some (w64 ((w64 ((w64 (2 * v)) + 1)) + 1))
   else
    some (w64 ((w64 (2 * v)) + 1))).bind fun (v1 : Int) =>
   (idx data1 (w64 (first + v))).bind fun e7 =>
   (idx data1 (w64 (first + v1))).bind fun e8 =>
   (cmp e7 e8).bind fun r4 =>
   if (!(decide (r4 < 0))) = true then
    some (.dn data1)
   else
    (idx data1 (w64 (first + v1))).bind fun e14 =>
    (idx data1 (w64 (first + v))).bind fun e15 =>
    (idx data1 (w64 (first + v))).bind fun e16 =>
    (idx (data1.set (w64 (first + v)).toNat e14) (w64 (first + v1))).bind fun e17 =>
    some (.nx (v1, ((data1.set (w64 (first + v)).toNat e14).set (w64 (first + v1)).toNat e15)))
noncomputable def siftDown {α : Type} (data : List α) (lo : Int) (hi : Int) (first : Int) (cmp : α → α → Option (Int)) : Option ((List α)) :=
 iter (siftDown_L1 hi first cmp) (lo, data)
noncomputable def heapSort_L1 {α : Type} (a : Int) (b : Int) (cmp : α → α → Option (Int)) : Int × (List α) → Option (Lp (Int × (List α)) ((List α)))
 | (v, data1) =>
  if (decide (0 ≤ v)) = true then
   (siftDown data1 v (w64 (b - a)) a cmp).bind fun r =>
   some (.nx ((w64 (v - 1)), r))
  else
   some (.dn data1)
noncomputable def heapSort_L2 {α : Type} (a : Int) (cmp : α → α → Option (Int)) : Int × (List α) → Option (Lp (Int × (List α)) ((List α)))
 | (v1, data3) =>
  if (decide (0 ≤ v1)) = true then
   (idx data3 (w64 (a + v1))).bind fun e4 =>
   (idx data3 a).bind fun e5 =>
   (idx data3 a).bind fun e6 =>
   (idx (data3.set a.toNat e4) (w64 (a + v1))).bind fun e7 =>
   (siftDown ((data3.set a.toNat e4).set (w64 (a + v1)).toNat e5) 0 v1 a cmp).bind fun r1 =>
   some (.nx ((w64 (v1 - 1)), r1))
  else
   some (.dn data3)
noncomputable def heapSort {α : Type} (data : List α) (a : Int) (b : Int) (cmp : α → α → Option (Int)) : Option ((List α)) :=
 (chk ((2 : Int) ≠ 0)).bind fun u =>
 (iter (heapSort_L1 a b cmp) ((w64 ((w64 ((w64 (b - a)) - 1)).tdiv 2)), data)).bind fun (data2 : List α) =>
 iter (heapSort_L2 a cmp) ((w64 ((w64 (b - a)) - 1)), data2)
noncomputable def order2 {α : Type} (data : List α) (a : Int) (b : Int) (swaps : Int) (cmp : α → α → Option (Int)) : Option (Int × Int × Int) :=
 (idx data b).bind fun e2 =>
 (idx data a).bind fun e3 =>
 (cmp e2 e3).bind fun r1 =>
 if (decide (r1 < 0)) = true then
  some (b, a, (w64 (swaps + 1)))
 else
  some (a, b, swaps)
noncomputable def median {α : Type} (data : List α) (a : Int) (b : Int) (c : Int) (swaps : Int) (cmp : α → α → Option (Int)) : Option (Int × Int) :=
 (order2 data a b swaps cmp).bind fun r =>
 (order2 data r.2.1 c r.2.2 cmp).bind fun r1 =>
 (order2 data r.1 r1.1 r1.2.2 cmp).bind fun r2 =>
 some (r2.2.1, r2.2.2)
noncomputable def medianAdjacent {α : Type} (data : List α) (a : Int) (swaps : Int) (cmp : α → α → Option (Int)) : Option (Int × Int) :=
 (median data (w64 (a - 1)) a (w64 (a + 1)) swaps cmp).bind fun r =>
 some (r.1, r.2)
noncomputable def choosePivot {α : Type} (data : List α) (a : Int) (b : Int) (cmp : α → α → Option (Int)) : Option (Int × Int) :=
 (chk ((4 : Int) ≠ 0)).bind fun u =>
 (chk ((4 : Int) ≠ 0)).bind fun u1 =>
 (chk ((4 : Int) ≠ 0)).bind fun u2 =>
 (if (decide (8 ≤ (w64 (b - a)))) = true then
  (if (decide (50 ≤ (w64 (b - a)))) = true then
   (medianAdjacent data (w64 (a + (w64 ((w64 ((w64 (b - a)).tdiv 4)) * 1)))) 0 cmp).bind fun r =>
   (medianAdjacent data (w64 (a + (w64 ((w64 ((w64 (b - a)).tdiv 4)) * 2)))) r.2 cmp).bind fun r1 =>
   (medianAdjacent data (w64 (a + (w64 ((w64 ((w64 (b - a)).tdiv 4)) * 3)))) r1.2 cmp).bind fun r2 =>
   some (r.1, r1.1, r2.1, r2.2)
  else
   some ((w64 (a + (w64 ((w64 ((w64 (b - a)).tdiv 4)) * 1)))), (w64 (a + (w64 ((w64 ((w64 (b - a)).tdiv 4)) * 2)))), (w64 (a + (w64 ((w64 ((w64 (b - a)).tdiv 4)) * 3)))), (0 : Int))).bind fun ((v2, v3, v4, v5) : Int × Int × Int × Int) =>
  (median data v2 v3 v4 v5 cmp).bind fun r3 =>
  some (r3.1, r3.2)
 else
  some ((w64 (a + (w64 ((w64 ((w64 (b - a)).tdiv 4)) * 2)))), (0 : Int))).bind fun ((v, v1) : Int × Int) =>
 if (v1 == 0) = true then
  some (v, 1)
 else
  if (v1 == 12) = true then
   some (v, 2)
  else
   some (v, 0)
noncomputable def reverseRange_L1 {α : Type} : Int × Int × (List α) → Option (Lp (Int × Int × (List α)) ((List α)))
 | (v, v1, data1) =>
  if (decide (v < v1)) = true then
   (idx data1 v1).bind fun e4 =>
   (idx data1 v).bind fun e5 =>
   (idx data1 v).bind fun e6 =>
   (idx (data1.set v.toNat e4) v1).bind fun e7 =>
   some (.nx ((w64 (v + 1)), (w64 (v1 - 1)), ((data1.set v.toNat e4).set v1.toNat e5)))
  else
   some (.dn data1)
noncomputable def reverseRange {α : Type} (data : List α) (a : Int) (b : Int) (cmp : α → α → Option (Int)) : Option ((List α)) :=
 iter (reverseRange_L1) (a, (w64 (b - 1)), data)
noncomputable def partialInsertionSort_L1 {α : Type} (b : Int) (cmp : α → α → Option (Int)) (data1 : List α) : Int → Option (Lp (Int) (Int))
 | v3 =>
  (if (decide (v3 < b)) = true then (idx data1 v3).bind fun e2 =>
  (idx data1 (w64 (v3 - 1))).bind fun e3 =>
  (cmp e2 e3).bind fun r1 =>
  some (!(decide (r1 < 0))) else some false).bind fun (v4 : Bool) =>
  if v4 = true then
   some (.nx (w64 (v3 + 1)))
  else
   some (.dn v3)
noncomputable def partialInsertionSort_L2 {α : Type} (cmp : α → α → Option (Int)) : Int × (List α) → Option (Lp (Int × (List α)) ((List α)))
 | (v6, data4) =>
  if (decide (1 ≤ v6)) = true then
   (idx data4 v6).bind fun e18 =>
   (idx data4 (w64 (v6 - 1))).bind fun e19 =>
   (cmp e18 e19).bind fun r7 =>
   if (!(decide (r7 < 0))) = true then
    some (.dn data4)
   else
    (idx data4 (w64 (v6 - 1))).bind fun e24 =>
    (idx data4 v6).bind fun e25 =>
    (idx data4 v6).bind fun e26 =>
    (idx (data4.set v6.toNat e24) (w64 (v6 - 1))).bind fun e27 =>
    some (.nx ((w64 (v6 - 1)), ((data4.set v6.toNat e24).set (w64 (v6 - 1)).toNat e25)))
  else
   some (.dn data4)
noncomputable def partialInsertionSort_L3 {α : Type} (b : Int) (cmp : α → α → Option (Int)) : Int × (List α) → Option (Lp (Int × (List α)) ((List α)))
 | (v7, data6) =>
  if (decide (v7 < b)) = true then
   (idx data6 v7).bind fun e30 =>
   (idx data6 (w64 (v7 - 1))).bind fun e31 =>
   (cmp e30 e31).bind fun r9 =>
   if (!(decide (r9 < 0))) = true then
    some (.dn data6)
   else
    (idx data6 (w64 (v7 - 1))).bind fun e36 =>
    (idx data6 v7).bind fun e37 =>
    (idx data6 v7).bind fun e38 =>
    (idx (data6.set v7.toNat e36) (w64 (v7 - 1))).bind fun e39 =>
    some (.nx ((w64 (v7 + 1)), ((data6.set v7.toNat e36).set (w64 (v7 - 1)).toNat e37)))
  else
   some (.dn data6)
noncomputable def partialInsertionSort_L4 {α : Type} (a : Int) (b : Int) (cmp : α → α → Option (Int)) : Int × Int × (List α) → Option (Lp (Int × Int × (List α)) (Fl (Bool × (List α)) ((List α))))
 | (v, v1, data1) =>
  if (decide (v1 < 5)) = true then
   flb ((iter (partialInsertionSort_L1 b cmp data1) v).bind fun (v5 : Int) =>
   if (v5 == b) = true then
    some (.ret (.dn (.ret (true, data1))))
   else
    if (decide ((w64 (b - a)) < 50)) = true then
     some (.ret (.dn (.ret (false, data1))))
    else
     (idx data1 (w64 (v5 - 1))).bind fun e12 =>
     (idx data1 v5).bind fun e13 =>
     (idx data1 v5).bind fun e14 =>
     (idx (data1.set v5.toNat e12) (w64 (v5 - 1))).bind fun e15 =>
     (if (decide (2 ≤ (w64 (v5 - a)))) = true then
      (iter (partialInsertionSort_L2 cmp) ((w64 (v5 - 1)), ((data1.set v5.toNat e12).set (w64 (v5 - 1)).toNat e13))).bind fun (data5 : List α) =>
      some data5
     else
      some ((data1.set v5.toNat e12).set (w64 (v5 - 1)).toNat e13)).bind fun (data3 : List α) =>
     if (decide (2 ≤ (w64 (b - v5)))) = true then
      (iter (partialInsertionSort_L3 b cmp) ((w64 (v5 + 1)), data3)).bind fun (data7 : List α) =>
      some (.go (v5, data7))
     else
      some (.go (v5, data3))) fun ((v2, data2) : Int × (List α)) =>
   some (.nx (v2, (w64 (v1 + 1)), data2))
  else
   some (.dn (.go data1))
noncomputable def partialInsertionSort {α : Type} (data : List α) (a : Int) (b : Int) (cmp : α → α → Option (Int)) : Option (Bool × (List α)) :=
 flb (iter (partialInsertionSort_L4 a b cmp) ((w64 (a + 1)), (0 : Int), data)) fun (data8 : List α) =>
 some (false, data8)
noncomputable def partitionEqual_L1 {α : Type} (a : Int) (cmp : α → α → Option (Int)) (v1 : Int) (data1 : List α) : Int → Option (Lp (Int) (Int))
 | v2 =>
  (if (decide (v2 ≤ v1)) = true then (idx data1 a).bind fun e10 =>
  (idx data1 v2).bind fun e11 =>
  (cmp e10 e11).bind fun r1 =>
  some (!(decide (r1 < 0))) else some false).bind fun (v3 : Bool) =>
  if v3 = true then
   some (.nx (w64 (v2 + 1)))
  else
   some (.dn v2)
noncomputable def partitionEqual_L2 {α : Type} (a : Int) (cmp : α → α → Option (Int)) (data1 : List α) (v4 : Int) : Int → Option (Lp (Int) (Int))
 | v5 =>
  (if (decide (v4 ≤ v5)) = true then (idx data1 a).bind fun e14 =>
  (idx data1 v5).bind fun e15 =>
  (cmp e14 e15).bind fun r3 =>
  some (decide (r3 < 0)) else some false).bind fun (v6 : Bool) =>
  if v6 = true then
   some (.nx (w64 (v5 - 1)))
  else
   some (.dn v5)
noncomputable def partitionEqual_L3 {α : Type} (a : Int) (cmp : α → α → Option (Int)) : Int × Int × (List α) → Option (Lp (Int × Int × (List α)) (Int × (List α)))
 | (v, v1, data1) =>
  (iter (partitionEqual_L1 a cmp v1 data1) v).bind fun (v4 : Int) =>
  (iter (partitionEqual_L2 a cmp data1 v4) v1).bind fun (v7 : Int) =>
  if (decide (v7 < v4)) = true then
   some (.dn (v4, data1))
  else
   (idx data1 v7).bind fun e20 =>
   (idx data1 v4).bind fun e21 =>
   (idx data1 v4).bind fun e22 =>
   (idx (data1.set v4.toNat e20) v7).bind fun e23 =>
   some (.nx ((w64 (v4 + 1)), (w64 (v7 - 1)), ((data1.set v4.toNat e20).set v7.toNat e21)))
noncomputable def partitionEqual {α : Type} (data : List α) (a : Int) (b : Int) (pivot : Int) (cmp : α → α → Option (Int)) : Option (Int × (List α)) :=
 (idx data pivot).bind fun e4 =>
 (idx data a).bind fun e5 =>
 (idx data a).bind fun e6 =>
 (idx (data.set a.toNat e4) pivot).bind fun e7 =>
 (iter (partitionEqual_L3 a cmp) ((w64 (a + 1)), (w64 (b - 1)), ((data.set a.toNat e4).set pivot.toNat e5))).bind fun ((v8, data2) : Int × (List α)) =>
 some (v8, data2)
noncomputable def partition_L1 {α : Type} (data : List α) (a : Int) (b : Int) (pivot : Int) (cmp : α → α → Option (Int)) (e4 : α) (e5 : α) : Int → Option (Lp (Int) (Int))
 | v =>
  (if (decide (v ≤ (w64 (b - 1)))) = true then (idx ((data.set a.toNat e4).set pivot.toNat e5) v).bind fun e10 =>
  (idx ((data.set a.toNat e4).set pivot.toNat e5) a).bind fun e11 =>
  (cmp e10 e11).bind fun r1 =>
  some (decide (r1 < 0)) else some false).bind fun (v1 : Bool) =>
  if v1 = true then
   some (.nx (w64 (v + 1)))
  else
   some (.dn v)
noncomputable def partition_L2 {α : Type} (data : List α) (a : Int) (pivot : Int) (cmp : α → α → Option (Int)) (e4 : α) (e5 : α) (v2 : Int) : Int → Option (Lp (Int) (Int))
 | v3 =>
  (if (decide (v2 ≤ v3)) = true then (idx ((data.set a.toNat e4).set pivot.toNat e5) v3).bind fun e14 =>
  (idx ((data.set a.toNat e4).set pivot.toNat e5) a).bind fun e15 =>
  (cmp e14 e15).bind fun r3 =>
  some (!(decide (r3 < 0))) else some false).bind fun (v4 : Bool) =>
  if v4 = true then
   some (.nx (w64 (v3 - 1)))
  else
   some (.dn v3)
noncomputable def partition_L3 {α : Type} (a : Int) (cmp : α → α → Option (Int)) (v7 : Int) (data1 : List α) : Int → Option (Lp (Int) (Int))
 | v8 =>
  (if (decide (v8 ≤ v7)) = true then (idx data1 v8).bind fun e34 =>
  (idx data1 a).bind fun e35 =>
  (cmp e34 e35).bind fun r5 =>
  some (decide (r5 < 0)) else some false).bind fun (v9 : Bool) =>
  if v9 = true then
   some (.nx (w64 (v8 + 1)))
  else
   some (.dn v8)
noncomputable def partition_L4 {α : Type} (a : Int) (cmp : α → α → Option (Int)) (data1 : List α) (v10 : Int) : Int → Option (Lp (Int) (Int))
 | v11 =>
  (if (decide (v10 ≤ v11)) = true then (idx data1 v11).bind fun e38 =>
  (idx data1 a).bind fun e39 =>
  (cmp e38 e39).bind fun r7 =>
  some (!(decide (r7 < 0))) else some false).bind fun (v12 : Bool) =>
  if v12 = true then
   some (.nx (w64 (v11 - 1)))
  else
   some (.dn v11)
noncomputable def partition_L5 {α : Type} (a : Int) (cmp : α → α → Option (Int)) : Int × Int × (List α) → Option (Lp (Int × Int × (List α)) (Int × (List α)))
 | (v6, v7, data1) =>
  (iter (partition_L3 a cmp v7 data1) v6).bind fun (v10 : Int) =>
  (iter (partition_L4 a cmp data1 v10) v7).bind fun (v13 : Int) =>
  if (decide (v13 < v10)) = true then
   some (.dn (v13, data1))
  else
   (idx data1 v13).bind fun e44 =>
   (idx data1 v10).bind fun e45 =>
   (idx data1 v10).bind fun e46 =>
   (idx (data1.set v10.toNat e44) v13).bind fun e47 =>
   some (.nx ((w64 (v10 + 1)), (w64 (v13 - 1)), ((data1.set v10.toNat e44).set v13.toNat e45)))
noncomputable def partition {α : Type} (data : List α) (a : Int) (b : Int) (pivot : Int) (cmp : α → α → Option (Int)) : Option (Int × Bool × (List α)) :=
 (idx data pivot).bind fun e4 =>
 (idx data a).bind fun e5 =>
 (idx data a).bind fun e6 =>
 (idx (data.set a.toNat e4) pivot).bind fun e7 =>
 (iter (partition_L1 data a b pivot cmp e4 e5) (w64 (a + 1))).bind fun (v2 : Int) =>
 (iter (partition_L2 data a pivot cmp e4 e5 v2) (w64 (b - 1))).bind fun (v5 : Int) =>
 if (decide (v5 < v2)) = true then
  (idx ((data.set a.toNat e4).set pivot.toNat e5) a).bind fun e20 =>
  (idx ((data.set a.toNat e4).set pivot.toNat e5) v5).bind fun e21 =>
  (idx ((data.set a.toNat e4).set pivot.toNat e5) v5).bind fun e22 =>
  (idx (((data.set a.toNat e4).set pivot.toNat e5).set v5.toNat e20) a).bind fun e23 =>
  some (v5, true, ((((data.set a.toNat e4).set pivot.toNat e5).set v5.toNat e20).set a.toNat e21))
 else
  (idx ((data.set a.toNat e4).set pivot.toNat e5) v5).bind fun e28 =>
  (idx ((data.set a.toNat e4).set pivot.toNat e5) v2).bind fun e29 =>
  (idx ((data.set a.toNat e4).set pivot.toNat e5) v2).bind fun e30 =>
  (idx (((data.set a.toNat e4).set pivot.toNat e5).set v2.toNat e28) v5).bind fun e31 =>
  (iter (partition_L5 a cmp) ((w64 (v2 + 1)), (w64 (v5 - 1)), ((((data.set a.toNat e4).set pivot.toNat e5).set v2.toNat e28).set v5.toNat e29))).bind fun ((v14, data2) : Int × (List α)) =>
  (idx data2 a).bind fun e52 =>
  (idx data2 v14).bind fun e53 =>
  (idx data2 v14).bind fun e54 =>
  (idx (data2.set v14.toNat e52) a).bind fun e55 =>
  some (v14, false, ((data2.set v14.toNat e52).set a.toNat e53))
noncomputable def breakPatterns_L1 {α : Type} (nxt : IK .u64 → Option (IK .u64 × IK .u64)) (a : Int) (b : Int) (r : (IK .u64)) : Int × (List α) × Int → Option (Lp (Int × (List α) × Int) ((List α)))
 | (v, data1, v1) =>
  (chk ((4 : Int) ≠ 0)).bind fun u1 =>
  if (decide (v ≤ (w64 ((w64 (a + (w64 ((w64 ((w64 (b - a)).tdiv 4)) * 2)))) + 1)))) = true then
   (nxt (⟨v1⟩ : IK .u64)).bind fun r1 =>
   (if (decide ((w64 (b - a)) ≤ (w64 ((IntKind.u64.wrap ((BitVec.ofInt (IntKind.u64).bits r1.1.v &&& BitVec.ofInt (IntKind.u64).bits (IntKind.u64.wrap (r.v - 1))).toNat : Int)))))) = true then
    some (w64 ((w64 ((IntKind.u64.wrap ((BitVec.ofInt (IntKind.u64).bits r1.1.v &&& BitVec.ofInt (IntKind.u64).bits (IntKind.u64.wrap (r.v - 1))).toNat : Int)))) - (w64 (b - a))))
   else
    some (w64 ((IntKind.u64.wrap ((BitVec.ofInt (IntKind.u64).bits r1.1.v &&& BitVec.ofInt (IntKind.u64).bits (IntKind.u64.wrap (r.v - 1))).toNat : Int))))).bind fun (v2 : Int) =>
   (idx data1 (w64 (a + v2))).bind fun e4 =>
   (idx data1 v).bind fun e5 =>
   (idx data1 v).bind fun e6 =>
   (idx (data1.set v.toNat e4) (w64 (a + v2))).bind fun e7 =>
   some (.nx ((w64 (v + 1)), ((data1.set v.toNat e4).set (w64 (a + v2)).toNat e5), r1.2.v))
  else
   some (.dn data1)
noncomputable def breakPatterns {α : Type} (npo : Int → Option (IK .u64)) (nxt : IK .u64 → Option (IK .u64 × IK .u64)) (data : List α) (a : Int) (b : Int) (cmp : α → α → Option (Int)) : Option ((List α)) :=
 if (decide (8 ≤ (w64 (b - a)))) = true then
  (npo (w64 (b - a))).bind fun r =>
  (chk ((4 : Int) ≠ 0)).bind fun u =>
  iter (breakPatterns_L1 nxt a b r) ((w64 ((w64 (a + (w64 ((w64 ((w64 (b - a)).tdiv 4)) * 2)))) - 1)), data, (IntKind.u64.wrap ((w64 (b - a)))))
 else
  some data
noncomputable def pdq_L1 {α : Type} (npo : Int → Option (IK .u64)) (nxt : IK .u64 → Option (IK .u64 × IK .u64)) (cmp : α → α → Option Int) (rec_ : (List α) → Int → Int → Int → Option ((List α))) : Int × Int × Int × Bool × Bool × (List α) → Option (Lp (Int × Int × Int × Bool × Bool × (List α)) ((List α)))
 | (a1, b1, limit1, mid, mid1, data1) =>
  if (decide ((w64 (b1 - a1)) ≤ 12)) = true then
   (insertionSort data1 a1 b1 cmp).bind fun r =>
   some (.dn r)
  else
   if (limit1 == 0) = true then
    (heapSort data1 a1 b1 cmp).bind fun r2 =>
    some (.dn r2)
   else
    (if (!mid) = true then
     (breakPatterns npo nxt data1 a1 b1 cmp).bind fun r4 =>
     some ((w64 (limit1 - 1)), r4)
    else
     some (limit1, data1)).bind fun ((limit2, data2) : Int × (List α)) =>
    (choosePivot data2 a1 b1 cmp).bind fun r5 =>
    (if (r5.2 == 2) = true then
     (reverseRange data2 a1 b1 cmp).bind fun r6 =>
     some ((w64 ((w64 (b1 - 1)) - (w64 (r5.1 - a1)))), (1 : Int), r6)
    else
     some (r5.1, r5.2, data2)).bind fun ((leftLen, rightLen, data3) : Int × Int × (List α)) =>
    flb ((if mid = true then if mid1 = true then some (rightLen == 1) else some false else some false).bind fun (v : Bool) =>
    if v = true then
     (partialInsertionSort data3 a1 b1 cmp).bind fun r7 =>
     if r7.1 = true then
      some (.ret (.dn r7.2))
     else
      some (.go r7.2)
    else
     some (.go data3)) fun (data4 : List α) =>
    (if (decide (0 < a1)) = true then (idx data4 (w64 (a1 - 1))).bind fun e6 =>
    (idx data4 leftLen).bind fun e7 =>
    (cmp e6 e7).bind fun r11 =>
    some (!(decide (r11 < 0))) else some false).bind fun (v1 : Bool) =>
    if v1 = true then
     (partitionEqual data4 a1 b1 leftLen cmp).bind fun r12 =>
     some (.nx (r12.1, b1, limit2, mid, mid1, r12.2))
    else
     (partition data4 a1 b1 leftLen cmp).bind fun r13 =>
     (chk ((8 : Int) ≠ 0)).bind fun u =>
     if (decide ((w64 (r13.1 - a1)) < (w64 (b1 - r13.1)))) = true then
      (rec_ r13.2.2 a1 r13.1 limit2).bind fun r14 =>
      some (.nx ((w64 (r13.1 + 1)), b1, limit2, (decide ((w64 ((w64 (b1 - a1)).tdiv 8)) ≤ (w64 (r13.1 - a1)))), r13.2.1, r14))
     else
      (rec_ r13.2.2 (w64 (r13.1 + 1)) b1 limit2).bind fun r15 =>
      some (.nx (a1, r13.1, limit2, (decide ((w64 ((w64 (b1 - a1)).tdiv 8)) ≤ (w64 (b1 - r13.1)))), r13.2.1, r15))
noncomputable def pdq_F {α : Type} (npo : Int → Option (IK .u64)) (nxt : IK .u64 → Option (IK .u64 × IK .u64)) (cmp : α → α → Option Int) (rec_ : (List α) → Int → Int → Int → Option ((List α))) (data : List α) (a : Int) (b : Int) (limit : Int) : Option ((List α)) :=
 iter (pdq_L1 npo nxt cmp rec_) (a, b, limit, true, true, data)
noncomputable def pdq_k {α : Type} (npo : Int → Option (IK .u64)) (nxt : IK .u64 → Option (IK .u64 × IK .u64)) (cmp : α → α → Option Int) : Nat → (List α) → Int → Int → Int → Option ((List α))
 | 0 => fun _ _ _ _ => none
 | n + 1 => pdq_F npo nxt cmp (pdq_k npo nxt cmp n)
noncomputable def pdq {α : Type} (npo : Int → Option (IK .u64)) (nxt : IK .u64 → Option (IK .u64 × IK .u64)) (cmp : α → α → Option Int) (data : List α) (a : Int) (b : Int) (limit : Int) : Option ((List α)) := pdq_k npo nxt cmp 4294967296 data a b limit
end Go.Ab.Pdq
namespace Go.Ab.Pdq
set_option linter.unusedVariables false
set_option linter.unusedSimpArgs false
set_option linter.unusedVariables false
variable {α β : Type}
def At (l : List α) (i : Int) (x : α) : Prop := 0 ≤ i ∧ l[i.toNat]? = some x
theorem At.lt {l : List α} {i : Int} {x : α} (h : At l i x) : i < l.length := by
 have := get_lt h.2; have := h.1; omega
theorem At.uniq {l : List α} {i : Int} {x y : α} (h : At l i x) (h' : At l i y) : x = y := by
 have := h.2.symm.trans h'.2; cases this; rfl
theorem At.ex {l : List α} {i : Int} (h0 : 0 ≤ i) (h : i < l.length) : ∃ x, At l i x := by
 obtain ⟨x, hx⟩ := get_ex (l := l) (i := i.toNat) (by omega); exact ⟨x, h0, hx⟩
theorem At.mem {l : List α} {i : Int} {x : α} (h : At l i x) : x ∈ l := List.mem_of_getElem? h.2
def swp (l : List α) (i j : Int) (x y : α) : List α := (l.set i.toNat y).set j.toNat x
theorem At.swp {l : List α} {i j : Int} {x y : α} (hi : At l i x) (hj : At l j y) {k : Int} {z : α} (h : At (swp l i j x y) k z) :
  (k = j ∧ z = x) ∨ (k ≠ j ∧ k = i ∧ z = y) ∨ (k ≠ i ∧ k ≠ j ∧ At l k z) := by
 obtain ⟨h0, h⟩ := h
 have li := hi.lt; have lj := hj.lt; have i0 := hi.1; have j0 := hj.1
 unfold Pdq.swp at h
 by_cases e1 : k = j
 ·subst e1
  rw [List.getElem?_set_self (by simp; omega)] at h
  cases h; exact .inl ⟨rfl, rfl⟩
 ·rw [List.getElem?_set_ne (by omega)] at h
  by_cases e2 : k = i
  ·subst e2
   rw [List.getElem?_set_self (by omega)] at h
   cases h; exact .inr (.inl ⟨e1, rfl, rfl⟩)
  ·rw [List.getElem?_set_ne (by omega)] at h
   exact .inr (.inr ⟨e2, e1, h0, h⟩)
theorem swp_out {l : List α} {i j : Int} {x y : α} (hi : 0 ≤ i) (hj : 0 ≤ j) {k : Int} {z : α} (h1 : k ≠ i) (h2 : k ≠ j) : At (swp l i j x y) k z ↔ At l k z := by
 unfold At swp
 constructor
 ·rintro ⟨a, b⟩
  rw [List.getElem?_set_ne (by omega), List.getElem?_set_ne (by omega)] at b
  exact ⟨a, b⟩
 ·rintro ⟨a, b⟩
  refine ⟨a, ?_⟩
  rw [List.getElem?_set_ne (by omega), List.getElem?_set_ne (by omega)]; exact b
theorem At.swp1 {l : List α} {i j : Int} {x y : α} (hi : At l i x) (hj : At l j y) : At (Pdq.swp l i j x y) i y := by
 refine ⟨hi.1, ?_⟩
 unfold Pdq.swp
 have li := hi.lt; have i0 := hi.1; have j0 := hj.1
 by_cases e : i = j
 ·subst e
  rw [List.getElem?_set_self (by simp; omega)]; rw [hi.uniq hj]
 ·rw [List.getElem?_set_ne (by omega), List.getElem?_set_self (by omega)]
structure R (a b : Int) (l l' : List α) : Prop where
 perm : l'.Perm l
 out : ∀ i x, i < a ∨ b ≤ i → (At l' i x ↔ At l i x)
 inn : ∀ i x, a ≤ i → i < b → At l' i x → ∃ j, a ≤ j ∧ j < b ∧ At l j x
theorem R.len {a b : Int} {l l' : List α} (h : R a b l l') : l'.length = l.length := h.perm.length_eq
theorem R.refl {a b : Int} {l : List α} : R a b l l := ⟨.refl _, fun _ _ _ => .rfl, fun i x h1 h2 h => ⟨i, h1, h2, h⟩⟩
theorem R.trans {a b : Int} {l l' l'' : List α} (h : R a b l l') (h' : R a b l' l'') : R a b l l'' := by
 refine ⟨h'.perm.trans h.perm, fun i x hi => (h'.out i x hi).trans (h.out i x hi), fun i x h1 h2 hx => ?_⟩
 obtain ⟨j, g1, g2, g3⟩ := h'.inn i x h1 h2 hx
 exact h.inn j x g1 g2 g3
theorem R.wide {a b a' b' : Int} {l l' : List α} (h : R a b l l') (ha : a' ≤ a) (hb : b ≤ b') : R a' b' l l' := by
 refine ⟨h.perm, fun i x hi => h.out i x (by omega), fun i x h1 h2 hx => ?_⟩
 by_cases hc : i < a ∨ b ≤ i
 ·exact ⟨i, h1, h2, (h.out i x hc).1 hx⟩
 ·obtain ⟨j, g1, g2, g3⟩ := h.inn i x (by omega) (by omega) hx
  exact ⟨j, by omega, by omega, g3⟩
theorem R.swp {a b i j : Int} {l : List α} {x y : α} (hi : At l i x) (hj : At l j y) (h1 : a ≤ i) (h2 : i < b) (h3 : a ≤ j) (h4 : j < b) : R a b l (Pdq.swp l i j x y) := by
 have li := hi.lt; have lj := hj.lt; have i0 := hi.1; have j0 := hj.1
 refine ⟨?_, fun k z hk => swp_out i0 j0 (by omega) (by omega), fun k z g1 g2 hz => ?_⟩
 ·have e1 := hi.2; have e2 := hj.2
  obtain ⟨b1, e1⟩ := List.getElem?_eq_some_iff.1 e1
  obtain ⟨b2, e2⟩ := List.getElem?_eq_some_iff.1 e2
  have := List.set_set_perm (as := l) b1 b2
  rw [e1, e2] at this
  exact this
 ·rcases hi.swp hj hz with ⟨rfl, rfl⟩ | ⟨_, rfl, rfl⟩ | ⟨_, _, h⟩
  ·exact ⟨i, h1, h2, hi⟩
  ·exact ⟨j, h3, h4, hj⟩
  ·exact ⟨k, g1, g2, h⟩
structure Lt (cmp : α → α → Option Int) (le : α → α → Prop) : Prop where
 tot : ∀ x y, le x y ∨ le y x
 trans : ∀ {x y z}, le x y → le y z → le x z
 hc : ∀ x y, ∃ c, cmp x y = some c ∧ (c < 0 ↔ ¬ le y x)
def Srt (le : α → α → Prop) (l : List α) (a b : Int) : Prop := ∀ i j x y, a ≤ i → i < j → j < b → At l i x → At l j y → le x y
section
variable {cmp : α → α → Option Int} {le : α → α → Prop} (h : Lt cmp le)
theorem Tot.idxA {l : List α} {i : Int} {k : α → Option β} {Q : β → Prop} (h0 : 0 ≤ i) (h : i < l.length) (hk : ∀ x, At l i x → Tot (k x) Q) : Tot ((Ab.idx l i).bind k) Q := .idx h0 h fun x hx => hk x ⟨h0, hx⟩
include h
theorem Lt.refl (x : α) : le x x := by rcases h.tot x x with h | h <;> exact h
theorem Lt.not {x y : α} (hn : ¬ le y x) : le x y := by
 rcases h.tot x y with h1 | h1
 ·exact h1
 ·exact absurd h1 hn
theorem Tot.cm {x y : α} {k : Int → Option β} {Q : β → Prop} (hk : ∀ c, (c < 0 ↔ ¬ le y x) → Tot (k c) Q) : Tot ((cmp x y).bind k) Q := by
 obtain ⟨c, h1, h2⟩ := h.hc x y
 exact .eq h1 (hk c h2)
theorem condLt {c : Prop} [Decidable c] {l : List α} {i j : Int} (hi : c → 0 ≤ i ∧ i < l.length) (hj : c → 0 ≤ j ∧ j < l.length) :
  Tot (if decide c = true then (idx l i).bind fun e2 => (idx l j).bind fun e3 => (cmp e2 e3).bind fun r1 => some (decide (r1 < 0)) else some false)
   fun b => (b = true → c ∧ ∃ x y, At l i x ∧ At l j y ∧ ¬ le y x) ∧ (b = false → c → ∃ x y, At l i x ∧ At l j y ∧ le y x) := by
 refine .iteP (fun hc => ?_) (fun hc => .ok ⟨fun e => (by cases e), fun _ h => absurd h hc⟩)
 refine Tot.idxA (hi hc).1 (hi hc).2 fun x hx => Tot.idxA (hj hc).1 (hj hc).2 fun y hy => Tot.cm h fun r hr => .ok ⟨fun e => ⟨hc, x, y, hx, hy, hr.1 (of_decide_eq_true e)⟩, fun e _ => ⟨x, y, hx, hy, ?_⟩⟩
 have := of_decide_eq_false e
 rw [hr] at this
 exact Classical.not_not.1 this
omit h in
theorem Tot.swap {l : List α} {i j : Int} {k : α → α → Option β} {Q : β → Prop} (hi : 0 ≤ i ∧ i < l.length) (hj : 0 ≤ j ∧ j < l.length) (hk : ∀ x y, At l i x → At l j y → Tot (k y x) Q) :
  Tot ((idx l j).bind fun e4 => (idx l i).bind fun e5 => (idx l i).bind fun _ => (idx (l.set i.toNat e4) j).bind fun _ => k e4 e5) Q :=
 Tot.idxA hj.1 hj.2 fun y hy => Tot.idxA hi.1 hi.2 fun x hx => Tot.idxA hi.1 hi.2 fun _ _ => Tot.idxA hj.1 (by simp; omega) fun _ _ => hk x y hx hy

end
end Go.Ab.Pdq
namespace Go.Ab.Pdq
set_option linter.unusedVariables false
set_option linter.unusedSimpArgs false
set_option linter.unusedVariables false
variable {α β : Type}
def Hp (le : α → α → Prop) (l : List α) (f lo hi r : Int) : Prop := ∀ i c x y, lo ≤ i → i ≠ r → (c = 2 * i + 1 ∨ c = 2 * i + 2) → c < hi → At l (f + i) x → At l (f + c) y → le y x
def Gp (le : α → α → Prop) (l : List α) (f lo hi r : Int) : Prop := ∀ p c x y, lo ≤ p → (r = 2 * p + 1 ∨ r = 2 * p + 2) → (c = 2 * r + 1 ∨ c = 2 * r + 2) → c < hi → At l (f + p) x → At l (f + c) y → le y x
section
variable {cmp : α → α → Option Int} {le : α → α → Prop} (h : Lt cmp le)
include h
theorem sift {f lo hi r : Int} {l0 : List α} (hf : 0 ≤ f) (hlo : 0 ≤ lo) (hr : lo ≤ r) (hr2 : r ≤ 4294967296) (hl : f + hi ≤ l0.length) (hhi : 0 ≤ hi) (hlen : l0.length ≤ 4294967296) (h1 : Hp le l0 f lo hi r) (h2 : Gp le l0 f lo hi r) :
  Tot (siftDown l0 r hi f cmp) fun l => R f (f + hi) l0 l ∧ Hp le l f lo hi (-1) := by
 unfold siftDown
 refine Tot.iter (fun m s => m = (hi - s.1).toNat ∧ lo ≤ s.1 ∧ s.1 ≤ 4294967296 ∧ R f (f + hi) l0 s.2 ∧ Hp le s.2 f lo hi s.1 ∧ Gp le s.2 f lo hi s.1) (n := (hi - r).toNat) ⟨rfl, hr, hr2, R.refl, h1, h2⟩ ?_
 rintro m ⟨v, l⟩ ⟨g1, g2, g2', g3, g4, g5⟩
 dsimp only at g1 g2 g2' g3 g4 g5
 have hll := g3.len
 unfold siftDown_L1
 dsimp only
 simp (disch := omega) only [w64_id]
 refine .iteP (fun hc => .dn ⟨g3, fun i c x y k1 k2 k3 k4 hx hy => ?_⟩) (fun hc => ?_)
 ·refine g4 i c x y k1 (fun e => ?_) k3 k4 hx hy
  omega
 refine Tot.call (P := fun (c : Int) => (c = 2 * v + 1 ∨ c = 2 * v + 2) ∧ c < hi ∧ ∀ c' x y, (c' = 2 * v + 1 ∨ c' = 2 * v + 2) → c' < hi → At l (f + c') x → At l (f + c) y → le x y) ?_ fun c hcc => ?_
 ·refine Tot.call (condLt h (fun _ => by omega) (fun _ => by omega)) fun b hb => .ite (fun e => ?_) (fun e => ?_)
  ·obtain ⟨hc2, p, q, hp, hq, hlt⟩ := hb.1 e
   refine .ok ⟨.inr (by omega), by omega, fun c' x y e1 e2 hx hy => ?_⟩
   rw [show f + (2 * v + 1) + 1 = f + (2 * v + 1 + 1) by omega] at hq
   cases hy.uniq hq
   rcases e1 with rfl | rfl
   ·cases hx.uniq hp; exact h.not hlt
   ·rw [show f + (2 * v + 2) = f + (2 * v + 1 + 1) by omega] at hx
    cases hx.uniq hq; exact h.refl _
  ·refine .ok ⟨.inl rfl, by omega, fun c' x y e1 e2 hx hy => ?_⟩
   rcases e1 with rfl | rfl
   ·cases hx.uniq hy; exact h.refl _
   ·obtain ⟨p, q, hp, hq, hle⟩ := hb.2 e (by omega)
    rw [show f + (2 * v + 1) + 1 = f + (2 * v + 2) by omega] at hq
    cases hx.uniq hq; cases hy.uniq hp; exact hle
 ·obtain ⟨c1, c2, c3⟩ := hcc
  simp (disch := omega) only [w64_id]
  refine Tot.idxA (by omega) (by omega) fun x hx => Tot.idxA (by omega) (by omega) fun y hy => Tot.cm h fun r4 hr4 => .iteN (fun hn => .dn ⟨g3, fun i c' u z k1 k2 k3 k4 hu hz => ?_⟩) (fun hn => ?_)
  ·rw [hr4] at hn
   have hle := Classical.not_not.1 hn
   by_cases hi : i = v
   ·subst hi
    cases hu.uniq hx
    exact h.trans (c3 c' _ _ k3 k4 hz hy) hle
   ·exact g4 i c' u z k1 hi k3 k4 hu hz
  ·have hlt := h.not (hr4.1 hn)
   refine Tot.swap (by omega) (by omega) fun x' y' hx' hy' => .nx ?_
   cases hx.uniq hx'; cases hy.uniq hy'
   refine ⟨(hi - c).toNat, by omega, rfl, by dsimp only; omega, by dsimp only; omega, g3.trans (.swp hx hy (by omega) (by omega) (by omega) (by omega)), ?_, ?_⟩
   ·intro i c' u z k1 k2 k3 k4 hu hz
    dsimp only at k2 hu hz
    by_cases e0 : i = v
    ·subst e0
     cases hu.uniq (hx.swp1 hy)
     rcases hx.swp hy hz with ⟨e1, rfl⟩ | ⟨_, e1, rfl⟩ | ⟨_, _, hz'⟩
     ·exact hlt
     ·omega
     ·exact c3 c' _ _ k3 k4 hz' hy
    ·rcases hx.swp hy hu with ⟨e1, rfl⟩ | ⟨_, e1, rfl⟩ | ⟨_, _, hu'⟩
     ·omega
     ·omega
     ·rcases hx.swp hy hz with ⟨e1, rfl⟩ | ⟨_, e1, rfl⟩ | ⟨_, _, hz'⟩
      ·omega
      ·exact g5 i c u _ k1 (by omega) c1 c2 hu' hy
      ·exact g4 i c' u z k1 e0 k3 k4 hu' hz'
   ·intro p c' u z k1 k2 k3 k4 hu hz
    dsimp only at k2 k3 hu hz
    have e0 : p = v := by omega
    subst e0
    cases hu.uniq (hx.swp1 hy)
    rcases hx.swp hy hz with ⟨e1, rfl⟩ | ⟨_, e1, rfl⟩ | ⟨_, _, hz'⟩
    ·omega
    ·omega
    ·exact g4 c c' _ _ (by omega) (by omega) k3 k4 hy hz'
theorem heap_root {f hi : Int} {l : List α} (hf : 0 ≤ f) (hh : Hp le l f 0 hi (-1)) (hl : f + hi ≤ l.length) : ∀ (n : Nat) (j : Int) (x y : α), j = n → j < hi → At l f x → At l (f + j) y → le y x := by
 intro n
 induction n using Nat.strongRecOn with
 | _ n ih =>
  intro j x y e1 e2 hx hy
  by_cases h0 : j = 0
  ·subst h0
   rw [Int.add_zero] at hy
   cases hx.uniq hy; exact h.refl _
  ·obtain ⟨z, hz⟩ := At.ex (l := l) (i := f + (j - 1) / 2) (by omega) (by omega)
   exact h.trans (hh ((j - 1) / 2) j z y (by omega) (by omega) (by omega) e2 hz hy) (ih ((j - 1) / 2).toNat (by omega) ((j - 1) / 2) x z (by omega) (by omega) hx hz)
theorem heap {a b : Int} {l0 : List α} (ha : 0 ≤ a) (hab : a < b) (hl : b ≤ l0.length) (hlen : l0.length ≤ 4294967296) :
  Tot (heapSort l0 a b cmp) fun l => R a b l0 l ∧ Srt le l a b := by
 unfold heapSort
 refine Tot.chk (by decide) ?_
 simp (disch := omega) only [w64_id]
 have htd : (b - a - 1).tdiv 2 = (b - a - 1) / 2 := Int.tdiv_eq_ediv_of_nonneg (by omega)
 rw [htd]
 simp (disch := omega) only [w64_id]
 refine Tot.call (P := fun l => R a b l0 l ∧ Hp le l a 0 (b - a) (-1)) ?_ fun l1 hl1 => ?_
 ·refine Tot.iter (fun m s => s.1 + 1 = (m : Int) ∧ s.1 ≤ 4294967295 ∧ R a b l0 s.2 ∧ Hp le s.2 a (s.1 + 1) (b - a) (-1)) (n := ((b - a - 1) / 2 + 1).toNat) ⟨by dsimp only; omega, by dsimp only; omega, R.refl, fun i c x y k1 k2 k3 k4 _ _ => by dsimp only at k1; omega⟩ ?_
  rintro m ⟨v, l⟩ ⟨g1, g2, g3, g4⟩
  dsimp only at g1 g2 g3 g4
  have hll := g3.len
  unfold heapSort_L1
  dsimp only
  simp (disch := omega) only [w64_id]
  refine .iteP (fun hc => ?_) (fun hc => .dn ⟨g3, ?_⟩)
  ·refine Tot.call (sift h ha hc (Int.le_refl v) (by omega) (by omega) (by omega) (by omega) (fun i c x y k1 k2 k3 k4 hx hy => g4 i c x y (by omega) (by omega) k3 k4 hx hy) (fun p c x y k1 k2 => by omega)) fun l' hl' => ?_
   refine .nx ⟨m - 1, by omega, by dsimp only; omega, by dsimp only; omega, g3.trans (hl'.1.wide (by omega) (by omega)), ?_⟩
   dsimp only
   rw [show v - 1 + 1 = v by omega]
   exact hl'.2
  ·rw [show v + 1 = 0 by omega] at g4
   exact g4
 ·refine Tot.iter (fun m s => s.1 + 1 = (m : Int) ∧ s.1 < b - a ∧ R a b l0 s.2 ∧ Hp le s.2 a 0 (s.1 + 1) (-1) ∧ ∀ i j x y, a ≤ i → i < j → a + s.1 < j → j < b → At s.2 i x → At s.2 j y → le x y) (n := (b - a).toNat) ⟨by dsimp only; omega, by dsimp only; omega, hl1.1, ?_, fun i j x y k1 k2 k3 k4 _ _ => by dsimp only at k3; omega⟩ ?_
  ·dsimp only
   rw [show b - a - 1 + 1 = b - a by omega]
   exact hl1.2
  rintro m ⟨v, l⟩ ⟨g1, g2, g3, g4, g5⟩
  dsimp only at g1 g2 g3 g4 g5
  have hll := g3.len
  unfold heapSort_L2
  dsimp only
  simp (disch := omega) only [w64_id]
  refine .iteP (fun hc => ?_) (fun hc => .dn ⟨g3, fun i j x y k1 k2 k3 hx hy => g5 i j x y k1 k2 (by omega) k3 hx hy⟩)
  refine Tot.swap (by omega) (by omega) fun x y hx hy => ?_
  have hw := R.swp hx hy (a := a) (b := b) (by omega) (by omega) (by omega) (by omega)
  have hwl := hw.len
  have root : ∀ j z, a ≤ j → j ≤ a + v → At l j z → le z x := fun j z k1 k2 hz => heap_root h ha g4 (by omega) (j - a).toNat (j - a) x z (by omega) (by omega) hx (by rw [show a + (j - a) = j by omega]; exact hz)
  have D : ∀ i j u z, a ≤ i → i < j → a + v ≤ j → j < b → At (swp l a (a + v) x y) i u → At (swp l a (a + v) x y) j z → le u z := by
   intro i j u z k1 k2 k3 k4 hu hz
   rcases hx.swp hy hz with ⟨e1, rfl⟩ | ⟨_, e1, rfl⟩ | ⟨_, _, hz'⟩
   ·rcases hx.swp hy hu with ⟨e2, rfl⟩ | ⟨_, e2, rfl⟩ | ⟨_, _, hu'⟩
    ·omega
    ·exact root _ _ (by omega) (by omega) hy
    ·exact root _ _ (by omega) (by omega) hu'
   ·omega
   ·rcases hx.swp hy hu with ⟨e2, rfl⟩ | ⟨_, e2, rfl⟩ | ⟨_, _, hu'⟩
    ·exact g5 a j _ _ (by omega) (by omega) (by omega) k4 hx hz'
    ·exact g5 (a + v) j _ _ (by omega) (by omega) (by omega) k4 hy hz'
    ·exact g5 i j _ _ k1 k2 (by omega) k4 hu' hz'
  refine Tot.call (sift h (f := a) (lo := 0) (hi := v) (r := 0) (l0 := swp l a (a + v) x y) ha (by omega) (by omega) (by omega) (by omega) (by omega) (by omega) ?_ ?_) fun l' hl' => ?_
  ·intro i c u z k1 k2 k3 k4 hu hz
   rw [swp_out (by omega) (by omega) (by omega) (by omega)] at hu hz
   exact g4 i c u z k1 (by omega) k3 (by omega) hu hz
  ·intro p c u z k1 k2; omega
  ·refine .nx ⟨m - 1, by omega, by dsimp only; omega, by dsimp only; omega, (g3.trans hw).trans (hl'.1.wide (by omega) (by omega)), ?_, ?_⟩
   ·dsimp only
    rw [show v - 1 + 1 = v by omega]
    exact hl'.2
   ·intro i j u z k1 k2 k3 k4 hu hz
    dsimp only at k3 hu hz
    rw [hl'.1.out j z (by omega)] at hz
    by_cases hi : i < a + v
    ·obtain ⟨i', e1, e2, hu'⟩ := hl'.1.inn i u k1 hi hu
     exact D i' j u z e1 (by omega) (by omega) k4 hu' hz
    ·rw [hl'.1.out i u (by omega)] at hu
     exact D i j u z k1 k2 (by omega) k4 hu hz
end
end Go.Ab.Pdq
namespace Go.Ab.Pdq
set_option linter.unusedVariables false
set_option linter.unusedSimpArgs false
set_option linter.unusedVariables false
variable {α β : Type}
section
variable {cmp : α → α → Option Int} {le : α → α → Prop} (h : Lt cmp le)
include h
omit h in
theorem mask_lt {x m : Int} (h1 : 1 ≤ m) (h2 : m ≤ 8589934592) : 0 ≤ w64 (IntKind.u64.wrap ((BitVec.ofInt (IntKind.u64).bits x &&& BitVec.ofInt (IntKind.u64).bits (IntKind.u64.wrap (m - 1))).toNat : Int)) ∧
  w64 (IntKind.u64.wrap ((BitVec.ofInt (IntKind.u64).bits x &&& BitVec.ofInt (IntKind.u64).bits (IntKind.u64.wrap (m - 1))).toNat : Int)) < m := by
 have hw : ∀ z : Int, 0 ≤ z → z < 18446744073709551616 → IntKind.u64.wrap z = z := fun z a b => by
  show z % 18446744073709551616 = z
  exact Int.emod_eq_of_lt a b
 rw [hw (m - 1) (by omega) (by omega)]
 have hb : (BitVec.ofInt (IntKind.u64).bits (m - 1)).toNat = (m - 1).toNat := by
  show (BitVec.ofInt 64 (m - 1)).toNat = _
  rw [BitVec.toNat_ofInt]
  have : (m - 1) % ((2 ^ 64 : Nat) : Int) = m - 1 := Int.emod_eq_of_lt (by omega) (by omega)
  rw [this]
 have hand : (BitVec.ofInt (IntKind.u64).bits x &&& BitVec.ofInt (IntKind.u64).bits (m - 1)).toNat ≤ (m - 1).toNat := by
  rw [BitVec.toNat_and, hb]; exact Nat.and_le_right
 rw [hw _ (by omega) (by omega), w64_id (by omega)]
 omega
structure Hlp (npo : Int → Option (IK .u64)) (nxt : IK .u64 → Option (IK .u64 × IK .u64)) : Prop where
 npo : ∀ n, 8 ≤ n → n ≤ 4294967296 → Tot (npo n) fun m => 1 ≤ m.v ∧ m.v ≤ 2 * n
 nxt : ∀ x, Tot (nxt x) fun _ => True
end
end Go.Ab.Pdq
namespace Go.Ab.Pdq
set_option linter.unusedVariables false
set_option linter.unusedSimpArgs false
set_option linter.unusedVariables false
variable {α β : Type}
def Low (le : α → α → Prop) (l : List α) (a b : Int) : Prop := 0 < a → ∀ y k x, At l (a - 1) y → a ≤ k → k < b → At l k x → le y x
theorem Low.R {le : α → α → Prop} {l l' : List α} {a b : Int} (h : Low le l a b) (hr : R a b l l') : Low le l' a b := by
 intro h0 y k x hy h1 h2 hx
 obtain ⟨j, g1, g2, g3⟩ := hr.inn k x h1 h2 hx
 exact h h0 y j x ((hr.out _ _ (by omega)).1 hy) g1 g2 g3
theorem Srt.R {le : α → α → Prop} {l l' : List α} {a b c d : Int} (h : Srt le l a b) (hr : R c d l l') (hc : b ≤ c) : Srt le l' a b :=
 fun i j x y h1 h2 h3 hx hy => h i j x y h1 h2 h3 ((hr.out _ _ (by omega)).1 hx) ((hr.out _ _ (by omega)).1 hy)
section
variable {cmp : α → α → Option Int} {le : α → α → Prop} (h : Lt cmp le)
include h
theorem Srt.ext {l : List α} {a v : Int} (hs : Srt le l a v) {x y : α} (hy : At l (v - 1) y) (hx : At l v x) (hle : le y x) : Srt le l a (v + 1) := by
 intro i j u z h1 h2 h3 hu hz
 by_cases hj : j = v
 ·subst hj
  cases hz.uniq hx
  by_cases hi : i = j - 1
  ·subst hi; cases hu.uniq hy; exact hle
  ·exact h.trans (hs i (j - 1) _ _ h1 (by omega) (by omega) hu hy) hle
 ·exact hs i j _ _ h1 h2 (by omega) hu hz
end
end Go.Ab.Pdq
namespace Go.Ab.Pdq
set_option linter.unusedVariables false
set_option linter.unusedSimpArgs false
set_option linter.unusedVariables false
variable {α β : Type}
def Dn (le : α → α → Prop) (l : List α) (a b a1 b1 : Int) : Prop := ∀ i j x y, a ≤ i → i < j → j < b → (i < a1 ∨ b1 ≤ j) → At l i x → At l j y → le x y
theorem Dn.R {le : α → α → Prop} {l l' : List α} {a b a1 b1 : Int} (hd : Dn le l a b a1 b1) (h1 : a ≤ a1) (h2 : b1 ≤ b) (hr : R a1 b1 l l') : Dn le l' a b a1 b1 := by
 intro i j x y k1 k2 k3 k4 hx hy
 by_cases hi : i < a1 ∨ b1 ≤ i
 ·rw [hr.out i x hi] at hx
  by_cases hj : j < a1 ∨ b1 ≤ j
  ·rw [hr.out j y hj] at hy
   exact hd i j x y k1 k2 k3 k4 hx hy
  ·obtain ⟨j', e1, e2, hy'⟩ := hr.inn j y (by omega) (by omega) hy
   exact hd i j' x y k1 (by omega) (by omega) (by omega) hx hy'
 ·rw [hr.out j y (by omega)] at hy
  obtain ⟨i', e1, e2, hx'⟩ := hr.inn i x (by omega) (by omega) hx
  exact hd i' j x y (by omega) (by omega) k3 (by omega) hx' hy
theorem Dn.fin {le : α → α → Prop} {l l' : List α} {a b a1 b1 : Int} (hd : Dn le l a b a1 b1) (h1 : a ≤ a1) (h2 : b1 ≤ b) (hr : Pdq.R a1 b1 l l') (hs : Srt le l' a1 b1) : Srt le l' a b := by
 intro i j x y k1 k2 k3 hx hy
 by_cases hc : i < a1 ∨ b1 ≤ j
 ·exact hd.R h1 h2 hr i j x y k1 k2 k3 hc hx hy
 ·exact hs i j x y (by omega) k2 (by omega) hx hy
theorem Dn.low {le : α → α → Prop} {l0 l : List α} {a b a1 b1 : Int} (hd : Dn le l a b a1 b1) (h1 : a ≤ a1) (h2 : b1 ≤ b) (hr : Pdq.R a b l0 l) (hl : Low le l0 a b) : Low le l a1 b1 := by
 intro h0 y k x hy k1 k2 hx
 by_cases e : a1 = a
 ·subst e
  exact (hl.R hr) h0 y k x hy k1 (by omega) hx
 ·exact hd (a1 - 1) k y x (by omega) (by omega) (by omega) (by omega) hy hx
section
variable {cmp : α → α → Option Int} {le : α → α → Prop} (h : Lt cmp le)
include h
end
end Go.Ab.Pdq
namespace Go.Ab.Pdq
set_option linter.unusedVariables false
set_option linter.unusedSimpArgs false
section
variable {α : Type}
def insR (lt : α → α → Bool) (x : α) : List α → List α
 | [] => [x]
 | y :: r => bif lt x y then y :: insR lt x r else x :: y :: r
def insE (lt : α → α → Bool) (x : α) (l : List α) : List α := (insR lt x l.reverse).reverse
def isort (lt : α → α → Bool) (l : List α) : List α := l.foldl (fun o x => insE lt x o) []
variable {lt : α → α → Bool} {x : α}
theorem insE_nil : insE lt x [] = [x] := rfl
theorem insE_snoc (o : List α) (y : α) : insE lt x (o ++ [y]) = bif lt x y then insE lt x o ++ [y] else o ++ [y] ++ [x] := by
 unfold insE
 rw [List.reverse_append]
 show (bif lt x y then y :: insR lt x o.reverse else x :: y :: o.reverse).reverse = _
 cases lt x y
 ·simp
 ·simp
theorem snoc_ex {l : List α} (h : 0 < l.length) : ∃ o z, l = o ++ [z] := by
 have hn : l ≠ [] := List.length_pos_iff.1 h
 exact ⟨l.dropLast, l.getLast hn, (List.dropLast_concat_getLast hn).symm⟩
theorem insE_slot : ∀ (n : Nat) {o : List α} {k : Nat}, o.length = n → k ≤ o.length → (∀ y ∈ o.drop k, lt x y = true) → (∀ y, 0 < k → o[k - 1]? = some y → lt x y = false) → o.take k ++ [x] ++ o.drop k = insE lt x o
 | 0, o, k, hn, hk, _, _ => by
  have : o = [] := List.length_eq_zero_iff.1 hn
  subst this
  simp [insE_nil]
 | n + 1, o, k, hn, hk, h1, h2 => by
  obtain ⟨p, y, rfl⟩ := snoc_ex (l := o) (by omega)
  have hp : (p ++ [y]).length = p.length + 1 := by simp
  rw [insE_snoc]
  by_cases hkk : k = (p ++ [y]).length
  ·have := h2 y (by omega) (by rw [hkk, hp]; simp)
   rw [this, hkk, List.take_length, List.drop_length]; simp
  ·have hy := h1 y (by rw [List.drop_append_of_le_length (by omega)]; simp)
   have ih := insE_slot n (o := p) (k := k) (by omega) (by omega) (fun z hz => h1 z (by rw [List.drop_append_of_le_length (by omega)]; simp [hz])) (fun z hz hz2 => h2 z hz (by rw [List.getElem?_append_left (by omega)]; exact hz2))
   rw [hy, cond_true, ← ih, List.take_append_of_le_length (by omega), List.drop_append_of_le_length (by omega), List.append_assoc, List.append_assoc, List.append_assoc]
theorem insE_perm (o : List α) : (insE lt x o).Perm (o ++ [x]) := by
 have : ∀ l : List α, (insR lt x l).Perm (x :: l) := by
  intro l
  induction l with
  | nil => exact .refl _
  | cons y r ih =>
   unfold insR
   cases lt x y
   ·exact .refl _
   ·exact (List.Perm.cons y ih).trans (.swap x y r)
 unfold insE
 refine (List.reverse_perm _).trans ((this _).trans ?_)
 exact ((List.reverse_perm o).cons x).trans (List.perm_append_comm (l₁ := [x]))
theorem isort_snoc (l : List α) (y : α) : isort lt (l ++ [y]) = insE lt y (isort lt l) := by unfold isort; rw [List.foldl_append]; rfl
theorem isort_perm (l : List α) : (isort lt l).Perm l := by
 have : ∀ n (l : List α), l.length = n → (isort lt l).Perm l := by
  intro n
  induction n with
  | zero =>
   intro l hl
   have : l = [] := List.length_eq_zero_iff.1 hl
   subst this; exact .refl _
  | succ n ih =>
   intro l hl
   obtain ⟨p, y, rfl⟩ := snoc_ex (l := l) (by omega)
   rw [isort_snoc]
   exact (insE_perm _).trans ((ih p (by simpa using hl)).append_right [y])
 exact this _ l rfl
theorem isort_len (l : List α) : (isort lt l).length = l.length := (isort_perm l).length_eq
variable {cmp : α → α → Option Int} {U : α → Prop} (hc : ∀ x y, U x → U y → ∃ c, cmp x y = some c ∧ decide (c < 0) = lt x y)
include hc
theorem ins_loop (A : List α) (x : α) (rest : List α) (hl : A.length ≤ 4294967296) (hUx : U x) (hUA : ∀ y ∈ A, U y) : Tot (iter (insertionSort_L1 0 cmp) ((A.length : Int), A ++ x :: rest)) fun r => r = insE lt x A ++ rest := by
 refine Tot.iter (fun m s => s.1 = (m : Int) ∧ m ≤ A.length ∧ s.2 = A.take m ++ x :: (A.drop m ++ rest) ∧ ∀ y ∈ A.drop m, lt x y = true) (n := A.length) ⟨rfl, Nat.le_refl _, by simp, by simp⟩ ?_
 rintro m ⟨v, d⟩ ⟨hv, hm, hd, hlt⟩
 simp only at hv hd
 subst hv; subst hd
 have ht : (A.take m).length = m := by rw [List.length_take]; omega
 have hx : (A.take m ++ x :: (A.drop m ++ rest))[m]? = some x := by
  rw [List.getElem?_append_right (by omega), ht, Nat.sub_self]; rfl
 unfold insertionSort_L1
 refine .call (P := fun b => (b = true → 0 < m ∧ ∃ y, A[m - 1]? = some y ∧ lt x y = true) ∧ (b = false → ∀ y, 0 < m → A[m - 1]? = some y → lt x y = false)) (.iteP (fun h0 => ?_) fun h0 => .ok ⟨fun h => (by cases h), fun _ y h _ => absurd h (by omega)⟩) fun b hb => .ite (fun htr => ?_) (fun hf => .dn ?_)
 ·obtain ⟨y, hy⟩ := get_ex (l := A) (i := m - 1) (by omega)
  have ew : w64 ((m : Int) - 1) = ((m - 1 : Nat) : Int) := by rw [w64_id (by omega)]; omega
  have hy' : (A.take m ++ x :: (A.drop m ++ rest))[m - 1]? = some y := by
   rw [List.getElem?_append_left (by omega), List.getElem?_take_of_lt (by omega)]; exact hy
  obtain ⟨c, hc1, hc2⟩ := hc x y hUx (hUA y (List.mem_of_getElem? hy))
  rw [ew]
  refine .eq (ixs hx) (.eq (ixs hy') (.eq hc1 (.ok ⟨fun h => ⟨by omega, y, hy, by rw [← hc2]; exact h⟩, fun h z _ hz => ?_⟩)))
  rw [hy] at hz; cases hz
  rw [← hc2]; exact h
 ·obtain ⟨h0, y, hy, hxy⟩ := hb.1 htr
  have ew : w64 ((m : Int) - 1) = ((m - 1 : Nat) : Int) := by rw [w64_id (by omega)]; omega
  have hy' : (A.take m ++ x :: (A.drop m ++ rest))[m - 1]? = some y := by
   rw [List.getElem?_append_left (by omega), List.getElem?_take_of_lt (by omega)]; exact hy
  have e1 : A.take m = A.take (m - 1) ++ [y] := by
   have := take_succ hy
   rwa [show m - 1 + 1 = m by omega] at this
  have e2 : A.drop (m - 1) = y :: A.drop m := by
   have := List.drop_eq_getElem_cons (l := A) (i := m - 1) (by omega)
   rw [this, show m - 1 + 1 = m by omega]
   congr 1
   exact (List.getElem?_eq_some_iff.1 hy).2
  have ht1 : (A.take (m - 1)).length = m - 1 := by rw [List.length_take]; omega
  have hset : ((A.take m ++ x :: (A.drop m ++ rest)).set m y).set (m - 1) x = A.take (m - 1) ++ x :: (A.drop (m - 1) ++ rest) := by
   rw [List.set_append_right _ _ (by omega), ht, Nat.sub_self, List.set_cons_zero, e1, List.append_assoc, List.set_append_right _ _ (by omega), ht1, Nat.sub_self, e2]
   rfl
  have hs1 : ((A.take m ++ x :: (A.drop m ++ rest)).set m y)[m - 1]? = some y := by
   rw [List.getElem?_set_ne (by omega)]; exact hy'
  rw [ew]
  refine .eq (ixs hy') (.eq (ixs hx) (.eq (ixs hx) ?_))
  rw [Int.toNat_natCast, Int.toNat_natCast]
  refine .eq (ixs hs1) (.nx ⟨m - 1, by omega, rfl, by omega, hset, fun z hz => ?_⟩)
  rw [e2] at hz
  rcases List.mem_cons.1 hz with rfl | hz
  ·exact hxy
  ·exact hlt z hz
 ·have := insE_slot (lt := lt) (x := x) A.length (o := A) (k := m) rfl hm hlt (hb.2 hf)
  rw [← this]; simp
theorem insertion_stU (l : List α) (hl : l.length ≤ 4294967295) (hU : ∀ x ∈ l, U x) : insertionSort l 0 (l.length : Int) cmp = some (isort lt l) := by
 unfold insertionSort
 have w1 : w64 (0 + 1) = 1 := rfl
 rw [w1]
 cases l with
 | nil => rw [iter_eq]; unfold insertionSort_L2; rfl
 | cons a l =>
  refine Tot.val (Tot.iter (fun m s => ∃ i : Nat, s.1 = (i : Int) ∧ 1 ≤ i ∧ m + i = (a :: l).length ∧ s.2 = isort lt ((a :: l).take i) ++ (a :: l).drop i) (n := l.length) ⟨1, rfl, by omega, by simp, rfl⟩ ?_)
  rintro m ⟨v, d⟩ ⟨i, hv, h1, hm, hd⟩
  simp only at hv hd
  subst hv; subst hd
  unfold insertionSort_L2
  refine .iteP (fun h => ?_) (fun h => .dn ?_)
  ·obtain ⟨x, hx⟩ := get_ex (l := a :: l) (i := i) (by omega)
   have e : (a :: l).drop i = x :: (a :: l).drop (i + 1) := by
    rw [List.drop_eq_getElem_cons (by omega)]
    congr 1
    exact (List.getElem?_eq_some_iff.1 hx).2
   have hil : (isort lt ((a :: l).take i)).length = i := by rw [isort_len, List.length_take]; omega
   rw [e]
   have hi := ins_loop hc (isort lt ((a :: l).take i)) x ((a :: l).drop (i + 1)) (by omega) (hU x (List.mem_of_getElem? hx)) fun y hy => hU y (List.mem_of_mem_take ((isort_perm _).mem_iff.1 hy))
   rw [hil] at hi
   refine .call hi fun r hr => .nx ⟨m - 1, by omega, i + 1, w64_succ (by omega), by omega, by omega, ?_⟩
   rw [hr, take_succ hx, isort_snoc]
  ·have : i = (a :: l).length := by omega
   subst this
   rw [List.take_length, List.drop_length, List.append_nil]
end
theorem insertion_st {α : Type} {lt : α → α → Bool} {cmp : α → α → Option Int} (hc : ∀ x y, ∃ c, cmp x y = some c ∧ decide (c < 0) = lt x y) (l : List α) (hl : l.length ≤ 4294967295) : insertionSort l 0 (l.length : Int) cmp = some (isort lt l) :=
 insertion_stU (U := fun _ => True) (fun x y _ _ => hc x y) l hl fun _ _ => trivial
end Go.Ab.Pdq
