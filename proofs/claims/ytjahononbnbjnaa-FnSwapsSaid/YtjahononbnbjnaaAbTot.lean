/- My own layer: plain lemmas about models: loops, lists, numbers. -/
import Derived.Test.YtjahononbnbjnaaAbEx5
namespace Go.Ab
set_option linter.unusedVariables false
set_option linter.unusedSimpArgs false

theorem iter_rule {A B : Type} {step : A → Option (Lp A B)} (I : Nat → A → Prop) (Q : B → Prop)
  (h : ∀ k a, I k a → (∃ a' k', step a = some (.nx a') ∧ k' < k ∧ I k' a') ∨ (∃ b, step a = some (.dn b) ∧ Q b)) : ∀ {k a}, I k a → ∃ b, iter step a = some b ∧ Q b := by
 intro k
 induction k using Nat.strongRecOn with
 | _ k ih =>
  intro a ha
  rcases h k a ha with ⟨a', k', h1, h2, h3⟩ | ⟨b, h1, h2⟩
  ·rw [iter_nx h1]; exact ih k' h2 h3
  ·exact ⟨b, iter_dn h1, h2⟩

theorem idx_nat {α : Type} (l : List α) (i : Nat) : idx l (i : Int) = l[i]? := by
 unfold idx; rw [if_pos (by omega)]; simp
theorem idx_of {α : Type} {l : List α} {i : Int} {x : α} (h0 : 0 ≤ i) (h : l[i.toNat]? = some x) : idx l i = some x := by
 unfold idx; rw [if_pos h0]; exact h
theorem idx_lt {α : Type} {l : List α} {i : Int} (h0 : 0 ≤ i) (h : i < l.length) : ∃ x, idx l i = some x ∧ l[i.toNat]? = some x ∧ x ∈ l := by
 have h1 : i.toNat < l.length := by omega
 refine ⟨l[i.toNat], idx_of h0 (List.getElem?_eq_getElem h1), List.getElem?_eq_getElem h1, List.getElem_mem h1⟩
theorem chk_of {p : Prop} [Decidable p] (h : p) : chk p = some () := by unfold chk; rw [if_pos h]
@[simp] theorem flb_go {R V : Type} (u : V) (k : V → Option R) : flb (some (.go u)) k = k u := rfl
@[simp] theorem flb_ret {R V : Type} (r : R) (k : V → Option R) : flb (some (Fl.ret r : Fl R V)) k = some r := rfl
theorem w64_succ {n : Nat} (h : n < 9223372036854775807) : w64 ((n : Int) + 1) = ((n + 1 : Nat) : Int) := by rw [w64_id (by omega)]; omega
theorem w64_pred {n : Nat} (h : n < 9223372036854775807) : w64 (((n + 1 : Nat) : Int) - 1) = (n : Int) := by rw [w64_id (by omega)]; omega
theorem u64_rng (x : Int) : 0 ≤ IntKind.u64.wrap x ∧ IntKind.u64.wrap x < 18446744073709551616 := by
 rw [IntKind.wrap_u64]; omega
theorem and255 (x : Int) : 0 ≤ w64 (IntKind.u64.wrap ((BitVec.ofInt (IntKind.u64).bits x &&& BitVec.ofInt (IntKind.u64).bits 255).toNat : Int)) ∧ w64 (IntKind.u64.wrap ((BitVec.ofInt (IntKind.u64).bits x &&& BitVec.ofInt (IntKind.u64).bits 255).toNat : Int)) ≤ 255 := by
 have h : (BitVec.ofInt (IntKind.u64).bits x &&& BitVec.ofInt (IntKind.u64).bits 255).toNat ≤ 255 := by
  rw [BitVec.toNat_and]
  have : (BitVec.ofInt (IntKind.u64).bits 255).toNat = 255 := by decide
  rw [this]
  exact Nat.and_le_right
 have h2 : IntKind.u64.wrap ((BitVec.ofInt (IntKind.u64).bits x &&& BitVec.ofInt (IntKind.u64).bits 255).toNat : Int) = ((BitVec.ofInt (IntKind.u64).bits x &&& BitVec.ofInt (IntKind.u64).bits 255).toNat : Int) := by
  rw [IntKind.wrap_u64]; omega
 rw [h2, w64_id (by omega)]
 omega
theorem tmod_rng {a b : Int} (h1 : 0 ≤ a) (h2 : 0 < b) : 0 ≤ a.tmod b ∧ a.tmod b < b := ⟨Int.tmod_nonneg b h1, Int.tmod_lt_of_pos a h2⟩
theorem take_succ {α : Type} {l : List α} {i : Nat} {x : α} (h : l[i]? = some x) : l.take (i + 1) = l.take i ++ [x] := by
 rw [List.take_add_one, h]; rfl
theorem get_ex {α : Type} {l : List α} {i : Nat} (h : i < l.length) : ∃ x, l[i]? = some x := ⟨_, List.getElem?_eq_getElem h⟩
def Chain {α : Type} (l : List α) (ok : α → Prop) (ord : α → α → Prop) : Prop := (∀ e ∈ l, ok e) ∧ ∀ (i : Nat) (a b : α), l[i]? = some a → l[i + 1]? = some b → ord a b
theorem sum_bd {l : List Int} {M : Int} (h : ∀ x ∈ l, 0 ≤ x ∧ x ≤ M) : 0 ≤ l.sum ∧ l.sum ≤ M * l.length := by
 induction l with
 | nil => simp
 | cons a l ih =>
  have h1 := h a (List.mem_cons_self ..)
  have h2 := ih fun x hx => h x (List.mem_cons_of_mem _ hx)
  simp only [List.sum_cons, List.length_cons, Int.natCast_add, Int.mul_add]
  simp only [Int.natCast_one, Int.mul_one]
  omega
theorem sum_loop {α : Type} (f : α → Int) (l : List α) (hl : l.length ≤ 1000000) (hb : ∀ x ∈ l, 0 ≤ f x ∧ f x ≤ 1000000) {step : Int × Int → Option (Lp (Int × Int) Int)}
  (hstep : ∀ (i : Nat) (s : Int) (x : α), l[i]? = some x → step (s, (i : Int)) = some (.nx (w64 (s + f x), w64 ((i : Int) + 1)))) (hend : ∀ s, step (s, (l.length : Int)) = some (.dn s)) :
  iter step (0, 0) = some ((l.map f).sum) := by
 have bd : ∀ i, 0 ≤ ((l.take i).map f).sum ∧ ((l.take i).map f).sum ≤ 1000000 * 1000000 := by
  intro i
  have := sum_bd (l := (l.take i).map f) (M := 1000000) (by
   intro x hx
   obtain ⟨y, hy, rfl⟩ := List.mem_map.1 hx
   exact hb y (List.mem_of_mem_take hy))
  have h2 : (((l.take i).map f).length : Int) ≤ 1000000 := by simp; omega
  omega
 have h := iter_rule (step := step) (fun m a => ∃ i : Nat, a.2 = (i : Int) ∧ m + i = l.length ∧ a.1 = ((l.take i).map f).sum) (fun b => b = (l.map f).sum) ?_ (k := l.length) (a := (0, 0)) ⟨0, rfl, by omega, by simp⟩
 ·obtain ⟨b, hb, rfl⟩ := h
  exact hb
 rintro m ⟨s, v⟩ ⟨i, hv, hm, hs⟩
 simp only at hv hs
 subst hv
 by_cases hlt : i < l.length
 ·left
  obtain ⟨x, hx⟩ := get_ex hlt
  have hxb := hb x (List.mem_of_getElem? hx)
  have hbi := bd i
  refine ⟨_, m - 1, hstep i s x hx, by omega, i + 1, ?_, by omega, ?_⟩
  ·exact w64_succ (by omega)
  ·show w64 (s + f x) = _
   rw [w64_id (by omega), take_succ hx, hs]; simp
 ·right
  have e : i = l.length := by omega
  subst e
  exact ⟨s, hend s, by rw [hs, List.take_length]⟩
end Go.Ab
namespace Go.Ab
set_option linter.unusedVariables false
set_option linter.unusedSimpArgs false

def fixI {α : Type} (p : α → Bool) (l : List α) : Int := match l.findIdx? p with
 | some i => (i : Int)
 | none => -1
theorem fixI_some {α : Type} {p : α → Bool} {l : List α} {i : Nat} (h : fixI p l = (i : Int)) : l.findIdx? p = some i := by
 unfold fixI at h
 split at h
 ·rename_i j hj; rw [hj]; congr 1; omega
 ·omega
theorem fixI_at {α : Type} {p : α → Bool} {l : List α} {i : Nat} (h : fixI p l = (i : Int)) : ∃ x, l[i]? = some x ∧ p x = true ∧ ∀ j y, j < i → l[j]? = some y → p y = false := by
 have := fixI_some h
 rw [List.findIdx?_eq_some_iff_getElem] at this
 obtain ⟨h1, h2, h3⟩ := this
 refine ⟨_, List.getElem?_eq_getElem h1, h2, fun j y hj hy => ?_⟩
 have h4 := h3 j hj
 obtain ⟨hjl, hy2⟩ := List.getElem?_eq_some_iff.1 hy
 subst hy2
 simpa using h4
theorem fixI_of {α : Type} {p : α → Bool} {l : List α} {i : Nat} {x : α} (h : l[i]? = some x) (hp : p x = true) (hn : ∀ (j : Nat) y, j < i → l[j]? = some y → p y = false) : fixI p l = (i : Int) := by
 obtain ⟨hi, hx⟩ := List.getElem?_eq_some_iff.1 h
 have : l.findIdx? p = some i := by
  rw [List.findIdx?_eq_some_iff_getElem]
  refine ⟨hi, by rw [hx]; exact hp, fun j hj => ?_⟩
  have := hn j _ hj (List.getElem?_eq_getElem (by omega))
  simp [this]
 unfold fixI; rw [this]
theorem fixI_neg {α : Type} {p : α → Bool} {l : List α} (h : fixI p l < 0) : ∀ x ∈ l, p x = false := by
 unfold fixI at h
 split at h
 ·omega
 ·rename_i hn; exact List.findIdx?_eq_none_iff.1 hn
theorem fixI_none {α : Type} {p : α → Bool} {l : List α} (h : ∀ x ∈ l, p x = false) : fixI p l = -1 := by
 unfold fixI
 rw [List.findIdx?_eq_none_iff.2 h]
theorem fixI_map {α β : Type} (f : α → β) (p : β → Bool) (l : List α) : fixI p (l.map f) = fixI (fun x => p (f x)) l := by
 unfold fixI
 rw [List.findIdx?_map]
 rfl
theorem fixI_congr {α : Type} {p q : α → Bool} (l : List α) (h : ∀ x, p x = q x) : fixI p l = fixI q l := by
 have : p = q := funext h
 rw [this]

theorem find_loop {α R : Type} (l : List α) (p : α → Bool) (f : Nat → R) {step : Int → Option (Lp Int (Fl R Unit))}
  (hstep : ∀ (i : Nat) x, l[i]? = some x → step (i : Int) = some (if p x = true then .dn (.ret (f i)) else .nx ((i + 1 : Nat) : Int))) (hend : step (l.length : Int) = some (.dn (.go ()))) :
  iter step 0 = some (match l.findIdx? p with | some i => .ret (f i) | none => .go ()) := by
 have h := iter_rule (step := step) (fun m v => ∃ i : Nat, v = (i : Int) ∧ m + i = l.length ∧ ∀ j y, j < i → l[j]? = some y → p y = false) (fun b => b = match l.findIdx? p with | some i => .ret (f i) | none => .go ()) ?_ (k := l.length) (a := 0) ⟨0, rfl, by omega, fun j y hj => by omega⟩
 ·obtain ⟨b, hb, rfl⟩ := h
  exact hb
 rintro m v ⟨i, rfl, hm, ha⟩
 by_cases hlt : i < l.length
 ·obtain ⟨x, hx⟩ := get_ex hlt
  by_cases hp : p x = true
  ·right
   refine ⟨_, by rw [hstep i x hx, if_pos hp], ?_⟩
   rw [fixI_some (fixI_of hx hp ha)]
  ·left
   refine ⟨_, m - 1, by rw [hstep i x hx, if_neg hp], by omega, i + 1, rfl, by omega, fun j y hj hy => ?_⟩
   by_cases hji : j < i
   ·exact ha j y hji hy
   ·have : j = i := by omega
    subst this
    rw [hx] at hy; cases hy
    simpa using hp
 ·right
  have e : i = l.length := by omega
  subst e
  refine ⟨_, hend, ?_⟩
  have : l.findIdx? p = none := List.findIdx?_eq_none_iff.2 fun x hx => by
   obtain ⟨j, hj⟩ := List.getElem?_of_mem hx
   exact ha j x (List.getElem?_eq_some_iff.1 hj).1 hj
  rw [this]
theorem find_val {α : Type} (l : List α) (p : α → Bool) {step : Int → Option (Lp Int (Fl Int Unit))}
  (hstep : ∀ (i : Nat) x, l[i]? = some x → step (i : Int) = some (if p x = true then .dn (.ret (i : Int)) else .nx ((i + 1 : Nat) : Int))) (hend : step (l.length : Int) = some (.dn (.go ()))) :
  flb (iter step 0) (fun (_ : Unit) => some (-1)) = some (fixI p l) := by
 rw [find_loop l p (fun i => (i : Int)) hstep hend]
 unfold fixI
 cases l.findIdx? p <;> rfl

theorem all_from {α : Type} (l : List α) (ok : Nat → α → Prop) (s0 : Int) (n0 : Nat) (hs0 : s0 = (n0 : Int)) (hn0 : n0 ≤ l.length) {step : Int → Option (Lp Int (Fl Bool Unit))}
  (hstep : ∀ (i : Nat) x, n0 ≤ i → l[i]? = some x → (step (i : Int) = some (.nx ((i + 1 : Nat) : Int)) ∧ ok i x) ∨ (step (i : Int) = some (.dn (.ret false)) ∧ ¬ ok i x)) (hend : step (l.length : Int) = some (.dn (.go ()))) :
  (iter step s0 = some (.go ()) ∧ ∀ (i : Nat) x, n0 ≤ i → l[i]? = some x → ok i x) ∨ (iter step s0 = some (.ret false) ∧ ¬ ∀ (i : Nat) x, n0 ≤ i → l[i]? = some x → ok i x) := by
 have h := iter_rule (step := step) (fun m v => ∃ i : Nat, v = (i : Int) ∧ m + i = l.length ∧ n0 ≤ i ∧ ∀ (j : Nat) x, n0 ≤ j → j < i → l[j]? = some x → ok j x)
  (fun b => (b = .go () ∧ ∀ (i : Nat) x, n0 ≤ i → l[i]? = some x → ok i x) ∨ (b = .ret false ∧ ¬ ∀ (i : Nat) x, n0 ≤ i → l[i]? = some x → ok i x)) ?_ (k := l.length - n0) (a := s0) ⟨n0, hs0, by omega, Nat.le_refl _, fun j x h1 h2 => by omega⟩
 ·obtain ⟨b, hb, ⟨rfl, h1⟩ | ⟨rfl, h1⟩⟩ := h
  ·exact .inl ⟨hb, h1⟩
  ·exact .inr ⟨hb, h1⟩
 rintro m v ⟨i, rfl, hm, hn, ha⟩
 by_cases hlt : i < l.length
 ·obtain ⟨x, hx⟩ := get_ex hlt
  rcases hstep i x hn hx with ⟨h1, h2⟩ | ⟨h1, h2⟩
  ·left
   refine ⟨_, m - 1, h1, by omega, i + 1, rfl, by omega, by omega, fun j y hj0 hj hy => ?_⟩
   by_cases hji : j < i
   ·exact ha j y hj0 hji hy
   ·have : j = i := by omega
    subst this
    rw [hx] at hy; cases hy
    exact h2
  ·right
   exact ⟨_, h1, .inr ⟨rfl, fun hc => h2 (hc i x hn hx)⟩⟩
 ·right
  have e : i = l.length := by omega
  subst e
  exact ⟨_, hend, .inl ⟨rfl, fun j x hj0 hx => ha j x hj0 (List.getElem?_eq_some_iff.1 hx).1 hx⟩⟩
theorem all_loop {α : Type} (l : List α) (ok : Nat → α → Prop) {step : Int → Option (Lp Int (Fl Bool Unit))}
  (hstep : ∀ (i : Nat) x, l[i]? = some x → (step (i : Int) = some (.nx ((i + 1 : Nat) : Int)) ∧ ok i x) ∨ (step (i : Int) = some (.dn (.ret false)) ∧ ¬ ok i x)) (hend : step (l.length : Int) = some (.dn (.go ()))) (s0 : Int) (n0 : Nat) (hs0 : s0 = (n0 : Int)) (hn0 : n0 ≤ l.length) :
  (iter step s0 = some (.go ()) ∧ ∀ (i : Nat) x, n0 ≤ i → l[i]? = some x → ok i x) ∨ (iter step s0 = some (.ret false) ∧ ¬ ∀ (i : Nat) x, n0 ≤ i → l[i]? = some x → ok i x) :=
 all_from l ok s0 n0 hs0 hn0 (fun i x _ hx => hstep i x hx) hend
theorem all_val {α : Type} (l : List α) (ok : Nat → α → Prop) [hd : Decidable (∀ (i : Nat) x, l[i]? = some x → ok i x)] {step : Int → Option (Lp Int (Fl Bool Unit))}
  (hstep : ∀ (i : Nat) x, l[i]? = some x → (step (i : Int) = some (.nx ((i + 1 : Nat) : Int)) ∧ ok i x) ∨ (step (i : Int) = some (.dn (.ret false)) ∧ ¬ ok i x)) (hend : step (l.length : Int) = some (.dn (.go ()))) (k : Unit → Option Bool) :
  flb (iter step 0) k = if (∀ (i : Nat) x, l[i]? = some x → ok i x) then k () else some false := by
 rcases all_loop l ok hstep hend 0 0 rfl (by omega) with ⟨h1, h2⟩ | ⟨h1, h2⟩
 ·rw [h1, if_pos (fun i x hx => h2 i x (by omega) hx)]; rfl
 ·rw [h1, if_neg (fun hc => h2 fun i x _ hx => hc i x hx)]; rfl

theorem fill_loop {α β : Type} (f : α → β) (l : List α) (l0 : List β) (hl0 : l0.length = l.length) {step : Int × List β → Option (Lp (Int × List β) (List β))}
  (hstep : ∀ (i : Nat) (a : List β) (x : α) (y : β), a.length = l.length → a[i]? = some y → l[i]? = some x → step ((i : Int), a) = some (.nx (((i + 1 : Nat) : Int), a.set i (f x)))) (hend : ∀ a, a.length = l.length → step ((l.length : Int), a) = some (.dn a)) :
  iter step (0, l0) = some (l.map f) := by
 have h := iter_rule (step := step) (fun m a => ∃ i : Nat, a.1 = (i : Int) ∧ m + i = l.length ∧ a.2.length = l.length ∧ ∀ (j : Nat) x, j < i → l[j]? = some x → a.2[j]? = some (f x)) (fun b => b = l.map f) ?_ (k := l.length) (a := (0, l0)) ⟨0, rfl, by omega, hl0, fun j x hj => by omega⟩
 ·obtain ⟨b, hb, rfl⟩ := h
  exact hb
 rintro m ⟨v, a⟩ ⟨i, hv, hm, hlen, ha⟩
 simp only at hv ha hlen
 subst hv
 by_cases hlt : i < l.length
 ·left
  obtain ⟨x, hx⟩ := get_ex hlt
  obtain ⟨y, hy⟩ := get_ex (l := a) (i := i) (by omega)
  refine ⟨_, m - 1, hstep i a x y hlen hy hx, by omega, i + 1, rfl, by omega, by simpa using hlen, fun j z hj hz => ?_⟩
  show (a.set i (f x))[j]? = _
  by_cases hji : j = i
  ·subst hji
   rw [hx] at hz; cases hz
   rw [List.getElem?_set_self (by omega)]
  ·rw [List.getElem?_set_ne (Ne.symm hji)]
   exact ha j z (by omega) hz
 ·right
  have e : i = l.length := by omega
  subst e
  refine ⟨a, hend a hlen, ?_⟩
  apply List.ext_getElem?
  intro j
  rw [List.getElem?_map]
  by_cases hj : j < l.length
  ·obtain ⟨x, hx⟩ := get_ex hj
   rw [hx, ha j x hj hx]; rfl
  ·rw [List.getElem?_eq_none (by omega), List.getElem?_eq_none (by omega)]; rfl
theorem app_loop {α β : Type} (f : α → β) (l : List α) {step : Int × List β → Option (Lp (Int × List β) (List β))}
  (hstep : ∀ (i : Nat) (a : List β) (x : α), a.length = i → l[i]? = some x → step ((i : Int), a) = some (.nx (((i + 1 : Nat) : Int), a ++ [f x]))) (hend : ∀ a, a.length = l.length → step ((l.length : Int), a) = some (.dn a)) :
  iter step (0, []) = some (l.map f) := by
 have h := iter_rule (step := step) (fun m a => ∃ i : Nat, a.1 = (i : Int) ∧ m + i = l.length ∧ a.2 = (l.take i).map f) (fun b => b = l.map f) ?_ (k := l.length) (a := (0, [])) ⟨0, rfl, by omega, by simp⟩
 ·obtain ⟨b, hb, rfl⟩ := h
  exact hb
 rintro m ⟨v, a⟩ ⟨i, hv, hm, ha⟩
 simp only at hv ha
 subst hv
 have hlen : a.length = min i l.length := by rw [ha]; simp
 by_cases hlt : i < l.length
 ·left
  obtain ⟨x, hx⟩ := get_ex hlt
  refine ⟨_, m - 1, hstep i a x (by omega) hx, by omega, i + 1, rfl, by omega, ?_⟩
  show a ++ [f x] = _
  rw [take_succ hx, ha]; simp
 ·right
  have e : i = l.length := by omega
  subst e
  exact ⟨a, hend a (by omega), by rw [ha, List.take_length]⟩
end Go.Ab
namespace Go.Ab
set_option linter.unusedVariables false
set_option linter.unusedSimpArgs false
def Tot {α : Type} (m : Option α) (Q : α → Prop) : Prop := ∃ a, m = some a ∧ Q a
theorem Tot.ok {α : Type} {a : α} {Q : α → Prop} (h : Q a) : Tot (some a) Q := ⟨a, rfl, h⟩
theorem Tot.mono {α : Type} {m : Option α} {P Q : α → Prop} (h : Tot m P) (hk : ∀ a, P a → Q a) : Tot m Q := by
 obtain ⟨a, h1, h2⟩ := h; exact ⟨a, h1, hk a h2⟩
theorem Tot.bind {α β : Type} {m : Option α} {k : α → Option β} {Q : β → Prop} (h : Tot m fun a => Tot (k a) Q) : Tot (m.bind k) Q := by
 obtain ⟨a, rfl, h2⟩ := h; exact h2
theorem Tot.call {α β : Type} {m : Option α} {k : α → Option β} {P : α → Prop} {Q : β → Prop} (h : Tot m P) (hk : ∀ a, P a → Tot (k a) Q) : Tot (m.bind k) Q := .bind (h.mono hk)
theorem Tot.eq {α β : Type} {m : Option α} {a : α} {k : α → Option β} {Q : β → Prop} (h : m = some a) (hk : Tot (k a) Q) : Tot (m.bind k) Q := by subst h; exact hk
theorem Tot.ite {α : Type} {c : Bool} {a b : Option α} {Q : α → Prop} (h1 : c = true → Tot a Q) (h2 : c = false → Tot b Q) : Tot (if c = true then a else b) Q := by
 cases c
 ·simpa using h2 rfl
 ·simpa using h1 rfl
theorem Tot.iteP {α : Type} {c : Prop} [Decidable c] {a b : Option α} {Q : α → Prop} (h1 : c → Tot a Q) (h2 : ¬ c → Tot b Q) : Tot (if decide c = true then a else b) Q :=
 .ite (fun h => h1 (of_decide_eq_true h)) (fun h => h2 (of_decide_eq_false h))
theorem Tot.iteN {α : Type} {c : Prop} [Decidable c] {a b : Option α} {Q : α → Prop} (h1 : ¬ c → Tot a Q) (h2 : c → Tot b Q) : Tot (if (!decide c) = true then a else b) Q :=
 .ite (fun h => h1 (by simpa using h)) (fun h => h2 (by simpa using h))
theorem Tot.chk {β : Type} {p : Prop} [Decidable p] {k : Unit → Option β} {Q : β → Prop} (h : p) (hk : Tot (k ()) Q) : Tot ((Ab.chk p).bind k) Q := .eq (chk_of h) hk
theorem Tot.idx {α β : Type} {l : List α} {i : Int} {k : α → Option β} {Q : β → Prop} (h0 : 0 ≤ i) (h : i < l.length) (hk : ∀ x, l[i.toNat]? = some x → Tot (k x) Q) : Tot ((Ab.idx l i).bind k) Q := by
 obtain ⟨x, h1, h2, _⟩ := idx_lt h0 h
 exact .eq h1 (hk x h2)
theorem Tot.flb {R V : Type} {m : Option (Fl R V)} {k : V → Option R} {Q : R → Prop} (h : Tot m fun v => (∀ r, v = .ret r → Q r) ∧ ∀ u, v = .go u → Tot (k u) Q) : Tot (Ab.flb m k) Q := by
 obtain ⟨v, rfl, h1, h2⟩ := h
 cases v with
 | ret r => exact ⟨r, rfl, h1 r rfl⟩
 | go u => exact h2 u rfl
theorem Tot.iter {A B : Type} {step : A → Option (Lp A B)} (I : Nat → A → Prop) {Q : B → Prop} {n : Nat} {a : A} (h0 : I n a)
  (h : ∀ k a, I k a → Tot (step a) fun r => (∀ a', r = .nx a' → ∃ k', k' < k ∧ I k' a') ∧ ∀ b, r = .dn b → Q b) : Tot (Ab.iter step a) Q := by
 refine iter_rule I Q (fun k a ha => ?_) h0
 obtain ⟨r, h1, h2, h3⟩ := h k a ha
 cases r with
 | nx a' =>
  obtain ⟨k', g1, g2⟩ := h2 a' rfl
  exact .inl ⟨a', k', h1, g1, g2⟩
 | dn b => exact .inr ⟨b, h1, h3 b rfl⟩
theorem Tot.nx {A B : Type} {a : A} {P : A → Prop} {Q : B → Prop} (h : P a) : Tot (some (Lp.nx a : Lp A B)) fun r => (∀ a', r = .nx a' → P a') ∧ ∀ b, r = .dn b → Q b :=
 ⟨_, rfl, fun a' e => by cases e; exact h, fun b e => by cases e⟩
theorem Tot.dn {A B : Type} {b : B} {P : A → Prop} {Q : B → Prop} (h : Q b) : Tot (some (Lp.dn b : Lp A B)) fun r => (∀ a', r = .nx a' → P a') ∧ ∀ b, r = .dn b → Q b :=
 ⟨_, rfl, fun a' e => (by cases e), fun b' e => (by cases e; exact h)⟩
theorem Tot.go {R V : Type} {u : V} {P : R → Prop} {Q : V → Prop} (h : Q u) : Tot (some (Fl.go u : Fl R V)) fun v => (∀ r, v = .ret r → P r) ∧ ∀ u, v = .go u → Q u :=
 ⟨_, rfl, fun r e => (by cases e), fun u' e => by cases e; exact h⟩
theorem Tot.ret {R V : Type} {r : R} {P : R → Prop} {Q : V → Prop} (h : P r) : Tot (some (Fl.ret r : Fl R V)) fun v => (∀ r, v = .ret r → P r) ∧ ∀ u, v = .go u → Q u :=
 ⟨_, rfl, fun r' e => (by cases e; exact h), fun u' e => by cases e⟩
theorem Tot.val {α : Type} {m : Option α} {a : α} (h : Tot m (· = a)) : m = some a := by obtain ⟨x, h1, rfl⟩ := h; exact h1
theorem Tot.of {α : Type} {m : Option α} {a : α} {Q : α → Prop} (h : m = some a) (hq : Q a) : Tot m Q := ⟨a, h, hq⟩
theorem ixs {α : Type} {l : List α} {i : Nat} {x : α} (h : l[i]? = some x) : Ab.idx l (i : Int) = some x := (idx_nat l i).trans h
theorem get_lt {α : Type} {l : List α} {i : Nat} {x : α} (h : l[i]? = some x) : i < l.length := (List.getElem?_eq_some_iff.1 h).1
theorem iter2 {A A' B B' : Type} {step : A → Option (Lp A B)} {step' : A' → Option (Lp A' B')} (I : Nat → A → A' → Prop) (T : B → B' → Prop)
  (h : ∀ k a a', I k a a' → (∃ b b' k', step a = some (.nx b) ∧ step' a' = some (.nx b') ∧ k' < k ∧ I k' b b') ∨ ∃ x x', step a = some (.dn x) ∧ step' a' = some (.dn x') ∧ T x x') :
  ∀ {k a a'}, I k a a' → ∃ x x', Ab.iter step a = some x ∧ Ab.iter step' a' = some x' ∧ T x x' := by
 intro k
 induction k using Nat.strongRecOn with
 | _ k ih =>
  intro a a' ha
  rcases h k a a' ha with ⟨b, b', k', h1, h2, h3, h4⟩ | ⟨x, x', h1, h2, h3⟩
  ·rw [iter_nx h1, iter_nx h2]; exact ih k' h3 h4
  ·exact ⟨x, x', iter_dn h1, iter_dn h2, h3⟩
theorem flb_dec {P : Prop} [Decidable P] {m : Option (Fl Bool Unit)} (h : Tot m fun b => (b = .go () ∧ P) ∨ (b = .ret false ∧ ¬ P)) : Ab.flb m (fun _ => some true) = some (decide P) := by
 obtain ⟨b, rfl, ⟨rfl, hp⟩ | ⟨rfl, hp⟩⟩ := h
 ·simp [hp]
 ·simp [hp]
theorem idx_some {α : Type} {l : List α} {i : Int} {x : α} (h : Ab.idx l i = some x) : 0 ≤ i ∧ i < l.length ∧ l[i.toNat]? = some x := by
 unfold Ab.idx at h
 split at h
 ·have := get_lt h; exact ⟨by omega, by omega, h⟩
 ·cases h
theorem idx_fix {α : Type} {p : α → Bool} {l : List α} (h : ¬ fixI p l < 0) : ∃ (k : Nat) (x : α), fixI p l = (k : Int) ∧ l[k]? = some x ∧ p x = true ∧ ∀ j y, j < k → l[j]? = some y → p y = false := by
 have e : fixI p l = ((fixI p l).toNat : Int) := by omega
 obtain ⟨x, h1, h2, h3⟩ := fixI_at e
 exact ⟨_, x, e, h1, h2, h3⟩
theorem sum_take_succ {l : List Int} {i : Nat} {x : Int} (h : l[i]? = some x) : (l.take (i + 1)).sum = (l.take i).sum + x := by
 rw [take_succ h]; simp
theorem sum_nonneg {l : List Int} (h : ∀ x ∈ l, 0 ≤ x) : 0 ≤ l.sum := by
 induction l with
 | nil => simp
 | cons a l ih =>
  have h1 := h a (List.mem_cons_self ..)
  have h2 := ih fun x hx => h x (List.mem_cons_of_mem _ hx)
  simp only [List.sum_cons]; omega
theorem bind_assoc' {α β γ : Type} (m : Option α) (f : α → Option β) (g : β → Option γ) : (m.bind fun x => (f x).bind g) = (m.bind f).bind g := by cases m <;> rfl
end Go.Ab
