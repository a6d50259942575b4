/- My own layer: plain lemmas about models: loops, lists, numbers. -/
import Derived.Test.YtjahononbnbjnaaAbEx5
namespace Go.Ab
set_option linter.unusedVariables false
set_option linter.unusedSimpArgs false

theorem iter_rule {A B : Type} {step : A → Option (Lp A B)} (I : Nat → A → Prop) (Q : B → Prop)
  (h : ∀ k a, I k a → (∃ a' k', step a = some (.nx a') ∧ k' < k ∧ I k' a') ∨ (∃ b, step a = some (.dn b) ∧ Q b)) : ∀ {k a}, I k a → ∃ b, iter step a = some b ∧ Q b := by
 intro k
 induction k using Nat.strongRecOn with
 | _ k ih =>
  intro a ha
  rcases h k a ha with ⟨a', k', h1, h2, h3⟩ | ⟨b, h1, h2⟩
  ·rw [iter_nx h1]; exact ih k' h2 h3
  ·exact ⟨b, iter_dn h1, h2⟩

theorem idx_nat {α : Type} (l : List α) (i : Nat) : idx l (i : Int) = l[i]? := by
 unfold idx; rw [if_pos (by omega)]; simp
theorem idx_of {α : Type} {l : List α} {i : Int} {x : α} (h0 : 0 ≤ i) (h : l[i.toNat]? = some x) : idx l i = some x := by
 unfold idx; rw [if_pos h0]; exact h
theorem idx_lt {α : Type} {l : List α} {i : Int} (h0 : 0 ≤ i) (h : i < l.length) : ∃ x, idx l i = some x ∧ l[i.toNat]? = some x ∧ x ∈ l := by
 have h1 : i.toNat < l.length := by omega
 refine ⟨l[i.toNat], idx_of h0 (List.getElem?_eq_getElem h1), List.getElem?_eq_getElem h1, List.getElem_mem h1⟩
theorem chk_of {p : Prop} [Decidable p] (h : p) : chk p = some () := by unfold chk; rw [if_pos h]
@[simp] theorem flb_go {R V : Type} (u : V) (k : V → Option R) : flb (some (.go u)) k = k u := rfl
@[simp] theorem flb_ret {R V : Type} (r : R) (k : V → Option R) : flb (some (Fl.ret r : Fl R V)) k = some r := rfl
theorem w64_nat {n : Nat} (h : n ≤ 9223372036854775807) : w64 (n : Int) = n := w64_id (by omega)
theorem w64_succ {n : Nat} (h : n < 9223372036854775807) : w64 ((n : Int) + 1) = ((n + 1 : Nat) : Int) := by rw [w64_id (by omega)]; omega
theorem w64_pred {n : Nat} (h : n < 9223372036854775807) : w64 (((n + 1 : Nat) : Int) - 1) = (n : Int) := by rw [w64_id (by omega)]; omega
theorem and255 (x : Int) : 0 ≤ w64 (IntKind.u64.wrap ((BitVec.ofInt (IntKind.u64).bits x &&& BitVec.ofInt (IntKind.u64).bits 255).toNat : Int)) ∧ w64 (IntKind.u64.wrap ((BitVec.ofInt (IntKind.u64).bits x &&& BitVec.ofInt (IntKind.u64).bits 255).toNat : Int)) ≤ 255 := by
 have h : (BitVec.ofInt (IntKind.u64).bits x &&& BitVec.ofInt (IntKind.u64).bits 255).toNat ≤ 255 := by
  rw [BitVec.toNat_and]
  have : (BitVec.ofInt (IntKind.u64).bits 255).toNat = 255 := by decide
  rw [this]
  exact Nat.and_le_right
 have h2 : IntKind.u64.wrap ((BitVec.ofInt (IntKind.u64).bits x &&& BitVec.ofInt (IntKind.u64).bits 255).toNat : Int) = ((BitVec.ofInt (IntKind.u64).bits x &&& BitVec.ofInt (IntKind.u64).bits 255).toNat : Int) := by
  rw [IntKind.wrap_u64]; omega
 rw [h2, w64_id (by omega)]
 omega
theorem tmod_rng {a b : Int} (h1 : 0 ≤ a) (h2 : 0 < b) : 0 ≤ a.tmod b ∧ a.tmod b < b := ⟨Int.tmod_nonneg b h1, Int.tmod_lt_of_pos a h2⟩
theorem take_succ {α : Type} {l : List α} {i : Nat} {x : α} (h : l[i]? = some x) : l.take (i + 1) = l.take i ++ [x] := by
 rw [List.take_add_one, h]; rfl
theorem get_ex {α : Type} {l : List α} {i : Nat} (h : i < l.length) : ∃ x, l[i]? = some x := ⟨_, List.getElem?_eq_getElem h⟩
def Chain {α : Type} (l : List α) (ok : α → Prop) (ord : α → α → Prop) : Prop := (∀ e ∈ l, ok e) ∧ ∀ (i : Nat) (a b : α), l[i]? = some a → l[i + 1]? = some b → ord a b
theorem sum_bd {l : List Int} {M : Int} (h : ∀ x ∈ l, 0 ≤ x ∧ x ≤ M) : 0 ≤ l.sum ∧ l.sum ≤ M * l.length := by
 induction l with
 | nil => simp
 | cons a l ih =>
  have h1 := h a (List.mem_cons_self ..)
  have h2 := ih fun x hx => h x (List.mem_cons_of_mem _ hx)
  simp only [List.sum_cons, List.length_cons, Int.natCast_add, Int.mul_add]
  simp only [Int.natCast_one, Int.mul_one]
  omega
theorem sum_loop {α : Type} (f : α → Int) (l : List α) (hl : l.length ≤ 1000000) (hb : ∀ x ∈ l, 0 ≤ f x ∧ f x ≤ 1000000) {step : Int × Int → Option (Lp (Int × Int) Int)}
  (hstep : ∀ (i : Nat) (s : Int) (x : α), l[i]? = some x → step (s, (i : Int)) = some (.nx (w64 (s + f x), w64 ((i : Int) + 1)))) (hend : ∀ s, step (s, (l.length : Int)) = some (.dn s)) :
  iter step (0, 0) = some ((l.map f).sum) := by
 have bd : ∀ i, 0 ≤ ((l.take i).map f).sum ∧ ((l.take i).map f).sum ≤ 1000000 * 1000000 := by
  intro i
  have := sum_bd (l := (l.take i).map f) (M := 1000000) (by
   intro x hx
   obtain ⟨y, hy, rfl⟩ := List.mem_map.1 hx
   exact hb y (List.mem_of_mem_take hy))
  have h2 : (((l.take i).map f).length : Int) ≤ 1000000 := by simp; omega
  omega
 have h := iter_rule (step := step) (fun m a => ∃ i : Nat, a.2 = (i : Int) ∧ m + i = l.length ∧ a.1 = ((l.take i).map f).sum) (fun b => b = (l.map f).sum) ?_ (k := l.length) (a := (0, 0)) ⟨0, rfl, by omega, by simp⟩
 ·obtain ⟨b, hb, rfl⟩ := h
  exact hb
 rintro m ⟨s, v⟩ ⟨i, hv, hm, hs⟩
 simp only at hv hs
 subst hv
 by_cases hlt : i < l.length
 ·left
  obtain ⟨x, hx⟩ := get_ex hlt
  have hxb := hb x (List.mem_of_getElem? hx)
  have hbi := bd i
  refine ⟨_, m - 1, hstep i s x hx, by omega, i + 1, ?_, by omega, ?_⟩
  ·exact w64_succ (by omega)
  ·show w64 (s + f x) = _
   rw [w64_id (by omega), take_succ hx, hs]; simp
 ·right
  have e : i = l.length := by omega
  subst e
  exact ⟨s, hend s, by rw [hs, List.take_length]⟩
end Go.Ab
namespace Go.Ab
set_option linter.unusedVariables false
set_option linter.unusedSimpArgs false

def fixI {α : Type} (p : α → Bool) (l : List α) : Int := match l.findIdx? p with
 | some i => (i : Int)
 | none => -1
theorem fixI_some {α : Type} {p : α → Bool} {l : List α} {i : Nat} (h : fixI p l = (i : Int)) : l.findIdx? p = some i := by
 unfold fixI at h
 split at h
 ·rename_i j hj; rw [hj]; congr 1; omega
 ·omega
theorem fixI_at {α : Type} {p : α → Bool} {l : List α} {i : Nat} (h : fixI p l = (i : Int)) : ∃ x, l[i]? = some x ∧ p x = true ∧ ∀ j y, j < i → l[j]? = some y → p y = false := by
 have := fixI_some h
 rw [List.findIdx?_eq_some_iff_getElem] at this
 obtain ⟨h1, h2, h3⟩ := this
 refine ⟨_, List.getElem?_eq_getElem h1, h2, fun j y hj hy => ?_⟩
 have h4 := h3 j hj
 obtain ⟨hjl, hy2⟩ := List.getElem?_eq_some_iff.1 hy
 subst hy2
 simpa using h4
theorem fixI_of {α : Type} {p : α → Bool} {l : List α} {i : Nat} {x : α} (h : l[i]? = some x) (hp : p x = true) (hn : ∀ (j : Nat) y, j < i → l[j]? = some y → p y = false) : fixI p l = (i : Int) := by
 obtain ⟨hi, hx⟩ := List.getElem?_eq_some_iff.1 h
 have : l.findIdx? p = some i := by
  rw [List.findIdx?_eq_some_iff_getElem]
  refine ⟨hi, by rw [hx]; exact hp, fun j hj => ?_⟩
  have := hn j _ hj (List.getElem?_eq_getElem (by omega))
  simp [this]
 unfold fixI; rw [this]
theorem fixI_map {α β : Type} (f : α → β) (p : β → Bool) (l : List α) : fixI p (l.map f) = fixI (fun x => p (f x)) l := by
 unfold fixI
 rw [List.findIdx?_map]
 rfl
theorem fixI_congr {α : Type} {p q : α → Bool} (l : List α) (h : ∀ x, p x = q x) : fixI p l = fixI q l := by
 have : p = q := funext h
 rw [this]

theorem find_loop {α R : Type} (l : List α) (p : α → Bool) (f : Nat → R) {step : Int → Option (Lp Int (Fl R Unit))}
  (hstep : ∀ (i : Nat) x, l[i]? = some x → step (i : Int) = some (if p x = true then .dn (.ret (f i)) else .nx ((i + 1 : Nat) : Int))) (hend : step (l.length : Int) = some (.dn (.go ()))) :
  iter step 0 = some (match l.findIdx? p with | some i => .ret (f i) | none => .go ()) := by
 have h := iter_rule (step := step) (fun m v => ∃ i : Nat, v = (i : Int) ∧ m + i = l.length ∧ ∀ j y, j < i → l[j]? = some y → p y = false) (fun b => b = match l.findIdx? p with | some i => .ret (f i) | none => .go ()) ?_ (k := l.length) (a := 0) ⟨0, rfl, by omega, fun j y hj => by omega⟩
 ·obtain ⟨b, hb, rfl⟩ := h
  exact hb
 rintro m v ⟨i, rfl, hm, ha⟩
 by_cases hlt : i < l.length
 ·obtain ⟨x, hx⟩ := get_ex hlt
  by_cases hp : p x = true
  ·right
   refine ⟨_, by rw [hstep i x hx, if_pos hp], ?_⟩
   rw [fixI_some (fixI_of hx hp ha)]
  ·left
   refine ⟨_, m - 1, by rw [hstep i x hx, if_neg hp], by omega, i + 1, rfl, by omega, fun j y hj hy => ?_⟩
   by_cases hji : j < i
   ·exact ha j y hji hy
   ·have : j = i := by omega
    subst this
    rw [hx] at hy; cases hy
    simpa using hp
 ·right
  have e : i = l.length := by omega
  subst e
  refine ⟨_, hend, ?_⟩
  have : l.findIdx? p = none := List.findIdx?_eq_none_iff.2 fun x hx => by
   obtain ⟨j, hj⟩ := List.getElem?_of_mem hx
   exact ha j x (List.getElem?_eq_some_iff.1 hj).1 hj
  rw [this]
theorem find_val {α : Type} (l : List α) (p : α → Bool) {step : Int → Option (Lp Int (Fl Int Unit))}
  (hstep : ∀ (i : Nat) x, l[i]? = some x → step (i : Int) = some (if p x = true then .dn (.ret (i : Int)) else .nx ((i + 1 : Nat) : Int))) (hend : step (l.length : Int) = some (.dn (.go ()))) :
  flb (iter step 0) (fun (_ : Unit) => some (-1)) = some (fixI p l) := by
 rw [find_loop l p (fun i => (i : Int)) hstep hend]
 unfold fixI
 cases l.findIdx? p <;> rfl

theorem all_from {α : Type} (l : List α) (ok : Nat → α → Prop) (s0 : Int) (n0 : Nat) (hs0 : s0 = (n0 : Int)) (hn0 : n0 ≤ l.length) {step : Int → Option (Lp Int (Fl Bool Unit))}
  (hstep : ∀ (i : Nat) x, n0 ≤ i → l[i]? = some x → (step (i : Int) = some (.nx ((i + 1 : Nat) : Int)) ∧ ok i x) ∨ (step (i : Int) = some (.dn (.ret false)) ∧ ¬ ok i x)) (hend : step (l.length : Int) = some (.dn (.go ()))) :
  (iter step s0 = some (.go ()) ∧ ∀ (i : Nat) x, n0 ≤ i → l[i]? = some x → ok i x) ∨ (iter step s0 = some (.ret false) ∧ ¬ ∀ (i : Nat) x, n0 ≤ i → l[i]? = some x → ok i x) := by
 have h := iter_rule (step := step) (fun m v => ∃ i : Nat, v = (i : Int) ∧ m + i = l.length ∧ n0 ≤ i ∧ ∀ (j : Nat) x, n0 ≤ j → j < i → l[j]? = some x → ok j x)
  (fun b => (b = .go () ∧ ∀ (i : Nat) x, n0 ≤ i → l[i]? = some x → ok i x) ∨ (b = .ret false ∧ ¬ ∀ (i : Nat) x, n0 ≤ i → l[i]? = some x → ok i x)) ?_ (k := l.length - n0) (a := s0) ⟨n0, hs0, by omega, Nat.le_refl _, fun j x h1 h2 => by omega⟩
 ·obtain ⟨b, hb, ⟨rfl, h1⟩ | ⟨rfl, h1⟩⟩ := h
  ·exact .inl ⟨hb, h1⟩
  ·exact .inr ⟨hb, h1⟩
 rintro m v ⟨i, rfl, hm, hn, ha⟩
 by_cases hlt : i < l.length
 ·obtain ⟨x, hx⟩ := get_ex hlt
  rcases hstep i x hn hx with ⟨h1, h2⟩ | ⟨h1, h2⟩
  ·left
   refine ⟨_, m - 1, h1, by omega, i + 1, rfl, by omega, by omega, fun j y hj0 hj hy => ?_⟩
   by_cases hji : j < i
   ·exact ha j y hj0 hji hy
   ·have : j = i := by omega
    subst this
    rw [hx] at hy; cases hy
    exact h2
  ·right
   exact ⟨_, h1, .inr ⟨rfl, fun hc => h2 (hc i x hn hx)⟩⟩
 ·right
  have e : i = l.length := by omega
  subst e
  exact ⟨_, hend, .inl ⟨rfl, fun j x hj0 hx => ha j x hj0 (List.getElem?_eq_some_iff.1 hx).1 hx⟩⟩
theorem all_loop {α : Type} (l : List α) (ok : Nat → α → Prop) {step : Int → Option (Lp Int (Fl Bool Unit))}
  (hstep : ∀ (i : Nat) x, l[i]? = some x → (step (i : Int) = some (.nx ((i + 1 : Nat) : Int)) ∧ ok i x) ∨ (step (i : Int) = some (.dn (.ret false)) ∧ ¬ ok i x)) (hend : step (l.length : Int) = some (.dn (.go ()))) (s0 : Int) (n0 : Nat) (hs0 : s0 = (n0 : Int)) (hn0 : n0 ≤ l.length) :
  (iter step s0 = some (.go ()) ∧ ∀ (i : Nat) x, n0 ≤ i → l[i]? = some x → ok i x) ∨ (iter step s0 = some (.ret false) ∧ ¬ ∀ (i : Nat) x, n0 ≤ i → l[i]? = some x → ok i x) :=
 all_from l ok s0 n0 hs0 hn0 (fun i x _ hx => hstep i x hx) hend
theorem all_val {α : Type} (l : List α) (ok : Nat → α → Prop) [hd : Decidable (∀ (i : Nat) x, l[i]? = some x → ok i x)] {step : Int → Option (Lp Int (Fl Bool Unit))}
  (hstep : ∀ (i : Nat) x, l[i]? = some x → (step (i : Int) = some (.nx ((i + 1 : Nat) : Int)) ∧ ok i x) ∨ (step (i : Int) = some (.dn (.ret false)) ∧ ¬ ok i x)) (hend : step (l.length : Int) = some (.dn (.go ()))) (k : Unit → Option Bool) :
  flb (iter step 0) k = if (∀ (i : Nat) x, l[i]? = some x → ok i x) then k () else some false := by
 rcases all_loop l ok hstep hend 0 0 rfl (by omega) with ⟨h1, h2⟩ | ⟨h1, h2⟩
 ·rw [h1, if_pos (fun i x hx => h2 i x (by omega) hx)]; rfl
 ·rw [h1, if_neg (fun hc => h2 fun i x _ hx => hc i x hx)]; rfl

theorem fill_loop {α β : Type} (f : α → β) (l : List α) (l0 : List β) (hl0 : l0.length = l.length) {step : Int × List β → Option (Lp (Int × List β) (List β))}
  (hstep : ∀ (i : Nat) (a : List β) (x : α) (y : β), a.length = l.length → a[i]? = some y → l[i]? = some x → step ((i : Int), a) = some (.nx (((i + 1 : Nat) : Int), a.set i (f x)))) (hend : ∀ a, a.length = l.length → step ((l.length : Int), a) = some (.dn a)) :
  iter step (0, l0) = some (l.map f) := by
 have h := iter_rule (step := step) (fun m a => ∃ i : Nat, a.1 = (i : Int) ∧ m + i = l.length ∧ a.2.length = l.length ∧ ∀ (j : Nat) x, j < i → l[j]? = some x → a.2[j]? = some (f x)) (fun b => b = l.map f) ?_ (k := l.length) (a := (0, l0)) ⟨0, rfl, by omega, hl0, fun j x hj => by omega⟩
 ·obtain ⟨b, hb, rfl⟩ := h
  exact hb
 rintro m ⟨v, a⟩ ⟨i, hv, hm, hlen, ha⟩
 simp only at hv ha hlen
 subst hv
 by_cases hlt : i < l.length
 ·left
  obtain ⟨x, hx⟩ := get_ex hlt
  obtain ⟨y, hy⟩ := get_ex (l := a) (i := i) (by omega)
  refine ⟨_, m - 1, hstep i a x y hlen hy hx, by omega, i + 1, rfl, by omega, by simpa using hlen, fun j z hj hz => ?_⟩
  show (a.set i (f x))[j]? = _
  by_cases hji : j = i
  ·subst hji
   rw [hx] at hz; cases hz
   rw [List.getElem?_set_self (by omega)]
  ·rw [List.getElem?_set_ne (Ne.symm hji)]
   exact ha j z (by omega) hz
 ·right
  have e : i = l.length := by omega
  subst e
  refine ⟨a, hend a hlen, ?_⟩
  apply List.ext_getElem?
  intro j
  rw [List.getElem?_map]
  by_cases hj : j < l.length
  ·obtain ⟨x, hx⟩ := get_ex hj
   rw [hx, ha j x hj hx]; rfl
  ·rw [List.getElem?_eq_none (by omega), List.getElem?_eq_none (by omega)]; rfl
theorem app_loop {α β : Type} (f : α → β) (l : List α) {step : Int × List β → Option (Lp (Int × List β) (List β))}
  (hstep : ∀ (i : Nat) (a : List β) (x : α), a.length = i → l[i]? = some x → step ((i : Int), a) = some (.nx (((i + 1 : Nat) : Int), a ++ [f x]))) (hend : ∀ a, a.length = l.length → step ((l.length : Int), a) = some (.dn a)) :
  iter step (0, []) = some (l.map f) := by
 have h := iter_rule (step := step) (fun m a => ∃ i : Nat, a.1 = (i : Int) ∧ m + i = l.length ∧ a.2 = (l.take i).map f) (fun b => b = l.map f) ?_ (k := l.length) (a := (0, [])) ⟨0, rfl, by omega, by simp⟩
 ·obtain ⟨b, hb, rfl⟩ := h
  exact hb
 rintro m ⟨v, a⟩ ⟨i, hv, hm, ha⟩
 simp only at hv ha
 subst hv
 have hlen : a.length = min i l.length := by rw [ha]; simp
 by_cases hlt : i < l.length
 ·left
  obtain ⟨x, hx⟩ := get_ex hlt
  refine ⟨_, m - 1, hstep i a x (by omega) hx, by omega, i + 1, rfl, by omega, ?_⟩
  show a ++ [f x] = _
  rw [take_succ hx, ha]; simp
 ·right
  have e : i = l.length := by omega
  subst e
  exact ⟨a, hend a (by omega), by rw [ha, List.take_length]⟩
end Go.Ab
namespace Go.Ab
set_option linter.unusedVariables false
set_option linter.unusedSimpArgs false
def Tot {α : Type} (m : Option α) (Q : α → Prop) : Prop := ∃ a, m = some a ∧ Q a
theorem Tot.ok {α : Type} {a : α} {Q : α → Prop} (h : Q a) : Tot (some a) Q := ⟨a, rfl, h⟩
theorem Tot.mono {α : Type} {m : Option α} {P Q : α → Prop} (h : Tot m P) (hk : ∀ a, P a → Q a) : Tot m Q := by
 obtain ⟨a, h1, h2⟩ := h; exact ⟨a, h1, hk a h2⟩
theorem Tot.bind {α β : Type} {m : Option α} {k : α → Option β} {Q : β → Prop} (h : Tot m fun a => Tot (k a) Q) : Tot (m.bind k) Q := by
 obtain ⟨a, rfl, h2⟩ := h; exact h2
theorem Tot.call {α β : Type} {m : Option α} {k : α → Option β} {P : α → Prop} {Q : β → Prop} (h : Tot m P) (hk : ∀ a, P a → Tot (k a) Q) : Tot (m.bind k) Q := .bind (h.mono hk)
theorem Tot.eq {α β : Type} {m : Option α} {a : α} {k : α → Option β} {Q : β → Prop} (h : m = some a) (hk : Tot (k a) Q) : Tot (m.bind k) Q := by subst h; exact hk
theorem Tot.ite {α : Type} {c : Bool} {a b : Option α} {Q : α → Prop} (h1 : c = true → Tot a Q) (h2 : c = false → Tot b Q) : Tot (if c = true then a else b) Q := by
 cases c
 ·simpa using h2 rfl
 ·simpa using h1 rfl
theorem Tot.iteP {α : Type} {c : Prop} [Decidable c] {a b : Option α} {Q : α → Prop} (h1 : c → Tot a Q) (h2 : ¬ c → Tot b Q) : Tot (if decide c = true then a else b) Q :=
 .ite (fun h => h1 (of_decide_eq_true h)) (fun h => h2 (of_decide_eq_false h))
theorem Tot.iteN {α : Type} {c : Prop} [Decidable c] {a b : Option α} {Q : α → Prop} (h1 : ¬ c → Tot a Q) (h2 : c → Tot b Q) : Tot (if (!decide c) = true then a else b) Q :=
 .ite (fun h => h1 (by simpa using h)) (fun h => h2 (by simpa using h))
theorem Tot.chk {β : Type} {p : Prop} [Decidable p] {k : Unit → Option β} {Q : β → Prop} (h : p) (hk : Tot (k ()) Q) : Tot ((Ab.chk p).bind k) Q := .eq (chk_of h) hk
theorem Tot.idx {α β : Type} {l : List α} {i : Int} {k : α → Option β} {Q : β → Prop} (h0 : 0 ≤ i) (h : i < l.length) (hk : ∀ x, l[i.toNat]? = some x → Tot (k x) Q) : Tot ((Ab.idx l i).bind k) Q := by
 obtain ⟨x, h1, h2, _⟩ := idx_lt h0 h
 exact .eq h1 (hk x h2)
theorem Tot.flb {R V : Type} {m : Option (Fl R V)} {k : V → Option R} {Q : R → Prop} (h : Tot m fun v => (∀ r, v = .ret r → Q r) ∧ ∀ u, v = .go u → Tot (k u) Q) : Tot (Ab.flb m k) Q := by
 obtain ⟨v, rfl, h1, h2⟩ := h
 cases v with
 | ret r => exact ⟨r, rfl, h1 r rfl⟩
 | go u => exact h2 u rfl
theorem Tot.iter {A B : Type} {step : A → Option (Lp A B)} (I : Nat → A → Prop) {Q : B → Prop} {n : Nat} {a : A} (h0 : I n a)
  (h : ∀ k a, I k a → Tot (step a) fun r => (∀ a', r = .nx a' → ∃ k', k' < k ∧ I k' a') ∧ ∀ b, r = .dn b → Q b) : Tot (Ab.iter step a) Q := by
 refine iter_rule I Q (fun k a ha => ?_) h0
 obtain ⟨r, h1, h2, h3⟩ := h k a ha
 cases r with
 | nx a' =>
  obtain ⟨k', g1, g2⟩ := h2 a' rfl
  exact .inl ⟨a', k', h1, g1, g2⟩
 | dn b => exact .inr ⟨b, h1, h3 b rfl⟩
theorem Tot.nx {A B : Type} {a : A} {P : A → Prop} {Q : B → Prop} (h : P a) : Tot (some (Lp.nx a : Lp A B)) fun r => (∀ a', r = .nx a' → P a') ∧ ∀ b, r = .dn b → Q b :=
 ⟨_, rfl, fun a' e => by cases e; exact h, fun b e => by cases e⟩
theorem Tot.dn {A B : Type} {b : B} {P : A → Prop} {Q : B → Prop} (h : Q b) : Tot (some (Lp.dn b : Lp A B)) fun r => (∀ a', r = .nx a' → P a') ∧ ∀ b, r = .dn b → Q b :=
 ⟨_, rfl, fun a' e => (by cases e), fun b' e => (by cases e; exact h)⟩
theorem Tot.go {R V : Type} {u : V} {P : R → Prop} {Q : V → Prop} (h : Q u) : Tot (some (Fl.go u : Fl R V)) fun v => (∀ r, v = .ret r → P r) ∧ ∀ u, v = .go u → Q u :=
 ⟨_, rfl, fun r e => (by cases e), fun u' e => by cases e; exact h⟩
theorem Tot.ret {R V : Type} {r : R} {P : R → Prop} {Q : V → Prop} (h : P r) : Tot (some (Fl.ret r : Fl R V)) fun v => (∀ r, v = .ret r → P r) ∧ ∀ u, v = .go u → Q u :=
 ⟨_, rfl, fun r' e => (by cases e; exact h), fun u' e => by cases e⟩
theorem Tot.val {α : Type} {m : Option α} {a : α} (h : Tot m (· = a)) : m = some a := by obtain ⟨x, h1, rfl⟩ := h; exact h1
theorem Tot.of {α : Type} {m : Option α} {a : α} {Q : α → Prop} (h : m = some a) (hq : Q a) : Tot m Q := ⟨a, h, hq⟩
theorem ixs {α : Type} {l : List α} {i : Nat} {x : α} (h : l[i]? = some x) : Ab.idx l (i : Int) = some x := (idx_nat l i).trans h
theorem get_lt {α : Type} {l : List α} {i : Nat} {x : α} (h : l[i]? = some x) : i < l.length := (List.getElem?_eq_some_iff.1 h).1
theorem set_at {α : Type} {l : List α} {i : Nat} {x y : α} (h : l[i]? = some x) : (l.set i y)[i]? = some y := List.getElem?_set_self (get_lt h)
theorem iter2 {A A' B B' : Type} {step : A → Option (Lp A B)} {step' : A' → Option (Lp A' B')} (I : Nat → A → A' → Prop) (T : B → B' → Prop)
  (h : ∀ k a a', I k a a' → (∃ b b' k', step a = some (.nx b) ∧ step' a' = some (.nx b') ∧ k' < k ∧ I k' b b') ∨ ∃ x x', step a = some (.dn x) ∧ step' a' = some (.dn x') ∧ T x x') :
  ∀ {k a a'}, I k a a' → ∃ x x', Ab.iter step a = some x ∧ Ab.iter step' a' = some x' ∧ T x x' := by
 intro k
 induction k using Nat.strongRecOn with
 | _ k ih =>
  intro a a' ha
  rcases h k a a' ha with ⟨b, b', k', h1, h2, h3, h4⟩ | ⟨x, x', h1, h2, h3⟩
  ·rw [iter_nx h1, iter_nx h2]; exact ih k' h3 h4
  ·exact ⟨x, x', iter_dn h1, iter_dn h2, h3⟩
theorem flb_dec {P : Prop} [Decidable P] {m : Option (Fl Bool Unit)} (h : Tot m fun b => (b = .go () ∧ P) ∨ (b = .ret false ∧ ¬ P)) : Ab.flb m (fun _ => some true) = some (decide P) := by
 obtain ⟨b, rfl, ⟨rfl, hp⟩ | ⟨rfl, hp⟩⟩ := h
 ·simp [hp]
 ·simp [hp]
theorem idx_fix {α : Type} {p : α → Bool} {l : List α} (h : ¬ fixI p l < 0) : ∃ (k : Nat) (x : α), fixI p l = (k : Int) ∧ l[k]? = some x ∧ p x = true ∧ ∀ j y, j < k → l[j]? = some y → p y = false := by
 have e : fixI p l = ((fixI p l).toNat : Int) := by omega
 obtain ⟨x, h1, h2, h3⟩ := fixI_at e
 exact ⟨_, x, e, h1, h2, h3⟩
theorem sum_take_succ {l : List Int} {i : Nat} {x : Int} (h : l[i]? = some x) : (l.take (i + 1)).sum = (l.take i).sum + x := by
 rw [take_succ h]; simp
theorem sum_nonneg {l : List Int} (h : ∀ x ∈ l, 0 ≤ x) : 0 ≤ l.sum := by
 induction l with
 | nil => simp
 | cons a l ih =>
  have h1 := h a (List.mem_cons_self ..)
  have h2 := ih fun x hx => h x (List.mem_cons_of_mem _ hx)
  simp only [List.sum_cons]; omega
theorem ite3 {A B C : Prop} [Decidable A] [Decidable B] [Decidable C] : (if (!decide A) = true then some true else if (!decide B) = true then some true else some (!decide C)) = some (!decide (A ∧ B ∧ C)) := by
 by_cases a : A <;> by_cases b : B <;> simp [a, b]
theorem bind_assoc' {α β γ : Type} (m : Option α) (f : α → Option β) (g : β → Option γ) : (m.bind fun x => (f x).bind g) = (m.bind f).bind g := by cases m <;> rfl
end Go.Ab
namespace Go.Ab.Pdq
set_option linter.unusedVariables false
set_option linter.unusedSimpArgs false
set_option maxRecDepth 100000
set_option linter.unusedVariables false
noncomputable def insertionSort_L1 {α : Type} (a : Int) (cmp : α → α → Option (Int)) : Int × (List α) → Option (Lp (Int × (List α)) ((List α)))
 | (v1, data2) =>
  (if (decide (a < v1)) = true then (idx data2 v1).bind fun e2 =>
  (idx data2 (w64 (v1 - 1))).bind fun e3 =>
  (cmp e2 e3).bind fun r1 =>
  some (decide (r1 < 0)) else some false).bind fun (v2 : Bool) =>
  if v2 = true then
   (idx data2 (w64 (v1 - 1))).bind fun e8 =>
   (idx data2 v1).bind fun e9 =>
   (idx data2 v1).bind fun e10 =>
   (idx (data2.set v1.toNat e8) (w64 (v1 - 1))).bind fun e11 =>
   some (.nx ((w64 (v1 - 1)), ((data2.set v1.toNat e8).set (w64 (v1 - 1)).toNat e9)))
  else
   some (.dn data2)
noncomputable def insertionSort_L2 {α : Type} (a : Int) (b : Int) (cmp : α → α → Option (Int)) : Int × (List α) → Option (Lp (Int × (List α)) ((List α)))
 | (v, data1) =>
  if (decide (v < b)) = true then
   (iter (insertionSort_L1 a cmp) (v, data1)).bind fun (data3 : List α) =>
   some (.nx ((w64 (v + 1)), data3))
  else
   some (.dn data1)
noncomputable def insertionSort {α : Type} (data : List α) (a : Int) (b : Int) (cmp : α → α → Option (Int)) : Option ((List α)) :=
 iter (insertionSort_L2 a b cmp) ((w64 (a + 1)), data)
noncomputable def siftDown_L1 {α : Type} (hi : Int) (first : Int) (cmp : α → α → Option (Int)) : Int × (List α) → Option (Lp (Int × (List α)) ((List α)))
 | (v, data1) =>
  if (decide (hi ≤ (w64 ((w64 (2 * v)) + 1)))) = true then
   some (.dn data1)
  else
   ((if (decide ((w64 ((w64 ((w64 (2 * v)) + 1)) + 1)) < hi)) = true then (idx data1 (w64 (first + (w64 ((w64 (2 * v)) + 1))))).bind fun e3 =>
   (idx data1 (w64 ((w64 (first + (w64 ((w64 (2 * v)) + 1)))) + 1))).bind fun e4 =>
   (cmp e3 e4).bind fun r2 =>
   some (decide (r2 < 0)) else some false).bind fun (v2 : Bool) =>
   if v2 = true then
    some (w64 ((w64 ((w64 (2 * v)) + 1)) + 1))
   else
    some (w64 ((w64 (2 * v)) + 1))).bind fun (v1 : Int) =>
   (idx data1 (w64 (first + v))).bind fun e7 =>
   (idx data1 (w64 (first + v1))).bind fun e8 =>
   (cmp e7 e8).bind fun r4 =>
   if (!(decide (r4 < 0))) = true then
    some (.dn data1)
   else
    (idx data1 (w64 (first + v1))).bind fun e14 =>
    (idx data1 (w64 (first + v))).bind fun e15 =>
    (idx data1 (w64 (first + v))).bind fun e16 =>
    (idx (data1.set (w64 (first + v)).toNat e14) (w64 (first + v1))).bind fun e17 =>
    some (.nx (v1, ((data1.set (w64 (first + v)).toNat e14).set (w64 (first + v1)).toNat e15)))
noncomputable def siftDown {α : Type} (data : List α) (lo : Int) (hi : Int) (first : Int) (cmp : α → α → Option (Int)) : Option ((List α)) :=
 iter (siftDown_L1 hi first cmp) (lo, data)
noncomputable def heapSort_L1 {α : Type} (a : Int) (b : Int) (cmp : α → α → Option (Int)) : Int × (List α) → Option (Lp (Int × (List α)) ((List α)))
 | (v, data1) =>
  if (decide (0 ≤ v)) = true then
   (siftDown data1 v (w64 (b - a)) a cmp).bind fun r =>
   some (.nx ((w64 (v - 1)), r))
  else
   some (.dn data1)
noncomputable def heapSort_L2 {α : Type} (a : Int) (cmp : α → α → Option (Int)) : Int × (List α) → Option (Lp (Int × (List α)) ((List α)))
 | (v1, data3) =>
  if (decide (0 ≤ v1)) = true then
   (idx data3 (w64 (a + v1))).bind fun e4 =>
   (idx data3 a).bind fun e5 =>
   (idx data3 a).bind fun e6 =>
   (idx (data3.set a.toNat e4) (w64 (a + v1))).bind fun e7 =>
   (siftDown ((data3.set a.toNat e4).set (w64 (a + v1)).toNat e5) 0 v1 a cmp).bind fun r1 =>
   some (.nx ((w64 (v1 - 1)), r1))
  else
   some (.dn data3)
noncomputable def heapSort {α : Type} (data : List α) (a : Int) (b : Int) (cmp : α → α → Option (Int)) : Option ((List α)) :=
 (chk ((2 : Int) ≠ 0)).bind fun u =>
 (iter (heapSort_L1 a b cmp) ((w64 ((w64 ((w64 (b - a)) - 1)).tdiv 2)), data)).bind fun (data2 : List α) =>
 iter (heapSort_L2 a cmp) ((w64 ((w64 (b - a)) - 1)), data2)
noncomputable def order2 {α : Type} (data : List α) (a : Int) (b : Int) (swaps : Int) (cmp : α → α → Option (Int)) : Option (Int × Int × Int) :=
 (idx data b).bind fun e2 =>
 (idx data a).bind fun e3 =>
 (cmp e2 e3).bind fun r1 =>
 if (decide (r1 < 0)) = true then
  some (b, a, (w64 (swaps + 1)))
 else
  some (a, b, swaps)
noncomputable def median {α : Type} (data : List α) (a : Int) (b : Int) (c : Int) (swaps : Int) (cmp : α → α → Option (Int)) : Option (Int × Int) :=
 (order2 data a b swaps cmp).bind fun r =>
 (order2 data r.2.1 c r.2.2 cmp).bind fun r1 =>
 (order2 data r.1 r1.1 r1.2.2 cmp).bind fun r2 =>
 some (r2.2.1, r2.2.2)
noncomputable def medianAdjacent {α : Type} (data : List α) (a : Int) (swaps : Int) (cmp : α → α → Option (Int)) : Option (Int × Int) :=
 (median data (w64 (a - 1)) a (w64 (a + 1)) swaps cmp).bind fun r =>
 some (r.1, r.2)
noncomputable def choosePivot {α : Type} (data : List α) (a : Int) (b : Int) (cmp : α → α → Option (Int)) : Option (Int × Int) :=
 (chk ((4 : Int) ≠ 0)).bind fun u =>
 (chk ((4 : Int) ≠ 0)).bind fun u1 =>
 (chk ((4 : Int) ≠ 0)).bind fun u2 =>
 (if (decide (8 ≤ (w64 (b - a)))) = true then
  (if (decide (50 ≤ (w64 (b - a)))) = true then
   (medianAdjacent data (w64 (a + (w64 ((w64 ((w64 (b - a)).tdiv 4)) * 1)))) 0 cmp).bind fun r =>
   (medianAdjacent data (w64 (a + (w64 ((w64 ((w64 (b - a)).tdiv 4)) * 2)))) r.2 cmp).bind fun r1 =>
   (medianAdjacent data (w64 (a + (w64 ((w64 ((w64 (b - a)).tdiv 4)) * 3)))) r1.2 cmp).bind fun r2 =>
   some (r.1, r1.1, r2.1, r2.2)
  else
   some ((w64 (a + (w64 ((w64 ((w64 (b - a)).tdiv 4)) * 1)))), (w64 (a + (w64 ((w64 ((w64 (b - a)).tdiv 4)) * 2)))), (w64 (a + (w64 ((w64 ((w64 (b - a)).tdiv 4)) * 3)))), (0 : Int))).bind fun ((v2, v3, v4, v5) : Int × Int × Int × Int) =>
  (median data v2 v3 v4 v5 cmp).bind fun r3 =>
  some (r3.1, r3.2)
 else
  some ((w64 (a + (w64 ((w64 ((w64 (b - a)).tdiv 4)) * 2)))), (0 : Int))).bind fun ((v, v1) : Int × Int) =>
 if (v1 == 0) = true then
  some (v, 1)
 else
  if (v1 == 12) = true then
   some (v, 2)
  else
   some (v, 0)
noncomputable def reverseRange_L1 {α : Type} : Int × Int × (List α) → Option (Lp (Int × Int × (List α)) ((List α)))
 | (v, v1, data1) =>
  if (decide (v < v1)) = true then
   (idx data1 v1).bind fun e4 =>
   (idx data1 v).bind fun e5 =>
   (idx data1 v).bind fun e6 =>
   (idx (data1.set v.toNat e4) v1).bind fun e7 =>
   some (.nx ((w64 (v + 1)), (w64 (v1 - 1)), ((data1.set v.toNat e4).set v1.toNat e5)))
  else
   some (.dn data1)
noncomputable def reverseRange {α : Type} (data : List α) (a : Int) (b : Int) (cmp : α → α → Option (Int)) : Option ((List α)) :=
 iter (reverseRange_L1) (a, (w64 (b - 1)), data)
noncomputable def partialInsertionSort_L1 {α : Type} (b : Int) (cmp : α → α → Option (Int)) (data1 : List α) : Int → Option (Lp (Int) (Int))
 | v3 =>
  (if (decide (v3 < b)) = true then (idx data1 v3).bind fun e2 =>
  (idx data1 (w64 (v3 - 1))).bind fun e3 =>
  (cmp e2 e3).bind fun r1 =>
  some (!(decide (r1 < 0))) else some false).bind fun (v4 : Bool) =>
  if v4 = true then
   some (.nx (w64 (v3 + 1)))
  else
   some (.dn v3)
noncomputable def partialInsertionSort_L2 {α : Type} (cmp : α → α → Option (Int)) : Int × (List α) → Option (Lp (Int × (List α)) ((List α)))
 | (v6, data4) =>
  if (decide (1 ≤ v6)) = true then
   (idx data4 v6).bind fun e18 =>
   (idx data4 (w64 (v6 - 1))).bind fun e19 =>
   (cmp e18 e19).bind fun r7 =>
   if (!(decide (r7 < 0))) = true then
    some (.dn data4)
   else
    (idx data4 (w64 (v6 - 1))).bind fun e24 =>
    (idx data4 v6).bind fun e25 =>
    (idx data4 v6).bind fun e26 =>
    (idx (data4.set v6.toNat e24) (w64 (v6 - 1))).bind fun e27 =>
    some (.nx ((w64 (v6 - 1)), ((data4.set v6.toNat e24).set (w64 (v6 - 1)).toNat e25)))
  else
   some (.dn data4)
noncomputable def partialInsertionSort_L3 {α : Type} (b : Int) (cmp : α → α → Option (Int)) : Int × (List α) → Option (Lp (Int × (List α)) ((List α)))
 | (v7, data6) =>
  if (decide (v7 < b)) = true then
   (idx data6 v7).bind fun e30 =>
   (idx data6 (w64 (v7 - 1))).bind fun e31 =>
   (cmp e30 e31).bind fun r9 =>
   if (!(decide (r9 < 0))) = true then
    some (.dn data6)
   else
    (idx data6 (w64 (v7 - 1))).bind fun e36 =>
    (idx data6 v7).bind fun e37 =>
    (idx data6 v7).bind fun e38 =>
    (idx (data6.set v7.toNat e36) (w64 (v7 - 1))).bind fun e39 =>
    some (.nx ((w64 (v7 + 1)), ((data6.set v7.toNat e36).set (w64 (v7 - 1)).toNat e37)))
  else
   some (.dn data6)
noncomputable def partialInsertionSort_L4 {α : Type} (a : Int) (b : Int) (cmp : α → α → Option (Int)) : Int × Int × (List α) → Option (Lp (Int × Int × (List α)) (Fl (Bool × (List α)) ((List α))))
 | (v, v1, data1) =>
  if (decide (v1 < 5)) = true then
   flb ((iter (partialInsertionSort_L1 b cmp data1) v).bind fun (v5 : Int) =>
   if (v5 == b) = true then
    some (.ret (.dn (.ret (true, data1))))
   else
    if (decide ((w64 (b - a)) < 50)) = true then
     some (.ret (.dn (.ret (false, data1))))
    else
     (idx data1 (w64 (v5 - 1))).bind fun e12 =>
     (idx data1 v5).bind fun e13 =>
     (idx data1 v5).bind fun e14 =>
     (idx (data1.set v5.toNat e12) (w64 (v5 - 1))).bind fun e15 =>
     (if (decide (2 ≤ (w64 (v5 - a)))) = true then
      (iter (partialInsertionSort_L2 cmp) ((w64 (v5 - 1)), ((data1.set v5.toNat e12).set (w64 (v5 - 1)).toNat e13))).bind fun (data5 : List α) =>
      some data5
     else
      some ((data1.set v5.toNat e12).set (w64 (v5 - 1)).toNat e13)).bind fun (data3 : List α) =>
     if (decide (2 ≤ (w64 (b - v5)))) = true then
      (iter (partialInsertionSort_L3 b cmp) ((w64 (v5 + 1)), data3)).bind fun (data7 : List α) =>
      some (.go (v5, data7))
     else
      some (.go (v5, data3))) fun ((v2, data2) : Int × (List α)) =>
   some (.nx (v2, (w64 (v1 + 1)), data2))
  else
   some (.dn (.go data1))
noncomputable def partialInsertionSort {α : Type} (data : List α) (a : Int) (b : Int) (cmp : α → α → Option (Int)) : Option (Bool × (List α)) :=
 flb (iter (partialInsertionSort_L4 a b cmp) ((w64 (a + 1)), (0 : Int), data)) fun (data8 : List α) =>
 some (false, data8)
noncomputable def partitionEqual_L1 {α : Type} (a : Int) (cmp : α → α → Option (Int)) (v1 : Int) (data1 : List α) : Int → Option (Lp (Int) (Int))
 | v2 =>
  (if (decide (v2 ≤ v1)) = true then (idx data1 a).bind fun e10 =>
  (idx data1 v2).bind fun e11 =>
  (cmp e10 e11).bind fun r1 =>
  some (!(decide (r1 < 0))) else some false).bind fun (v3 : Bool) =>
  if v3 = true then
   some (.nx (w64 (v2 + 1)))
  else
   some (.dn v2)
noncomputable def partitionEqual_L2 {α : Type} (a : Int) (cmp : α → α → Option (Int)) (data1 : List α) (v4 : Int) : Int → Option (Lp (Int) (Int))
 | v5 =>
  (if (decide (v4 ≤ v5)) = true then (idx data1 a).bind fun e14 =>
  (idx data1 v5).bind fun e15 =>
  (cmp e14 e15).bind fun r3 =>
  some (decide (r3 < 0)) else some false).bind fun (v6 : Bool) =>
  if v6 = true then
   some (.nx (w64 (v5 - 1)))
  else
   some (.dn v5)
noncomputable def partitionEqual_L3 {α : Type} (a : Int) (cmp : α → α → Option (Int)) : Int × Int × (List α) → Option (Lp (Int × Int × (List α)) (Int × (List α)))
 | (v, v1, data1) =>
  (iter (partitionEqual_L1 a cmp v1 data1) v).bind fun (v4 : Int) =>
  (iter (partitionEqual_L2 a cmp data1 v4) v1).bind fun (v7 : Int) =>
  if (decide (v7 < v4)) = true then
   some (.dn (v4, data1))
  else
   (idx data1 v7).bind fun e20 =>
   (idx data1 v4).bind fun e21 =>
   (idx data1 v4).bind fun e22 =>
   (idx (data1.set v4.toNat e20) v7).bind fun e23 =>
   some (.nx ((w64 (v4 + 1)), (w64 (v7 - 1)), ((data1.set v4.toNat e20).set v7.toNat e21)))
noncomputable def partitionEqual {α : Type} (data : List α) (a : Int) (b : Int) (pivot : Int) (cmp : α → α → Option (Int)) : Option (Int × (List α)) :=
 (idx data pivot).bind fun e4 =>
 (idx data a).bind fun e5 =>
 (idx data a).bind fun e6 =>
 (idx (data.set a.toNat e4) pivot).bind fun e7 =>
 (iter (partitionEqual_L3 a cmp) ((w64 (a + 1)), (w64 (b - 1)), ((data.set a.toNat e4).set pivot.toNat e5))).bind fun ((v8, data2) : Int × (List α)) =>
 some (v8, data2)
noncomputable def partition_L1 {α : Type} (data : List α) (a : Int) (b : Int) (pivot : Int) (cmp : α → α → Option (Int)) (e4 : α) (e5 : α) : Int → Option (Lp (Int) (Int))
 | v =>
  (if (decide (v ≤ (w64 (b - 1)))) = true then (idx ((data.set a.toNat e4).set pivot.toNat e5) v).bind fun e10 =>
  (idx ((data.set a.toNat e4).set pivot.toNat e5) a).bind fun e11 =>
  (cmp e10 e11).bind fun r1 =>
  some (decide (r1 < 0)) else some false).bind fun (v1 : Bool) =>
  if v1 = true then
   some (.nx (w64 (v + 1)))
  else
   some (.dn v)
noncomputable def partition_L2 {α : Type} (data : List α) (a : Int) (pivot : Int) (cmp : α → α → Option (Int)) (e4 : α) (e5 : α) (v2 : Int) : Int → Option (Lp (Int) (Int))
 | v3 =>
  (if (decide (v2 ≤ v3)) = true then (idx ((data.set a.toNat e4).set pivot.toNat e5) v3).bind fun e14 =>
  (idx ((data.set a.toNat e4).set pivot.toNat e5) a).bind fun e15 =>
  (cmp e14 e15).bind fun r3 =>
  some (!(decide (r3 < 0))) else some false).bind fun (v4 : Bool) =>
  if v4 = true then
   some (.nx (w64 (v3 - 1)))
  else
   some (.dn v3)
noncomputable def partition_L3 {α : Type} (a : Int) (cmp : α → α → Option (Int)) (v7 : Int) (data1 : List α) : Int → Option (Lp (Int) (Int))
 | v8 =>
  (if (decide (v8 ≤ v7)) = true then (idx data1 v8).bind fun e34 =>
  (idx data1 a).bind fun e35 =>
  (cmp e34 e35).bind fun r5 =>
  some (decide (r5 < 0)) else some false).bind fun (v9 : Bool) =>
  if v9 = true then
   some (.nx (w64 (v8 + 1)))
  else
   some (.dn v8)
noncomputable def partition_L4 {α : Type} (a : Int) (cmp : α → α → Option (Int)) (data1 : List α) (v10 : Int) : Int → Option (Lp (Int) (Int))
 | v11 =>
  (if (decide (v10 ≤ v11)) = true then (idx data1 v11).bind fun e38 =>
  (idx data1 a).bind fun e39 =>
  (cmp e38 e39).bind fun r7 =>
  some (!(decide (r7 < 0))) else some false).bind fun (v12 : Bool) =>
  if v12 = true then
   some (.nx (w64 (v11 - 1)))
  else
   some (.dn v11)
noncomputable def partition_L5 {α : Type} (a : Int) (cmp : α → α → Option (Int)) : Int × Int × (List α) → Option (Lp (Int × Int × (List α)) (Int × (List α)))
 | (v6, v7, data1) =>
  (iter (partition_L3 a cmp v7 data1) v6).bind fun (v10 : Int) =>
  (iter (partition_L4 a cmp data1 v10) v7).bind fun (v13 : Int) =>
  if (decide (v13 < v10)) = true then
   some (.dn (v13, data1))
  else
   (idx data1 v13).bind fun e44 =>
   (idx data1 v10).bind fun e45 =>
   (idx data1 v10).bind fun e46 =>
   (idx (data1.set v10.toNat e44) v13).bind fun e47 =>
   some (.nx ((w64 (v10 + 1)), (w64 (v13 - 1)), ((data1.set v10.toNat e44).set v13.toNat e45)))
noncomputable def partition {α : Type} (data : List α) (a : Int) (b : Int) (pivot : Int) (cmp : α → α → Option (Int)) : Option (Int × Bool × (List α)) :=
 (idx data pivot).bind fun e4 =>
 (idx data a).bind fun e5 =>
 (idx data a).bind fun e6 =>
 (idx (data.set a.toNat e4) pivot).bind fun e7 =>
 (iter (partition_L1 data a b pivot cmp e4 e5) (w64 (a + 1))).bind fun (v2 : Int) =>
 (iter (partition_L2 data a pivot cmp e4 e5 v2) (w64 (b - 1))).bind fun (v5 : Int) =>
 if (decide (v5 < v2)) = true then
  (idx ((data.set a.toNat e4).set pivot.toNat e5) a).bind fun e20 =>
  (idx ((data.set a.toNat e4).set pivot.toNat e5) v5).bind fun e21 =>
  (idx ((data.set a.toNat e4).set pivot.toNat e5) v5).bind fun e22 =>
  (idx (((data.set a.toNat e4).set pivot.toNat e5).set v5.toNat e20) a).bind fun e23 =>
  some (v5, true, ((((data.set a.toNat e4).set pivot.toNat e5).set v5.toNat e20).set a.toNat e21))
 else
  (idx ((data.set a.toNat e4).set pivot.toNat e5) v5).bind fun e28 =>
  (idx ((data.set a.toNat e4).set pivot.toNat e5) v2).bind fun e29 =>
  (idx ((data.set a.toNat e4).set pivot.toNat e5) v2).bind fun e30 =>
  (idx (((data.set a.toNat e4).set pivot.toNat e5).set v2.toNat e28) v5).bind fun e31 =>
  (iter (partition_L5 a cmp) ((w64 (v2 + 1)), (w64 (v5 - 1)), ((((data.set a.toNat e4).set pivot.toNat e5).set v2.toNat e28).set v5.toNat e29))).bind fun ((v14, data2) : Int × (List α)) =>
  (idx data2 a).bind fun e52 =>
  (idx data2 v14).bind fun e53 =>
  (idx data2 v14).bind fun e54 =>
  (idx (data2.set v14.toNat e52) a).bind fun e55 =>
  some (v14, false, ((data2.set v14.toNat e52).set a.toNat e53))
noncomputable def breakPatterns_L1 {α : Type} (nxt : IK .u64 → Option (IK .u64 × IK .u64)) (a : Int) (b : Int) (r : (IK .u64)) : Int × (List α) × Int → Option (Lp (Int × (List α) × Int) ((List α)))
 | (v, data1, v1) =>
  (chk ((4 : Int) ≠ 0)).bind fun u1 =>
  if (decide (v ≤ (w64 ((w64 (a + (w64 ((w64 ((w64 (b - a)).tdiv 4)) * 2)))) + 1)))) = true then
   (nxt (⟨v1⟩ : IK .u64)).bind fun r1 =>
   (if (decide ((w64 (b - a)) ≤ (w64 ((IntKind.u64.wrap ((BitVec.ofInt (IntKind.u64).bits r1.1.v &&& BitVec.ofInt (IntKind.u64).bits (IntKind.u64.wrap (r.v - 1))).toNat : Int)))))) = true then
    some (w64 ((w64 ((IntKind.u64.wrap ((BitVec.ofInt (IntKind.u64).bits r1.1.v &&& BitVec.ofInt (IntKind.u64).bits (IntKind.u64.wrap (r.v - 1))).toNat : Int)))) - (w64 (b - a))))
   else
    some (w64 ((IntKind.u64.wrap ((BitVec.ofInt (IntKind.u64).bits r1.1.v &&& BitVec.ofInt (IntKind.u64).bits (IntKind.u64.wrap (r.v - 1))).toNat : Int))))).bind fun (v2 : Int) =>
   (idx data1 (w64 (a + v2))).bind fun e4 =>
   (idx data1 v).bind fun e5 =>
   (idx data1 v).bind fun e6 =>
   (idx (data1.set v.toNat e4) (w64 (a + v2))).bind fun e7 =>
   some (.nx ((w64 (v + 1)), ((data1.set v.toNat e4).set (w64 (a + v2)).toNat e5), r1.2.v))
  else
   some (.dn data1)
noncomputable def breakPatterns {α : Type} (npo : Int → Option (IK .u64)) (nxt : IK .u64 → Option (IK .u64 × IK .u64)) (data : List α) (a : Int) (b : Int) (cmp : α → α → Option (Int)) : Option ((List α)) :=
 if (decide (8 ≤ (w64 (b - a)))) = true then
  (npo (w64 (b - a))).bind fun r =>
  (chk ((4 : Int) ≠ 0)).bind fun u =>
  iter (breakPatterns_L1 nxt a b r) ((w64 ((w64 (a + (w64 ((w64 ((w64 (b - a)).tdiv 4)) * 2)))) - 1)), data, (IntKind.u64.wrap ((w64 (b - a)))))
 else
  some data
noncomputable def pdq_L1 {α : Type} (npo : Int → Option (IK .u64)) (nxt : IK .u64 → Option (IK .u64 × IK .u64)) (cmp : α → α → Option Int) (rec_ : (List α) → Int → Int → Int → Option ((List α))) : Int × Int × Int × Bool × Bool × (List α) → Option (Lp (Int × Int × Int × Bool × Bool × (List α)) ((List α)))
 | (a1, b1, limit1, mid, mid1, data1) =>
  if (decide ((w64 (b1 - a1)) ≤ 12)) = true then
   (insertionSort data1 a1 b1 cmp).bind fun r =>
   some (.dn r)
  else
   if (limit1 == 0) = true then
    (heapSort data1 a1 b1 cmp).bind fun r2 =>
    some (.dn r2)
   else
    (if (!mid) = true then
     (breakPatterns npo nxt data1 a1 b1 cmp).bind fun r4 =>
     some ((w64 (limit1 - 1)), r4)
    else
     some (limit1, data1)).bind fun ((limit2, data2) : Int × (List α)) =>
    (choosePivot data2 a1 b1 cmp).bind fun r5 =>
    (if (r5.2 == 2) = true then
     (reverseRange data2 a1 b1 cmp).bind fun r6 =>
     some ((w64 ((w64 (b1 - 1)) - (w64 (r5.1 - a1)))), (1 : Int), r6)
    else
     some (r5.1, r5.2, data2)).bind fun ((leftLen, rightLen, data3) : Int × Int × (List α)) =>
    flb ((if mid = true then if mid1 = true then some (rightLen == 1) else some false else some false).bind fun (v : Bool) =>
    if v = true then
     (partialInsertionSort data3 a1 b1 cmp).bind fun r7 =>
     if r7.1 = true then
      some (.ret (.dn r7.2))
     else
      some (.go r7.2)
    else
     some (.go data3)) fun (data4 : List α) =>
    (if (decide (0 < a1)) = true then (idx data4 (w64 (a1 - 1))).bind fun e6 =>
    (idx data4 leftLen).bind fun e7 =>
    (cmp e6 e7).bind fun r11 =>
    some (!(decide (r11 < 0))) else some false).bind fun (v1 : Bool) =>
    if v1 = true then
     (partitionEqual data4 a1 b1 leftLen cmp).bind fun r12 =>
     some (.nx (r12.1, b1, limit2, mid, mid1, r12.2))
    else
     (partition data4 a1 b1 leftLen cmp).bind fun r13 =>
     (chk ((8 : Int) ≠ 0)).bind fun u =>
     if (decide ((w64 (r13.1 - a1)) < (w64 (b1 - r13.1)))) = true then
      (rec_ r13.2.2 a1 r13.1 limit2).bind fun r14 =>
      some (.nx ((w64 (r13.1 + 1)), b1, limit2, (decide ((w64 ((w64 (b1 - a1)).tdiv 8)) ≤ (w64 (r13.1 - a1)))), r13.2.1, r14))
     else
      (rec_ r13.2.2 (w64 (r13.1 + 1)) b1 limit2).bind fun r15 =>
      some (.nx (a1, r13.1, limit2, (decide ((w64 ((w64 (b1 - a1)).tdiv 8)) ≤ (w64 (b1 - r13.1)))), r13.2.1, r15))
noncomputable def pdq_F {α : Type} (npo : Int → Option (IK .u64)) (nxt : IK .u64 → Option (IK .u64 × IK .u64)) (cmp : α → α → Option Int) (rec_ : (List α) → Int → Int → Int → Option ((List α))) (data : List α) (a : Int) (b : Int) (limit : Int) : Option ((List α)) :=
 iter (pdq_L1 npo nxt cmp rec_) (a, b, limit, true, true, data)
noncomputable def pdq_k {α : Type} (npo : Int → Option (IK .u64)) (nxt : IK .u64 → Option (IK .u64 × IK .u64)) (cmp : α → α → Option Int) : Nat → (List α) → Int → Int → Int → Option ((List α))
 | 0 => fun _ _ _ _ => none
 | n + 1 => pdq_F npo nxt cmp (pdq_k npo nxt cmp n)
noncomputable def pdq {α : Type} (npo : Int → Option (IK .u64)) (nxt : IK .u64 → Option (IK .u64 × IK .u64)) (cmp : α → α → Option Int) (data : List α) (a : Int) (b : Int) (limit : Int) : Option ((List α)) := pdq_k npo nxt cmp 4294967296 data a b limit
end Go.Ab.Pdq
namespace Go.Ab.Pdq
set_option linter.unusedVariables false
set_option linter.unusedSimpArgs false
set_option linter.unusedVariables false
variable {α β : Type}
def At (l : List α) (i : Int) (x : α) : Prop := 0 ≤ i ∧ l[i.toNat]? = some x
theorem At.lt {l : List α} {i : Int} {x : α} (h : At l i x) : i < l.length := by
 have := get_lt h.2; have := h.1; omega
theorem At.uniq {l : List α} {i : Int} {x y : α} (h : At l i x) (h' : At l i y) : x = y := by
 have := h.2.symm.trans h'.2; cases this; rfl
theorem At.ex {l : List α} {i : Int} (h0 : 0 ≤ i) (h : i < l.length) : ∃ x, At l i x := by
 obtain ⟨x, hx⟩ := get_ex (l := l) (i := i.toNat) (by omega); exact ⟨x, h0, hx⟩
theorem At.mem {l : List α} {i : Int} {x : α} (h : At l i x) : x ∈ l := List.mem_of_getElem? h.2
def swp (l : List α) (i j : Int) (x y : α) : List α := (l.set i.toNat y).set j.toNat x
theorem At.swp {l : List α} {i j : Int} {x y : α} (hi : At l i x) (hj : At l j y) {k : Int} {z : α} (h : At (swp l i j x y) k z) :
  (k = j ∧ z = x) ∨ (k ≠ j ∧ k = i ∧ z = y) ∨ (k ≠ i ∧ k ≠ j ∧ At l k z) := by
 obtain ⟨h0, h⟩ := h
 have li := hi.lt; have lj := hj.lt; have i0 := hi.1; have j0 := hj.1
 unfold Pdq.swp at h
 by_cases e1 : k = j
 ·subst e1
  rw [List.getElem?_set_self (by simp; omega)] at h
  cases h; exact .inl ⟨rfl, rfl⟩
 ·rw [List.getElem?_set_ne (by omega)] at h
  by_cases e2 : k = i
  ·subst e2
   rw [List.getElem?_set_self (by omega)] at h
   cases h; exact .inr (.inl ⟨e1, rfl, rfl⟩)
  ·rw [List.getElem?_set_ne (by omega)] at h
   exact .inr (.inr ⟨e2, e1, h0, h⟩)
theorem swp_out {l : List α} {i j : Int} {x y : α} (hi : 0 ≤ i) (hj : 0 ≤ j) {k : Int} {z : α} (h1 : k ≠ i) (h2 : k ≠ j) : At (swp l i j x y) k z ↔ At l k z := by
 unfold At swp
 constructor
 ·rintro ⟨a, b⟩
  rw [List.getElem?_set_ne (by omega), List.getElem?_set_ne (by omega)] at b
  exact ⟨a, b⟩
 ·rintro ⟨a, b⟩
  refine ⟨a, ?_⟩
  rw [List.getElem?_set_ne (by omega), List.getElem?_set_ne (by omega)]; exact b
theorem At.swp1 {l : List α} {i j : Int} {x y : α} (hi : At l i x) (hj : At l j y) : At (Pdq.swp l i j x y) i y := by
 refine ⟨hi.1, ?_⟩
 unfold Pdq.swp
 have li := hi.lt; have i0 := hi.1; have j0 := hj.1
 by_cases e : i = j
 ·subst e
  rw [List.getElem?_set_self (by simp; omega)]; rw [hi.uniq hj]
 ·rw [List.getElem?_set_ne (by omega), List.getElem?_set_self (by omega)]
structure R (a b : Int) (l l' : List α) : Prop where
 perm : l'.Perm l
 out : ∀ i x, i < a ∨ b ≤ i → (At l' i x ↔ At l i x)
 inn : ∀ i x, a ≤ i → i < b → At l' i x → ∃ j, a ≤ j ∧ j < b ∧ At l j x
theorem R.len {a b : Int} {l l' : List α} (h : R a b l l') : l'.length = l.length := h.perm.length_eq
theorem R.refl {a b : Int} {l : List α} : R a b l l := ⟨.refl _, fun _ _ _ => .rfl, fun i x h1 h2 h => ⟨i, h1, h2, h⟩⟩
theorem R.trans {a b : Int} {l l' l'' : List α} (h : R a b l l') (h' : R a b l' l'') : R a b l l'' := by
 refine ⟨h'.perm.trans h.perm, fun i x hi => (h'.out i x hi).trans (h.out i x hi), fun i x h1 h2 hx => ?_⟩
 obtain ⟨j, g1, g2, g3⟩ := h'.inn i x h1 h2 hx
 exact h.inn j x g1 g2 g3
theorem R.wide {a b a' b' : Int} {l l' : List α} (h : R a b l l') (ha : a' ≤ a) (hb : b ≤ b') : R a' b' l l' := by
 refine ⟨h.perm, fun i x hi => h.out i x (by omega), fun i x h1 h2 hx => ?_⟩
 by_cases hc : i < a ∨ b ≤ i
 ·exact ⟨i, h1, h2, (h.out i x hc).1 hx⟩
 ·obtain ⟨j, g1, g2, g3⟩ := h.inn i x (by omega) (by omega) hx
  exact ⟨j, by omega, by omega, g3⟩
theorem R.swp {a b i j : Int} {l : List α} {x y : α} (hi : At l i x) (hj : At l j y) (h1 : a ≤ i) (h2 : i < b) (h3 : a ≤ j) (h4 : j < b) : R a b l (Pdq.swp l i j x y) := by
 have li := hi.lt; have lj := hj.lt; have i0 := hi.1; have j0 := hj.1
 refine ⟨?_, fun k z hk => swp_out i0 j0 (by omega) (by omega), fun k z g1 g2 hz => ?_⟩
 ·have e1 := hi.2; have e2 := hj.2
  obtain ⟨b1, e1⟩ := List.getElem?_eq_some_iff.1 e1
  obtain ⟨b2, e2⟩ := List.getElem?_eq_some_iff.1 e2
  have := List.set_set_perm (as := l) b1 b2
  rw [e1, e2] at this
  exact this
 ·rcases hi.swp hj hz with ⟨rfl, rfl⟩ | ⟨_, rfl, rfl⟩ | ⟨_, _, h⟩
  ·exact ⟨i, h1, h2, hi⟩
  ·exact ⟨j, h3, h4, hj⟩
  ·exact ⟨k, g1, g2, h⟩
structure Lt (cmp : α → α → Option Int) (le : α → α → Prop) : Prop where
 tot : ∀ x y, le x y ∨ le y x
 trans : ∀ {x y z}, le x y → le y z → le x z
 hc : ∀ x y, ∃ c, cmp x y = some c ∧ (c < 0 ↔ ¬ le y x)
def Srt (le : α → α → Prop) (l : List α) (a b : Int) : Prop := ∀ i j x y, a ≤ i → i < j → j < b → At l i x → At l j y → le x y
section
variable {cmp : α → α → Option Int} {le : α → α → Prop} (h : Lt cmp le)
theorem Tot.idxA {l : List α} {i : Int} {k : α → Option β} {Q : β → Prop} (h0 : 0 ≤ i) (h : i < l.length) (hk : ∀ x, At l i x → Tot (k x) Q) : Tot ((Ab.idx l i).bind k) Q := .idx h0 h fun x hx => hk x ⟨h0, hx⟩
include h
theorem Lt.refl (x : α) : le x x := by rcases h.tot x x with h | h <;> exact h
theorem Lt.not {x y : α} (hn : ¬ le y x) : le x y := by
 rcases h.tot x y with h1 | h1
 ·exact h1
 ·exact absurd h1 hn
theorem Tot.cm {x y : α} {k : Int → Option β} {Q : β → Prop} (hk : ∀ c, (c < 0 ↔ ¬ le y x) → Tot (k c) Q) : Tot ((cmp x y).bind k) Q := by
 obtain ⟨c, h1, h2⟩ := h.hc x y
 exact .eq h1 (hk c h2)
theorem condLt {c : Prop} [Decidable c] {l : List α} {i j : Int} (hi : c → 0 ≤ i ∧ i < l.length) (hj : c → 0 ≤ j ∧ j < l.length) :
  Tot (if decide c = true then (idx l i).bind fun e2 => (idx l j).bind fun e3 => (cmp e2 e3).bind fun r1 => some (decide (r1 < 0)) else some false)
   fun b => (b = true → c ∧ ∃ x y, At l i x ∧ At l j y ∧ ¬ le y x) ∧ (b = false → c → ∃ x y, At l i x ∧ At l j y ∧ le y x) := by
 refine .iteP (fun hc => ?_) (fun hc => .ok ⟨fun e => (by cases e), fun _ h => absurd h hc⟩)
 refine Tot.idxA (hi hc).1 (hi hc).2 fun x hx => Tot.idxA (hj hc).1 (hj hc).2 fun y hy => Tot.cm h fun r hr => .ok ⟨fun e => ⟨hc, x, y, hx, hy, hr.1 (of_decide_eq_true e)⟩, fun e _ => ⟨x, y, hx, hy, ?_⟩⟩
 have := of_decide_eq_false e
 rw [hr] at this
 exact Classical.not_not.1 this
theorem condGe {c : Prop} [Decidable c] {l : List α} {i j : Int} (hi : c → 0 ≤ i ∧ i < l.length) (hj : c → 0 ≤ j ∧ j < l.length) :
  Tot (if decide c = true then (idx l i).bind fun e2 => (idx l j).bind fun e3 => (cmp e2 e3).bind fun r1 => some (!(decide (r1 < 0))) else some false)
   fun b => (b = true → c ∧ ∃ x y, At l i x ∧ At l j y ∧ le y x) ∧ (b = false → c → ∃ x y, At l i x ∧ At l j y ∧ ¬ le y x) := by
 refine .iteP (fun hc => ?_) (fun hc => .ok ⟨fun e => (by cases e), fun _ h => absurd h hc⟩)
 refine Tot.idxA (hi hc).1 (hi hc).2 fun x hx => Tot.idxA (hj hc).1 (hj hc).2 fun y hy => Tot.cm h fun r hr => .ok ⟨fun e => ⟨hc, x, y, hx, hy, ?_⟩, fun e _ => ⟨x, y, hx, hy, ?_⟩⟩
 ·have := of_decide_eq_false ((Bool.not_eq_true' _).mp e)
  rw [hr] at this
  exact Classical.not_not.1 this
 ·exact hr.1 (of_decide_eq_true (by simpa using e))
omit h in
theorem Tot.swap {l : List α} {i j : Int} {k : α → α → Option β} {Q : β → Prop} (hi : 0 ≤ i ∧ i < l.length) (hj : 0 ≤ j ∧ j < l.length) (hk : ∀ x y, At l i x → At l j y → Tot (k y x) Q) :
  Tot ((idx l j).bind fun e4 => (idx l i).bind fun e5 => (idx l i).bind fun _ => (idx (l.set i.toNat e4) j).bind fun _ => k e4 e5) Q :=
 Tot.idxA hj.1 hj.2 fun y hy => Tot.idxA hi.1 hi.2 fun x hx => Tot.idxA hi.1 hi.2 fun _ _ => Tot.idxA hj.1 (by simp; omega) fun _ _ => hk x y hx hy

theorem ins1 {a v : Int} {l0 : List α} (ha : 0 ≤ a) (hv : a ≤ v) (hl : v < l0.length) (hlen : l0.length ≤ 4294967296) (hs : Srt le l0 a v) :
  Tot (iter (insertionSort_L1 a cmp) (v, l0)) fun l => R a (v + 1) l0 l ∧ Srt le l a (v + 1) := by
 refine Tot.iter (fun m s => s.1 = a + m ∧ s.1 ≤ v ∧ R a (v + 1) l0 s.2 ∧ ∀ i j x y, a ≤ i → i < j → j ≤ v → j ≠ s.1 → At s.2 i x → At s.2 j y → le x y) (n := (v - a).toNat) ⟨by dsimp only; omega, by dsimp only; omega, R.refl, fun i j x y h1 h2 h3 h4 hx hy => hs i j x y h1 h2 (by dsimp only at h4; omega) hx hy⟩ ?_
 rintro m ⟨v1, l⟩ ⟨h1, h2, h3, h4⟩
 dsimp only at h1 h2 h3 h4
 have hll := h3.len
 unfold insertionSort_L1
 dsimp only
 simp (disch := omega) only [w64_id]
 refine Tot.call (condLt h (fun _ => by omega) (fun _ => by omega)) fun b hb => .ite (fun e => ?_) (fun e => .dn ⟨h3, ?_⟩)
 ·obtain ⟨hc, p, q, hp, hq, hlt⟩ := hb.1 e
  refine Tot.swap (by omega) (by omega) fun x y hx hy => .nx ?_
  cases hx.uniq hp; cases hy.uniq hq
  refine ⟨m - 1, by omega, by dsimp only; omega, by dsimp only; omega, h3.trans (.swp hx hy (by omega) (by omega) (by omega) (by omega)), ?_⟩
  have hle := h.not hlt
  intro i j u z g1 g2 g3 g4 hu hz
  dsimp only at g4 hu hz
  rcases hx.swp hy hu with ⟨rfl, rfl⟩ | ⟨_, rfl, rfl⟩ | ⟨i1, i2, hu'⟩ <;> rcases hx.swp hy hz with ⟨rfl, rfl⟩ | ⟨_, rfl, rfl⟩ | ⟨j1, j2, hz'⟩
  all_goals first | (exfalso; omega) | exact hle | exact h4 _ _ _ _ (by omega) (by omega) (by omega) (by omega) hu' hz' | exact h4 _ _ _ _ (by omega) (by omega) (by omega) (by omega) hx hz' | exact h4 _ _ _ _ (by omega) (by omega) (by omega) (by omega) hy hz' | exact h4 _ _ _ _ (by omega) (by omega) (by omega) (by omega) hu' hy | exact h4 _ _ _ _ (by omega) (by omega) (by omega) (by omega) hu' hx
 ·intro i j u z g1 g2 g3 hu hz
  by_cases hj : j = v1
  ·subst hj
   obtain ⟨x, y, hx, hy, hle⟩ := hb.2 e (by omega)
   cases hz.uniq hx
   by_cases hi : i = j - 1
   ·subst hi; cases hu.uniq hy; exact hle
   ·exact h.trans (h4 i (j - 1) _ _ g1 (by omega) (by omega) (by omega) hu hy) hle
  ·exact h4 i j _ _ g1 g2 (by omega) hj hu hz
theorem insertion {a b : Int} {l0 : List α} (ha : 0 ≤ a) (hab : a ≤ b) (hl : b ≤ l0.length) (hlen : l0.length ≤ 4294967296) :
  Tot (insertionSort l0 a b cmp) fun l => R a b l0 l ∧ Srt le l a b := by
 unfold insertionSort
 simp (disch := omega) only [w64_id]
 refine Tot.iter (fun m s => s.1 + m = max b (a + 1) ∧ a + 1 ≤ s.1 ∧ R a b l0 s.2 ∧ Srt le s.2 a s.1) (n := (b - (a + 1)).toNat) ⟨by dsimp only; omega, by dsimp only; omega, R.refl, fun i j x y g1 g2 g3 _ _ => by dsimp only at g3; omega⟩ ?_
 rintro m ⟨v, l⟩ ⟨h1, h2, h3, h4⟩
 dsimp only at h1 h2 h3 h4
 have hll := h3.len
 unfold insertionSort_L2
 dsimp only
 refine .iteP (fun hc => ?_) (fun hc => .dn ⟨h3, fun i j x y g1 g2 g3 => h4 i j x y g1 g2 (by omega)⟩)
 refine Tot.call (ins1 h ha (by omega) (by omega) (by omega) h4) fun l' hl' => ?_
 simp (disch := omega) only [w64_id]
 exact .nx ⟨m - 1, by omega, by dsimp only; omega, by dsimp only; omega, h3.trans (hl'.1.wide (by omega) (by omega)), hl'.2⟩
end
end Go.Ab.Pdq
namespace Go.Ab.Pdq
set_option linter.unusedVariables false
set_option linter.unusedSimpArgs false
set_option linter.unusedVariables false
variable {α β : Type}
def Hp (le : α → α → Prop) (l : List α) (f lo hi r : Int) : Prop := ∀ i c x y, lo ≤ i → i ≠ r → (c = 2 * i + 1 ∨ c = 2 * i + 2) → c < hi → At l (f + i) x → At l (f + c) y → le y x
def Gp (le : α → α → Prop) (l : List α) (f lo hi r : Int) : Prop := ∀ p c x y, lo ≤ p → (r = 2 * p + 1 ∨ r = 2 * p + 2) → (c = 2 * r + 1 ∨ c = 2 * r + 2) → c < hi → At l (f + p) x → At l (f + c) y → le y x
section
variable {cmp : α → α → Option Int} {le : α → α → Prop} (h : Lt cmp le)
include h
theorem sift {f lo hi r : Int} {l0 : List α} (hf : 0 ≤ f) (hlo : 0 ≤ lo) (hr : lo ≤ r) (hr2 : r ≤ 4294967296) (hl : f + hi ≤ l0.length) (hhi : 0 ≤ hi) (hlen : l0.length ≤ 4294967296) (h1 : Hp le l0 f lo hi r) (h2 : Gp le l0 f lo hi r) :
  Tot (siftDown l0 r hi f cmp) fun l => R f (f + hi) l0 l ∧ Hp le l f lo hi (-1) := by
 unfold siftDown
 refine Tot.iter (fun m s => m = (hi - s.1).toNat ∧ lo ≤ s.1 ∧ s.1 ≤ 4294967296 ∧ R f (f + hi) l0 s.2 ∧ Hp le s.2 f lo hi s.1 ∧ Gp le s.2 f lo hi s.1) (n := (hi - r).toNat) ⟨rfl, hr, hr2, R.refl, h1, h2⟩ ?_
 rintro m ⟨v, l⟩ ⟨g1, g2, g2', g3, g4, g5⟩
 dsimp only at g1 g2 g2' g3 g4 g5
 have hll := g3.len
 unfold siftDown_L1
 dsimp only
 simp (disch := omega) only [w64_id]
 refine .iteP (fun hc => .dn ⟨g3, fun i c x y k1 k2 k3 k4 hx hy => ?_⟩) (fun hc => ?_)
 ·refine g4 i c x y k1 (fun e => ?_) k3 k4 hx hy
  omega
 refine Tot.call (P := fun (c : Int) => (c = 2 * v + 1 ∨ c = 2 * v + 2) ∧ c < hi ∧ ∀ c' x y, (c' = 2 * v + 1 ∨ c' = 2 * v + 2) → c' < hi → At l (f + c') x → At l (f + c) y → le x y) ?_ fun c hcc => ?_
 ·refine Tot.call (condLt h (fun _ => by omega) (fun _ => by omega)) fun b hb => .ite (fun e => ?_) (fun e => ?_)
  ·obtain ⟨hc2, p, q, hp, hq, hlt⟩ := hb.1 e
   refine .ok ⟨.inr (by omega), by omega, fun c' x y e1 e2 hx hy => ?_⟩
   rw [show f + (2 * v + 1) + 1 = f + (2 * v + 1 + 1) by omega] at hq
   cases hy.uniq hq
   rcases e1 with rfl | rfl
   ·cases hx.uniq hp; exact h.not hlt
   ·rw [show f + (2 * v + 2) = f + (2 * v + 1 + 1) by omega] at hx
    cases hx.uniq hq; exact h.refl _
  ·refine .ok ⟨.inl rfl, by omega, fun c' x y e1 e2 hx hy => ?_⟩
   rcases e1 with rfl | rfl
   ·cases hx.uniq hy; exact h.refl _
   ·obtain ⟨p, q, hp, hq, hle⟩ := hb.2 e (by omega)
    rw [show f + (2 * v + 1) + 1 = f + (2 * v + 2) by omega] at hq
    cases hx.uniq hq; cases hy.uniq hp; exact hle
 ·obtain ⟨c1, c2, c3⟩ := hcc
  simp (disch := omega) only [w64_id]
  refine Tot.idxA (by omega) (by omega) fun x hx => Tot.idxA (by omega) (by omega) fun y hy => Tot.cm h fun r4 hr4 => .iteN (fun hn => .dn ⟨g3, fun i c' u z k1 k2 k3 k4 hu hz => ?_⟩) (fun hn => ?_)
  ·rw [hr4] at hn
   have hle := Classical.not_not.1 hn
   by_cases hi : i = v
   ·subst hi
    cases hu.uniq hx
    exact h.trans (c3 c' _ _ k3 k4 hz hy) hle
   ·exact g4 i c' u z k1 hi k3 k4 hu hz
  ·have hlt := h.not (hr4.1 hn)
   refine Tot.swap (by omega) (by omega) fun x' y' hx' hy' => .nx ?_
   cases hx.uniq hx'; cases hy.uniq hy'
   refine ⟨(hi - c).toNat, by omega, rfl, by dsimp only; omega, by dsimp only; omega, g3.trans (.swp hx hy (by omega) (by omega) (by omega) (by omega)), ?_, ?_⟩
   ·intro i c' u z k1 k2 k3 k4 hu hz
    dsimp only at k2 hu hz
    by_cases e0 : i = v
    ·subst e0
     cases hu.uniq (hx.swp1 hy)
     rcases hx.swp hy hz with ⟨e1, rfl⟩ | ⟨_, e1, rfl⟩ | ⟨_, _, hz'⟩
     ·exact hlt
     ·omega
     ·exact c3 c' _ _ k3 k4 hz' hy
    ·rcases hx.swp hy hu with ⟨e1, rfl⟩ | ⟨_, e1, rfl⟩ | ⟨_, _, hu'⟩
     ·omega
     ·omega
     ·rcases hx.swp hy hz with ⟨e1, rfl⟩ | ⟨_, e1, rfl⟩ | ⟨_, _, hz'⟩
      ·omega
      ·exact g5 i c u _ k1 (by omega) c1 c2 hu' hy
      ·exact g4 i c' u z k1 e0 k3 k4 hu' hz'
   ·intro p c' u z k1 k2 k3 k4 hu hz
    dsimp only at k2 k3 hu hz
    have e0 : p = v := by omega
    subst e0
    cases hu.uniq (hx.swp1 hy)
    rcases hx.swp hy hz with ⟨e1, rfl⟩ | ⟨_, e1, rfl⟩ | ⟨_, _, hz'⟩
    ·omega
    ·omega
    ·exact g4 c c' _ _ (by omega) (by omega) k3 k4 hy hz'
theorem heap_root {f hi : Int} {l : List α} (hf : 0 ≤ f) (hh : Hp le l f 0 hi (-1)) (hl : f + hi ≤ l.length) : ∀ (n : Nat) (j : Int) (x y : α), j = n → j < hi → At l f x → At l (f + j) y → le y x := by
 intro n
 induction n using Nat.strongRecOn with
 | _ n ih =>
  intro j x y e1 e2 hx hy
  by_cases h0 : j = 0
  ·subst h0
   rw [Int.add_zero] at hy
   cases hx.uniq hy; exact h.refl _
  ·obtain ⟨z, hz⟩ := At.ex (l := l) (i := f + (j - 1) / 2) (by omega) (by omega)
   exact h.trans (hh ((j - 1) / 2) j z y (by omega) (by omega) (by omega) e2 hz hy) (ih ((j - 1) / 2).toNat (by omega) ((j - 1) / 2) x z (by omega) (by omega) hx hz)
theorem heap {a b : Int} {l0 : List α} (ha : 0 ≤ a) (hab : a < b) (hl : b ≤ l0.length) (hlen : l0.length ≤ 4294967296) :
  Tot (heapSort l0 a b cmp) fun l => R a b l0 l ∧ Srt le l a b := by
 unfold heapSort
 refine Tot.chk (by decide) ?_
 simp (disch := omega) only [w64_id]
 have htd : (b - a - 1).tdiv 2 = (b - a - 1) / 2 := Int.tdiv_eq_ediv_of_nonneg (by omega)
 rw [htd]
 simp (disch := omega) only [w64_id]
 refine Tot.call (P := fun l => R a b l0 l ∧ Hp le l a 0 (b - a) (-1)) ?_ fun l1 hl1 => ?_
 ·refine Tot.iter (fun m s => s.1 + 1 = (m : Int) ∧ s.1 ≤ 4294967295 ∧ R a b l0 s.2 ∧ Hp le s.2 a (s.1 + 1) (b - a) (-1)) (n := ((b - a - 1) / 2 + 1).toNat) ⟨by dsimp only; omega, by dsimp only; omega, R.refl, fun i c x y k1 k2 k3 k4 _ _ => by dsimp only at k1; omega⟩ ?_
  rintro m ⟨v, l⟩ ⟨g1, g2, g3, g4⟩
  dsimp only at g1 g2 g3 g4
  have hll := g3.len
  unfold heapSort_L1
  dsimp only
  simp (disch := omega) only [w64_id]
  refine .iteP (fun hc => ?_) (fun hc => .dn ⟨g3, ?_⟩)
  ·refine Tot.call (sift h ha hc (Int.le_refl v) (by omega) (by omega) (by omega) (by omega) (fun i c x y k1 k2 k3 k4 hx hy => g4 i c x y (by omega) (by omega) k3 k4 hx hy) (fun p c x y k1 k2 => by omega)) fun l' hl' => ?_
   refine .nx ⟨m - 1, by omega, by dsimp only; omega, by dsimp only; omega, g3.trans (hl'.1.wide (by omega) (by omega)), ?_⟩
   dsimp only
   rw [show v - 1 + 1 = v by omega]
   exact hl'.2
  ·rw [show v + 1 = 0 by omega] at g4
   exact g4
 ·refine Tot.iter (fun m s => s.1 + 1 = (m : Int) ∧ s.1 < b - a ∧ R a b l0 s.2 ∧ Hp le s.2 a 0 (s.1 + 1) (-1) ∧ ∀ i j x y, a ≤ i → i < j → a + s.1 < j → j < b → At s.2 i x → At s.2 j y → le x y) (n := (b - a).toNat) ⟨by dsimp only; omega, by dsimp only; omega, hl1.1, ?_, fun i j x y k1 k2 k3 k4 _ _ => by dsimp only at k3; omega⟩ ?_
  ·dsimp only
   rw [show b - a - 1 + 1 = b - a by omega]
   exact hl1.2
  rintro m ⟨v, l⟩ ⟨g1, g2, g3, g4, g5⟩
  dsimp only at g1 g2 g3 g4 g5
  have hll := g3.len
  unfold heapSort_L2
  dsimp only
  simp (disch := omega) only [w64_id]
  refine .iteP (fun hc => ?_) (fun hc => .dn ⟨g3, fun i j x y k1 k2 k3 hx hy => g5 i j x y k1 k2 (by omega) k3 hx hy⟩)
  refine Tot.swap (by omega) (by omega) fun x y hx hy => ?_
  have hw := R.swp hx hy (a := a) (b := b) (by omega) (by omega) (by omega) (by omega)
  have hwl := hw.len
  have root : ∀ j z, a ≤ j → j ≤ a + v → At l j z → le z x := fun j z k1 k2 hz => heap_root h ha g4 (by omega) (j - a).toNat (j - a) x z (by omega) (by omega) hx (by rw [show a + (j - a) = j by omega]; exact hz)
  have D : ∀ i j u z, a ≤ i → i < j → a + v ≤ j → j < b → At (swp l a (a + v) x y) i u → At (swp l a (a + v) x y) j z → le u z := by
   intro i j u z k1 k2 k3 k4 hu hz
   rcases hx.swp hy hz with ⟨e1, rfl⟩ | ⟨_, e1, rfl⟩ | ⟨_, _, hz'⟩
   ·rcases hx.swp hy hu with ⟨e2, rfl⟩ | ⟨_, e2, rfl⟩ | ⟨_, _, hu'⟩
    ·omega
    ·exact root _ _ (by omega) (by omega) hy
    ·exact root _ _ (by omega) (by omega) hu'
   ·omega
   ·rcases hx.swp hy hu with ⟨e2, rfl⟩ | ⟨_, e2, rfl⟩ | ⟨_, _, hu'⟩
    ·exact g5 a j _ _ (by omega) (by omega) (by omega) k4 hx hz'
    ·exact g5 (a + v) j _ _ (by omega) (by omega) (by omega) k4 hy hz'
    ·exact g5 i j _ _ k1 k2 (by omega) k4 hu' hz'
  refine Tot.call (sift h (f := a) (lo := 0) (hi := v) (r := 0) (l0 := swp l a (a + v) x y) ha (by omega) (by omega) (by omega) (by omega) (by omega) (by omega) ?_ ?_) fun l' hl' => ?_
  ·intro i c u z k1 k2 k3 k4 hu hz
   rw [swp_out (by omega) (by omega) (by omega) (by omega)] at hu hz
   exact g4 i c u z k1 (by omega) k3 (by omega) hu hz
  ·intro p c u z k1 k2; omega
  ·refine .nx ⟨m - 1, by omega, by dsimp only; omega, by dsimp only; omega, (g3.trans hw).trans (hl'.1.wide (by omega) (by omega)), ?_, ?_⟩
   ·dsimp only
    rw [show v - 1 + 1 = v by omega]
    exact hl'.2
   ·intro i j u z k1 k2 k3 k4 hu hz
    dsimp only at k3 hu hz
    rw [hl'.1.out j z (by omega)] at hz
    by_cases hi : i < a + v
    ·obtain ⟨i', e1, e2, hu'⟩ := hl'.1.inn i u k1 hi hu
     exact D i' j u z e1 (by omega) (by omega) k4 hu' hz
    ·rw [hl'.1.out i u (by omega)] at hu
     exact D i j u z k1 k2 (by omega) k4 hu hz
end
end Go.Ab.Pdq
namespace Go.Ab.Pdq
set_option linter.unusedVariables false
set_option linter.unusedSimpArgs false
set_option linter.unusedVariables false
variable {α β : Type}
section
variable {cmp : α → α → Option Int} {le : α → α → Prop} (h : Lt cmp le)
include h
theorem order2_ok {l : List α} {a b s : Int} (ha : 0 ≤ a ∧ a < l.length) (hb : 0 ≤ b ∧ b < l.length) : Tot (order2 l a b s cmp) fun r => (r.1 = a ∧ r.2.1 = b) ∨ (r.1 = b ∧ r.2.1 = a) := by
 unfold order2
 exact Tot.idxA hb.1 hb.2 fun x _ => Tot.idxA ha.1 ha.2 fun y _ => Tot.cm h fun c _ => .iteP (fun _ => .ok (.inr ⟨rfl, rfl⟩)) (fun _ => .ok (.inl ⟨rfl, rfl⟩))
theorem median_ok {l : List α} {lo hi a b c s : Int} (h0 : 0 ≤ lo) (hl : hi ≤ l.length) (ha : lo ≤ a ∧ a < hi) (hb : lo ≤ b ∧ b < hi) (hc : lo ≤ c ∧ c < hi) : Tot (median l a b c s cmp) fun r => lo ≤ r.1 ∧ r.1 < hi := by
 unfold median
 refine Tot.call (order2_ok h (by omega) (by omega)) fun r hr => ?_
 refine Tot.call (order2_ok h (by omega) (by omega)) fun r1 hr1 => ?_
 refine Tot.call (order2_ok h (by omega) (by omega)) fun r2 hr2 => ?_
 exact .ok (by dsimp only; omega)
theorem madj_ok {l : List α} {lo hi a s : Int} (h0 : 0 ≤ lo) (hl : hi ≤ l.length) (hlen : l.length ≤ 4294967296) (ha : lo < a ∧ a + 1 < hi) : Tot (medianAdjacent l a s cmp) fun r => lo ≤ r.1 ∧ r.1 < hi := by
 unfold medianAdjacent
 simp (disch := omega) only [w64_id]
 exact Tot.call (median_ok h h0 hl (by omega) (by omega) (by omega)) fun r hr => .ok hr
theorem choose_ok {l : List α} {a b : Int} (h0 : 0 ≤ a) (hab : 8 ≤ b - a) (hl : b ≤ l.length) (hlen : l.length ≤ 4294967296) : Tot (choosePivot l a b cmp) fun r => a ≤ r.1 ∧ r.1 < b := by
 unfold choosePivot
 refine Tot.chk (by decide) (Tot.chk (by decide) (Tot.chk (by decide) ?_))
 have e : w64 (b - a) = b - a := w64_id (by omega)
 have e2 : (b - a).tdiv 4 = (b - a) / 4 := Int.tdiv_eq_ediv_of_nonneg (by omega)
 rw [e, e2]
 simp (disch := omega) only [w64_id]
 refine Tot.call (P := fun (r : Int × Int) => a ≤ r.1 ∧ r.1 < b) (.iteP (fun _ => ?_) (fun hn => absurd hab hn)) fun r hr => ?_
 ·refine Tot.call (P := fun (r : Int × Int × Int × Int) => (a ≤ r.1 ∧ r.1 < b) ∧ (a ≤ r.2.1 ∧ r.2.1 < b) ∧ (a ≤ r.2.2.1 ∧ r.2.2.1 < b)) (.iteP (fun _ => ?_) (fun hn => .ok (by dsimp only; omega))) fun ⟨v2, v3, v4, v5⟩ hv => ?_
  ·refine Tot.call (madj_ok h h0 hl hlen (by omega)) fun r hr => Tot.call (madj_ok h h0 hl hlen (by omega)) fun r1 hr1 => Tot.call (madj_ok h h0 hl hlen (by omega)) fun r2 hr2 => .ok ⟨hr, hr1, hr2⟩
  ·exact Tot.call (median_ok h h0 hl hv.1 hv.2.1 hv.2.2) fun r hr => .ok hr
 ·obtain ⟨v, v1⟩ := r
  exact .ite (fun _ => .ok hr) (fun _ => .ite (fun _ => .ok hr) (fun _ => .ok hr))
omit h in
theorem rev_ok {l0 : List α} {a b : Int} (h0 : 0 ≤ a) (hab : a ≤ b) (hl : b ≤ l0.length) (hlen : l0.length ≤ 4294967296) : Tot (reverseRange l0 a b cmp) fun l => R a b l0 l := by
 unfold reverseRange
 simp (disch := omega) only [w64_id]
 refine Tot.iter (fun m s => m = (s.2.1 + 1 - s.1).toNat ∧ a ≤ s.1 ∧ s.1 ≤ s.2.1 + 2 ∧ s.2.1 < b ∧ R a b l0 s.2.2) (n := (b - 1 + 1 - a).toNat) ⟨rfl, by dsimp only; omega, by dsimp only; omega, by dsimp only; omega, R.refl⟩ ?_
 rintro m ⟨i, j, l⟩ ⟨g1, g2, g2', g3, g4⟩
 dsimp only at g1 g2 g2' g3 g4
 have hll := g4.len
 unfold reverseRange_L1
 dsimp only
 refine .iteP (fun hc => ?_) (fun hc => .dn g4)
 simp (disch := omega) only [w64_id]
 exact Tot.swap (by omega) (by omega) fun x y hx hy => .nx ⟨(j - 1 + 1 - (i + 1)).toNat, by omega, rfl, by dsimp only; omega, by dsimp only; omega, by dsimp only; omega, g4.trans (.swp hx hy (by omega) (by omega) (by omega) (by omega))⟩
omit h in
theorem mask_lt {x m : Int} (h1 : 1 ≤ m) (h2 : m ≤ 8589934592) : 0 ≤ w64 (IntKind.u64.wrap ((BitVec.ofInt (IntKind.u64).bits x &&& BitVec.ofInt (IntKind.u64).bits (IntKind.u64.wrap (m - 1))).toNat : Int)) ∧
  w64 (IntKind.u64.wrap ((BitVec.ofInt (IntKind.u64).bits x &&& BitVec.ofInt (IntKind.u64).bits (IntKind.u64.wrap (m - 1))).toNat : Int)) < m := by
 have hw : ∀ z : Int, 0 ≤ z → z < 18446744073709551616 → IntKind.u64.wrap z = z := fun z a b => by
  show z % 18446744073709551616 = z
  exact Int.emod_eq_of_lt a b
 rw [hw (m - 1) (by omega) (by omega)]
 have hb : (BitVec.ofInt (IntKind.u64).bits (m - 1)).toNat = (m - 1).toNat := by
  show (BitVec.ofInt 64 (m - 1)).toNat = _
  rw [BitVec.toNat_ofInt]
  have : (m - 1) % ((2 ^ 64 : Nat) : Int) = m - 1 := Int.emod_eq_of_lt (by omega) (by omega)
  rw [this]
 have hand : (BitVec.ofInt (IntKind.u64).bits x &&& BitVec.ofInt (IntKind.u64).bits (m - 1)).toNat ≤ (m - 1).toNat := by
  rw [BitVec.toNat_and, hb]; exact Nat.and_le_right
 rw [hw _ (by omega) (by omega), w64_id (by omega)]
 omega
structure Hlp (npo : Int → Option (IK .u64)) (nxt : IK .u64 → Option (IK .u64 × IK .u64)) : Prop where
 npo : ∀ n, 8 ≤ n → n ≤ 4294967296 → Tot (npo n) fun m => 1 ≤ m.v ∧ m.v ≤ 2 * n
 nxt : ∀ x, Tot (nxt x) fun _ => True
omit h in
theorem break_ok {npo : Int → Option (IK .u64)} {nxt : IK .u64 → Option (IK .u64 × IK .u64)} (hp : Hlp npo nxt) {l0 : List α} {a b : Int} (h0 : 0 ≤ a) (hab : a ≤ b) (hl : b ≤ l0.length) (hlen : l0.length ≤ 4294967296) :
  Tot (breakPatterns npo nxt l0 a b cmp) fun l => R a b l0 l := by
 unfold breakPatterns
 have e : w64 (b - a) = b - a := w64_id (by omega)
 have e2 : (b - a).tdiv 4 = (b - a) / 4 := Int.tdiv_eq_ediv_of_nonneg (by omega)
 rw [e, e2]
 refine .iteP (fun hc => ?_) (fun _ => .ok R.refl)
 refine Tot.call (hp.npo _ hc (by omega)) fun r hr => Tot.chk (by decide) ?_
 simp (disch := omega) only [w64_id]
 refine Tot.iter (fun m s => m = (a + (b - a) / 4 * 2 + 2 - s.1).toNat ∧ a ≤ s.1 ∧ s.1 ≤ b ∧ R a b l0 s.2.1) (n := (a + (b - a) / 4 * 2 + 2 - (a + (b - a) / 4 * 2 - 1)).toNat) ⟨rfl, by dsimp only; omega, by dsimp only; omega, R.refl⟩ ?_
 rintro m ⟨v, l, v1⟩ ⟨g1, g2, g2', g3⟩
 dsimp only at g1 g2 g2' g3
 have hll := g3.len
 unfold breakPatterns_L1
 dsimp only
 rw [e, e2]
 refine Tot.chk (by decide) ?_
 simp (disch := omega) only [w64_id]
 refine .iteP (fun hc2 => ?_) (fun _ => .dn g3)
 refine Tot.call (hp.nxt _) fun r1 _ => ?_
 have hm := mask_lt (x := r1.1.v) (m := r.v) hr.1 (by omega)
 revert hm
 generalize w64 (IntKind.u64.wrap ((BitVec.ofInt (IntKind.u64).bits r1.1.v &&& BitVec.ofInt (IntKind.u64).bits (IntKind.u64.wrap (r.v - 1))).toNat : Int)) = o
 intro hm
 refine Tot.call (P := fun (o' : Int) => 0 ≤ o' ∧ o' < b - a) (.iteP (fun _ => ?_) (fun _ => .ok (by omega))) fun o' ho => ?_
 ·simp (disch := omega) only [w64_id]
  exact .ok (by omega)
 ·simp (disch := omega) only [w64_id]
  exact Tot.swap (by omega) (by omega) fun x y hx hy => .nx ⟨(a + (b - a) / 4 * 2 + 2 - (v + 1)).toNat, by omega, rfl, by dsimp only; omega, by dsimp only; omega, g3.trans (.swp hx hy (by omega) (by omega) (by omega) (by omega))⟩
end
end Go.Ab.Pdq
namespace Go.Ab.Pdq
set_option linter.unusedVariables false
set_option linter.unusedSimpArgs false
set_option linter.unusedVariables false
variable {α β : Type}
def Low (le : α → α → Prop) (l : List α) (a b : Int) : Prop := 0 < a → ∀ y k x, At l (a - 1) y → a ≤ k → k < b → At l k x → le y x
theorem Low.R {le : α → α → Prop} {l l' : List α} {a b : Int} (h : Low le l a b) (hr : R a b l l') : Low le l' a b := by
 intro h0 y k x hy h1 h2 hx
 obtain ⟨j, g1, g2, g3⟩ := hr.inn k x h1 h2 hx
 exact h h0 y j x ((hr.out _ _ (by omega)).1 hy) g1 g2 g3
theorem Srt.R {le : α → α → Prop} {l l' : List α} {a b c d : Int} (h : Srt le l a b) (hr : R c d l l') (hc : b ≤ c) : Srt le l' a b :=
 fun i j x y h1 h2 h3 hx hy => h i j x y h1 h2 h3 ((hr.out _ _ (by omega)).1 hx) ((hr.out _ _ (by omega)).1 hy)
theorem dn_ok {A B : Type} {b : B} {P : A → Prop} {Q : B → Prop} (h : Q b) : (∀ a', (Lp.dn b : Lp A B) = .nx a' → P a') ∧ ∀ b', (Lp.dn b : Lp A B) = .dn b' → Q b' := ⟨fun _ e => (by cases e), fun _ e => (by cases e; exact h)⟩
section
variable {cmp : α → α → Option Int} {le : α → α → Prop} (h : Lt cmp le)
include h
theorem Srt.ext {l : List α} {a v : Int} (hs : Srt le l a v) {x y : α} (hy : At l (v - 1) y) (hx : At l v x) (hle : le y x) : Srt le l a (v + 1) := by
 intro i j u z h1 h2 h3 hu hz
 by_cases hj : j = v
 ·subst hj
  cases hz.uniq hx
  by_cases hi : i = j - 1
  ·subst hi; cases hu.uniq hy; exact hle
  ·exact h.trans (hs i (j - 1) _ _ h1 (by omega) (by omega) hu hy) hle
 ·exact hs i j _ _ h1 h2 (by omega) hu hz
theorem pis1 {l : List α} {a b v : Int} (ha : 0 ≤ a) (h1 : a + 1 ≤ v) (h2 : v ≤ b) (hl : b ≤ l.length) (hlen : l.length ≤ 4294967296) (hs : Srt le l a v) :
  Tot (iter (partialInsertionSort_L1 b cmp l) v) fun v5 => v ≤ v5 ∧ v5 ≤ b ∧ Srt le l a v5 ∧ (v5 < b → ∃ x y, At l v5 x ∧ At l (v5 - 1) y ∧ ¬ le y x) := by
 refine Tot.iter (fun m s => m = (b - s).toNat ∧ v ≤ s ∧ s ≤ b ∧ Srt le l a s) (n := (b - v).toNat) ⟨rfl, by omega, h2, hs⟩ ?_
 rintro m s ⟨g1, g2, g3, g4⟩
 unfold partialInsertionSort_L1
 simp (disch := omega) only [w64_id]
 refine Tot.call (condGe h (fun _ => by omega) (fun _ => by omega)) fun c hc => .ite (fun e => ?_) (fun e => .dn ⟨g2, g3, g4, fun hb => hc.2 e hb⟩)
 obtain ⟨hb, x, y, hx, hy, hle⟩ := hc.1 e
 exact .nx ⟨(b - (s + 1)).toNat, by omega, rfl, by omega, by omega, Srt.ext h g4 hy hx hle⟩
theorem pis2 {l0 : List α} {a v : Int} (ha : 0 ≤ a) (h1 : a < v) (hl : v ≤ l0.length) (hlen : l0.length ≤ 4294967296) (hlow : Low le l0 a v) (hs : ∀ i j x y, a ≤ i → i < j → j < v → j ≠ v - 1 → At l0 i x → At l0 j y → le x y) :
  Tot (iter (partialInsertionSort_L2 cmp) (v - 1, l0)) fun l => R a v l0 l ∧ Srt le l a v := by
 refine Tot.iter (fun m s => s.1 = a + m ∧ s.1 < v ∧ R a v l0 s.2 ∧ ∀ i j x y, a ≤ i → i < j → j < v → j ≠ s.1 → At s.2 i x → At s.2 j y → le x y) (n := (v - 1 - a).toNat) ⟨by dsimp only; omega, by dsimp only; omega, R.refl, hs⟩ ?_
 rintro m ⟨v1, l⟩ ⟨h1, h2, h3, h4⟩
 dsimp only at h1 h2 h3 h4
 have hll := h3.len
 have hlw := hlow.R h3
 unfold partialInsertionSort_L2
 dsimp only
 refine .iteP (fun hc => ?_) (fun hc => .dn ⟨h3, fun i j x y k1 k2 k3 hx hy => h4 i j x y k1 k2 k3 (by omega) hx hy⟩)
 simp (disch := omega) only [w64_id]
 refine Tot.idxA (by omega) (by omega) fun p hp => Tot.idxA (by omega) (by omega) fun q hq => Tot.cm h fun r hr => .iteN (fun hn => .dn ⟨h3, fun i j u z g1 g2 g3 hu hz => ?_⟩) (fun hn => ?_)
 ·rw [hr] at hn
  have hle := Classical.not_not.1 hn
  by_cases hj : j = v1
  ·subst hj
   cases hz.uniq hp
   by_cases hi : i = j - 1
   ·subst hi; cases hu.uniq hq; exact hle
   ·exact h.trans (h4 i (j - 1) _ _ g1 (by omega) (by omega) (by omega) hu hq) hle
  ·exact h4 i j _ _ g1 g2 (by omega) hj hu hz
 ·have hlt := hr.1 hn
  by_cases ha1 : v1 = a
  ·subst ha1
   exact absurd (hlw (by omega) _ v1 _ hq (by omega) (by omega) hp) hlt
  have hle := h.not hlt
  refine Tot.swap (by omega) (by omega) fun x y hx hy => .nx ?_
  cases hx.uniq hp; cases hy.uniq hq
  refine ⟨m - 1, by omega, by dsimp only; omega, by dsimp only; omega, h3.trans (.swp hx hy (by omega) (by omega) (by omega) (by omega)), ?_⟩
  intro i j u z g1 g2 g3 g4 hu hz
  dsimp only at g4 hu hz
  rcases hx.swp hy hu with ⟨rfl, rfl⟩ | ⟨_, rfl, rfl⟩ | ⟨i1, i2, hu'⟩ <;> rcases hx.swp hy hz with ⟨rfl, rfl⟩ | ⟨_, rfl, rfl⟩ | ⟨j1, j2, hz'⟩
  all_goals first | (exfalso; omega) | exact hle | exact h4 _ _ _ _ (by omega) (by omega) (by omega) (by omega) hu' hz' | exact h4 _ _ _ _ (by omega) (by omega) (by omega) (by omega) hx hz' | exact h4 _ _ _ _ (by omega) (by omega) (by omega) (by omega) hy hz' | exact h4 _ _ _ _ (by omega) (by omega) (by omega) (by omega) hu' hy | exact h4 _ _ _ _ (by omega) (by omega) (by omega) (by omega) hu' hx
theorem pis3 {l0 : List α} {v b : Int} (ha : 0 ≤ v) (h1 : v < b) (hl : b ≤ l0.length) (hlen : l0.length ≤ 4294967296) :
  Tot (iter (partialInsertionSort_L3 b cmp) (v + 1, l0)) fun l => R v b l0 l := by
 refine Tot.iter (fun m s => m = (b - s.1).toNat ∧ v < s.1 ∧ s.1 ≤ b ∧ R v b l0 s.2) (n := (b - (v + 1)).toNat) ⟨rfl, by dsimp only; omega, by dsimp only; omega, R.refl⟩ ?_
 rintro m ⟨v1, l⟩ ⟨h1, h2, h2', h3⟩
 dsimp only at h1 h2 h2' h3
 have hll := h3.len
 unfold partialInsertionSort_L3
 dsimp only
 refine .iteP (fun hc => ?_) (fun hc => .dn h3)
 simp (disch := omega) only [w64_id]
 refine Tot.idxA (by omega) (by omega) fun p hp => Tot.idxA (by omega) (by omega) fun q hq => Tot.cm h fun r hr => .iteN (fun hn => .dn h3) (fun hn => ?_)
 exact Tot.swap (by omega) (by omega) fun x y hx hy => .nx ⟨(b - (v1 + 1)).toNat, by omega, rfl, by dsimp only; omega, by dsimp only; omega, h3.trans (.swp hx hy (by omega) (by omega) (by omega) (by omega))⟩
theorem partial_ok {l0 : List α} {a b : Int} (ha : 0 ≤ a) (hab : a + 1 ≤ b) (hl : b ≤ l0.length) (hlen : l0.length ≤ 4294967296) (hlow : Low le l0 a b) :
  Tot (partialInsertionSort l0 a b cmp) fun r => R a b l0 r.2 ∧ (r.1 = true → Srt le r.2 a b) := by
 unfold partialInsertionSort
 refine Tot.flb ?_
 simp (disch := omega) only [w64_id]
 refine (Tot.iter (fun m s => m = (5 - s.2.1).toNat ∧ a + 1 ≤ s.1 ∧ s.1 ≤ b ∧ 0 ≤ s.2.1 ∧ R a b l0 s.2.2 ∧ Srt le s.2.2 a s.1) (Q := fun v => (∀ r : Bool × List α, v = .ret r → R a b l0 r.2 ∧ (r.1 = true → Srt le r.2 a b)) ∧ ∀ u, v = .go u → R a b l0 u) (n := 5) ⟨rfl, Int.le_refl _, hab, Int.le_refl _, R.refl, fun i j x y g1 g2 g3 _ _ => by dsimp only at g3; omega⟩ ?_).mono fun v hv => ⟨hv.1, fun u e => .ok ⟨hv.2 u e, fun e => by cases e⟩⟩
 rintro m ⟨v, v1, l⟩ ⟨g1, g2, g3, g4, g5, g6⟩
 dsimp only at g1 g2 g3 g4 g5 g6
 have hll := g5.len
 unfold partialInsertionSort_L4
 dsimp only
 refine .iteP (fun hc => ?_) (fun hc => .dn ⟨fun r e => (by cases e), fun u e => (by cases e; exact g5)⟩)
 refine Tot.flb (Tot.call (pis1 h ha g2 g3 (by omega) (by omega) g6) fun v5 ⟨k1, k2, k3, k4⟩ => .ite (fun e => .ret (dn_ok ⟨fun r e' => ?_, fun u e' => (by cases e')⟩)) (fun e => ?_))
 ·cases e'
  have : v5 = b := by simpa using e
  subst this
  exact ⟨g5, fun _ => k3⟩
 have hne : v5 < b := by
  have : v5 ≠ b := by simpa using e
  omega
 obtain ⟨x, y, hx, hy, hlt⟩ := k4 hne
 refine .iteP (fun _ => .ret (dn_ok ⟨fun r e' => ?_, fun u e' => (by cases e')⟩)) (fun _ => ?_)
 ·cases e'
  exact ⟨g5, fun e => by cases e⟩
 simp (disch := omega) only [w64_id]
 refine Tot.swap (by omega) (by omega) fun x' y' hx' hy' => ?_
 cases hx.uniq hx'; cases hy.uniq hy'
 have hw : R a b l (swp l v5 (v5 - 1) x y) := .swp hx hy (by omega) (by omega) (by omega) (by omega)
 have hwl := hw.len
 have hlow' := (hlow.R g5).R hw
 refine Tot.call (P := fun l3 => R a b l0 l3 ∧ Srt le l3 a v5) (.iteP (fun hc2 => ?_) (fun hc2 => .ok ⟨g5.trans hw, fun i j x y g1 g2 g3 _ _ => by omega⟩)) fun l3 hl3 => ?_
 ·refine Tot.call (pis2 h (l0 := swp l v5 (v5 - 1) x y) ha (by omega) (by omega) (by omega) (fun h0 z k u hz e1 e2 hu => hlow' h0 z k u hz e1 (by omega) hu) fun i j u z e1 e2 e3 e4 hu hz => ?_) fun l' hl' => .ok ⟨(g5.trans hw).trans (hl'.1.wide (by omega) (by omega)), hl'.2⟩
  rw [swp_out hx.1 hy.1 (by omega) (by omega)] at hu hz
  exact k3 i j u z e1 e2 e3 hu hz
 ·have h3l := hl3.1.len
  refine .iteP (fun hc2 => ?_) (fun hc2 => .go ?_)
  ·refine Tot.call (pis3 h (by omega) hne (by omega) (by omega)) fun l' hl' => .go ?_
   simp (disch := omega) only [w64_id]
   exact .nx ⟨(5 - (v1 + 1)).toNat, by omega, rfl, by dsimp only; omega, by dsimp only; omega, by dsimp only; omega, hl3.1.trans (hl'.wide (by omega) (by omega)), hl3.2.R hl' (by omega)⟩
  ·simp (disch := omega) only [w64_id]
   exact .nx ⟨(5 - (v1 + 1)).toNat, by omega, rfl, by dsimp only; omega, by dsimp only; omega, by dsimp only; omega, hl3.1, hl3.2⟩
theorem parteq_ok {l0 : List α} {a b pv : Int} (ha : 0 ≤ a) (h1 : a ≤ pv) (h2 : pv < b) (hl : b ≤ l0.length) (hlen : l0.length ≤ 4294967296) (hmin : ∀ p k x, At l0 pv p → a ≤ k → k < b → At l0 k x → le p x) :
  Tot (partitionEqual l0 a b pv cmp) fun r => a < r.1 ∧ r.1 ≤ b ∧ R a b l0 r.2 ∧ ∀ i j x y, a ≤ i → i < r.1 → a ≤ j → j < b → At r.2 i x → At r.2 j y → le x y := by
 unfold partitionEqual
 refine Tot.swap (i := a) (j := pv) (by omega) (by omega) fun x p hx hp => ?_
 have hw : R a b l0 (swp l0 a pv x p) := .swp hx hp (by omega) (by omega) (by omega) (by omega)
 have hap := hx.swp1 hp
 have hwl := hw.len
 simp (disch := omega) only [w64_id]
 refine Tot.call (P := fun (r : Int × List α) => a < r.1 ∧ r.1 ≤ b ∧ R a b l0 r.2 ∧ ∀ i x, a ≤ i → i < r.1 → At r.2 i x → le x p) ?_ fun ⟨mid, l⟩ hr => .ok ⟨hr.1, hr.2.1, hr.2.2.1, fun i j u z e1 e2 e3 e4 hu hz => h.trans (hr.2.2.2 i u e1 e2 hu) ?_⟩
 ·refine Tot.iter (fun m s => m = (s.2.1 + 1 - s.1).toNat ∧ a < s.1 ∧ s.1 ≤ s.2.1 + 1 ∧ s.2.1 < b ∧ R a b l0 s.2.2 ∧ At s.2.2 a p ∧ ∀ i x, a ≤ i → i < s.1 → At s.2.2 i x → le x p) (n := (b - 1 + 1 - (a + 1)).toNat) ⟨rfl, by dsimp only; omega, by dsimp only; omega, by dsimp only; omega, hw, hap, fun i u e1 e2 hu => ?_⟩ ?_
  ·dsimp only at e2 hu
   have : i = a := by omega
   subst this
   cases hu.uniq hap; exact h.refl _
  rintro m ⟨i, j, l⟩ ⟨g1, g2, g3, g4, g5, g6, g7⟩
  dsimp only at g1 g2 g3 g4 g5 g6 g7
  have hll := g5.len
  unfold partitionEqual_L3
  dsimp only
  refine Tot.call (P := fun (v4 : Int) => i ≤ v4 ∧ v4 ≤ j + 1 ∧ (∀ k x, a ≤ k → k < v4 → At l k x → le x p) ∧ (v4 ≤ j → ∀ x, At l v4 x → ¬ le x p)) ?_ fun v4 ⟨u1, u2, u3, u4⟩ => ?_
  ·refine Tot.iter (fun m s => m = (j + 1 - s).toNat ∧ i ≤ s ∧ s ≤ j + 1 ∧ ∀ k x, a ≤ k → k < s → At l k x → le x p) (n := (j + 1 - i).toNat) ⟨rfl, Int.le_refl _, g3, g7⟩ ?_
   rintro m s ⟨q1, q2, q3, q4⟩
   unfold partitionEqual_L1
   refine Tot.call (condGe h (fun _ => by omega) (fun _ => by omega)) fun c hc => .ite (fun e => ?_) (fun e => .dn ⟨q2, q3, q4, fun hj u hu => ?_⟩)
   ·obtain ⟨hj, u, z, hu, hz, hle⟩ := hc.1 e
    cases hu.uniq g6
    simp (disch := omega) only [w64_id]
    refine .nx ⟨(j + 1 - (s + 1)).toNat, by omega, rfl, by omega, by omega, fun k t e1 e2 ht => ?_⟩
    by_cases hk : k = s
    ·subst hk; cases ht.uniq hz; exact hle
    ·exact q4 k t e1 (by omega) ht
   ·obtain ⟨u', z, hu', hz, hle⟩ := hc.2 e hj
    cases hu'.uniq g6; cases hz.uniq hu; exact hle
  refine Tot.call (P := fun (v7 : Int) => v4 - 1 ≤ v7 ∧ v7 ≤ j ∧ (v4 ≤ v7 → ∀ x, At l v7 x → le x p)) ?_ fun v7 ⟨d1, d2, d3⟩ => ?_
  ·refine Tot.iter (fun m s => m = (s + 1 - v4).toNat ∧ v4 - 1 ≤ s ∧ s ≤ j) (n := (j + 1 - v4).toNat) ⟨rfl, by omega, Int.le_refl _⟩ ?_
   rintro m s ⟨q1, q2, q3⟩
   unfold partitionEqual_L2
   refine Tot.call (condLt h (fun _ => by omega) (fun _ => by omega)) fun c hc => .ite (fun e => ?_) (fun e => .dn ⟨q2, q3, fun hj u hu => ?_⟩)
   ·obtain ⟨hj, _⟩ := hc.1 e
    simp (disch := omega) only [w64_id]
    exact .nx ⟨(s - 1 + 1 - v4).toNat, by omega, rfl, by omega, by omega⟩
   ·obtain ⟨u', z, hu', hz, hle⟩ := hc.2 e hj
    cases hu'.uniq g6; cases hz.uniq hu; exact hle
  refine .iteP (fun hc => .dn ⟨by dsimp only; omega, by dsimp only; omega, g5, u3⟩) (fun hc => ?_)
  refine Tot.swap (i := v4) (j := v7) (by omega) (by omega) fun u z hu hz => ?_
  have hlt : v4 < v7 := by
   rcases Int.lt_or_le v4 v7 with h' | h'
   ·exact h'
   ·have : v4 = v7 := by omega
    subst this
    exact absurd (d3 (by omega) u hu) (u4 (by omega) u hu)
  simp (disch := omega) only [w64_id]
  refine .nx ⟨(v7 - 1 + 1 - (v4 + 1)).toNat, by omega, rfl, by dsimp only; omega, by dsimp only; omega, by dsimp only; omega, g5.trans (.swp hu hz (by omega) (by omega) (by omega) (by omega)), (swp_out hu.1 hz.1 (by omega) (by omega)).2 g6, fun k t e1 e2 ht => ?_⟩
  dsimp only at e2 ht
  rcases hu.swp hz ht with ⟨e, _⟩ | ⟨_, _, rfl⟩ | ⟨_, _, ht'⟩
  ·omega
  ·exact d3 (by omega) _ hz
  ·exact u3 k t e1 (by omega) ht'
 ·obtain ⟨k, q1, q2, hk⟩ := hr.2.2.1.inn j z e3 e4 hz
  exact hmin p k z hp q1 q2 hk
theorem part3 {l : List α} {a i j : Int} {p : α} (ha : 0 ≤ a) (hai : a < i) (hij : i ≤ j + 1) (hl : j < l.length) (hlen : l.length ≤ 4294967296) (hp : At l a p) (h0 : ∀ k x, a < k → k < i → At l k x → le x p) :
  Tot (iter (partition_L3 a cmp j l) i) fun v => i ≤ v ∧ v ≤ j + 1 ∧ (∀ k x, a < k → k < v → At l k x → le x p) ∧ (v ≤ j → ∀ x, At l v x → le p x) := by
 refine Tot.iter (fun m s => m = (j + 1 - s).toNat ∧ i ≤ s ∧ s ≤ j + 1 ∧ ∀ k x, a < k → k < s → At l k x → le x p) (n := (j + 1 - i).toNat) ⟨rfl, Int.le_refl _, hij, h0⟩ ?_
 rintro m s ⟨q1, q2, q3, q4⟩
 unfold partition_L3
 refine Tot.call (condLt h (fun _ => by omega) (fun _ => by have := hp.lt; omega)) fun c hc => .ite (fun e => ?_) (fun e => .dn ⟨q2, q3, q4, fun hj u hu => ?_⟩)
 ·obtain ⟨hj, u, z, hu, hz, hlt⟩ := hc.1 e
  cases hz.uniq hp
  simp (disch := omega) only [w64_id]
  refine .nx ⟨(j + 1 - (s + 1)).toNat, by omega, rfl, by omega, by omega, fun k t e1 e2 ht => ?_⟩
  by_cases hk : k = s
  ·subst hk; cases ht.uniq hu; exact h.not hlt
  ·exact q4 k t e1 (by omega) ht
 ·obtain ⟨u', z, hu', hz, hle⟩ := hc.2 e hj
  cases hu'.uniq hu; cases hz.uniq hp; exact hle
theorem part4 {l : List α} {a b i j : Int} {p : α} (ha : 0 ≤ a) (hai : a < i) (hij : i ≤ j + 1) (hl : j < l.length) (hlen : l.length ≤ 4294967296) (hp : At l a p) (h0 : ∀ k x, j < k → k < b → At l k x → le p x) :
  Tot (iter (partition_L4 a cmp l i) j) fun v => i - 1 ≤ v ∧ v ≤ j ∧ (∀ k x, v < k → k < b → At l k x → le p x) ∧ (i ≤ v → ∀ x, At l v x → ¬ le p x) := by
 refine Tot.iter (fun m s => m = (s + 1 - i).toNat ∧ i - 1 ≤ s ∧ s ≤ j ∧ ∀ k x, s < k → k < b → At l k x → le p x) (n := (j + 1 - i).toNat) ⟨rfl, by omega, Int.le_refl _, h0⟩ ?_
 rintro m s ⟨q1, q2, q3, q4⟩
 unfold partition_L4
 refine Tot.call (condGe h (fun _ => by omega) (fun _ => by have := hp.lt; omega)) fun c hc => .ite (fun e => ?_) (fun e => .dn ⟨q2, q3, q4, fun hj u hu => ?_⟩)
 ·obtain ⟨hj, u, z, hu, hz, hle⟩ := hc.1 e
  cases hz.uniq hp
  simp (disch := omega) only [w64_id]
  refine .nx ⟨(s - 1 + 1 - i).toNat, by omega, rfl, by omega, by omega, fun k t e1 e2 ht => ?_⟩
  by_cases hk : k = s
  ·subst hk; cases ht.uniq hu; exact hle
  ·exact q4 k t (by omega) e2 ht
 ·obtain ⟨u', z, hu', hz, hle⟩ := hc.2 e hj
  cases hu'.uniq hu; cases hz.uniq hp; exact hle
theorem part_ok {l0 : List α} {a b pv : Int} (ha : 0 ≤ a) (h1 : a ≤ pv) (h2 : pv < b) (hl : b ≤ l0.length) (hlen : l0.length ≤ 4294967296) :
  Tot (partition l0 a b pv cmp) fun r => a ≤ r.1 ∧ r.1 < b ∧ R a b l0 r.2.2 ∧ ∃ p, At r.2.2 r.1 p ∧ (∀ k x, a ≤ k → k < r.1 → At r.2.2 k x → le x p) ∧ ∀ k x, r.1 < k → k < b → At r.2.2 k x → le p x := by
 have fin : ∀ {l : List α} {v : Int} {x p : α}, R a b l0 l → a ≤ v → v < b → At l v x → At l a p → (∀ k x, a < k → k ≤ v → At l k x → le x p) → (∀ k x, v < k → k < b → At l k x → le p x) → R a b l0 (swp l v a x p) ∧ ∃ p', At (swp l v a x p) v p' ∧ (∀ k u, a ≤ k → k < v → At (swp l v a x p) k u → le u p') ∧ ∀ k u, v < k → k < b → At (swp l v a x p) k u → le p' u := by
  intro l v x p hr e1 e2 hx hp f1 f2
  refine ⟨hr.trans (.swp hx hp (by omega) (by omega) (by omega) (by omega)), p, hx.swp1 hp, fun k u k1 k2 hu => ?_, fun k u k1 k2 hu => ?_⟩
  ·rcases hx.swp hp hu with ⟨_, rfl⟩ | ⟨_, e, _⟩ | ⟨_, _, hu'⟩
   ·exact f1 v u (by omega) (Int.le_refl _) hx
   ·omega
   ·exact f1 k u (by omega) (by omega) hu'
  ·rcases hx.swp hp hu with ⟨_, rfl⟩ | ⟨_, e, _⟩ | ⟨_, _, hu'⟩
   ·omega
   ·omega
   ·exact f2 k u k1 k2 hu'
 unfold partition
 refine Tot.swap (i := a) (j := pv) (by omega) (by omega) fun x p hx hp => ?_
 have hw : R a b l0 (swp l0 a pv x p) := .swp hx hp (by omega) (by omega) (by omega) (by omega)
 have hap := hx.swp1 hp
 have hwl := hw.len
 have e1 : partition_L1 l0 a b pv cmp p x = partition_L3 a cmp (w64 (b - 1)) (swp l0 a pv x p) := rfl
 have e2 : ∀ v2, partition_L2 l0 a pv cmp p x v2 = partition_L4 a cmp (swp l0 a pv x p) v2 := fun _ => rfl
 have e3 : (l0.set a.toNat p).set pv.toNat x = swp l0 a pv x p := rfl
 simp only [e1, e2, e3]
 revert hw hap hwl
 generalize swp l0 a pv x p = D
 intro hw hap hwl
 simp (disch := omega) only [w64_id]
 refine Tot.call (part3 h ha (by omega) (by omega) (by omega) (by omega) hap fun k x k1 k2 _ => by omega) fun v2 ⟨u1, u2, u3, u4⟩ => ?_
 refine Tot.call (part4 h (b := b) ha (by omega) (by omega) (by omega) (by omega) hap fun k x k1 k2 _ => by omega) fun v5 ⟨d1, d2, d3, d4⟩ => ?_
 refine .iteP (fun hc => ?_) (fun hc => ?_)
 ·refine Tot.swap (i := v5) (j := a) (by omega) (by omega) fun u z hu hz => .ok ?_
  cases hz.uniq hap
  exact ⟨by dsimp only; omega, by dsimp only; omega, fin hw (by omega) (by omega) hu hap (fun k x k1 k2 => u3 k x k1 (by omega)) d3⟩
 ·refine Tot.swap (i := v2) (j := v5) (by omega) (by omega) fun u z hu hz => ?_
  have hlt : v2 < v5 := by
   rcases Int.lt_or_le v2 v5 with h' | h'
   ·exact h'
   ·have : v2 = v5 := by omega
    subst this
    exact absurd (u4 (by omega) u hu) (d4 (by omega) u hu)
  have step : ∀ {l : List α} {i j : Int} {u z : α}, a < i → i < j → j < b → At l i u → At l j z → (∀ k x, a < k → k < i → At l k x → le x p) → (∀ k x, j < k → k < b → At l k x → le p x) → le p u → le z p → (∀ k x, a < k → k < i + 1 → At (swp l i j u z) k x → le x p) ∧ ∀ k x, j - 1 < k → k < b → At (swp l i j u z) k x → le p x := by
   intro l i j u z k1 k2 k3 hu hz f1 f2 c1 c2
   refine ⟨fun k t e1 e2 ht => ?_, fun k t e1 e2 ht => ?_⟩
   ·rcases hu.swp hz ht with ⟨e, _⟩ | ⟨_, _, rfl⟩ | ⟨_, _, ht'⟩
    ·omega
    ·exact c2
    ·exact f1 k t e1 (by omega) ht'
   ·rcases hu.swp hz ht with ⟨_, rfl⟩ | ⟨_, e, _⟩ | ⟨_, _, ht'⟩
    ·exact c1
    ·omega
    ·exact f2 k t (by omega) e2 ht'
  have hs := step (by omega) hlt (by omega) hu hz u3 d3 (u4 (by omega) u hu) (h.not (d4 (by omega) z hz))
  refine Tot.call (P := fun (r : Int × List α) => a ≤ r.1 ∧ r.1 < b ∧ R a b l0 r.2 ∧ At r.2 a p ∧ (∀ k x, a < k → k ≤ r.1 → At r.2 k x → le x p) ∧ ∀ k x, r.1 < k → k < b → At r.2 k x → le p x) ?_ fun ⟨v14, l⟩ ⟨q1, q2, q3, q4, q5, q6⟩ => ?_
  ·simp (disch := omega) only [w64_id]
   refine Tot.iter (fun m s => m = (s.2.1 + 1 - s.1).toNat ∧ a < s.1 ∧ s.1 ≤ s.2.1 + 1 ∧ s.2.1 < b ∧ R a b l0 s.2.2 ∧ At s.2.2 a p ∧ (∀ k x, a < k → k < s.1 → At s.2.2 k x → le x p) ∧ ∀ k x, s.2.1 < k → k < b → At s.2.2 k x → le p x) (n := (v5 - 1 + 1 - (v2 + 1)).toNat) ⟨rfl, by dsimp only; omega, by dsimp only; omega, by dsimp only; omega, hw.trans (.swp hu hz (by omega) (by omega) (by omega) (by omega)), (swp_out hu.1 hz.1 (by omega) (by omega)).2 hap, hs.1, hs.2⟩ ?_
   rintro m ⟨i, j, l⟩ ⟨g1, g2, g3, g4, g5, g6, g7, g8⟩
   dsimp only at g1 g2 g3 g4 g5 g6 g7 g8
   have hll := g5.len
   unfold partition_L5
   dsimp only
   refine Tot.call (part3 h ha g2 g3 (by omega) (by omega) g6 g7) fun v10 ⟨u1, u2, u3, u4⟩ => ?_
   refine Tot.call (part4 h (b := b) ha (by omega) (by omega) (by omega) (by omega) g6 g8) fun v13 ⟨d1, d2, d3, d4⟩ => ?_
   refine .iteP (fun hc => .dn ⟨by dsimp only; omega, by dsimp only; omega, g5, g6, fun k x k1 k2 => u3 k x k1 (by dsimp only at k2; omega), d3⟩) (fun hc => ?_)
   refine Tot.swap (i := v10) (j := v13) (by omega) (by omega) fun u z hu hz => ?_
   have hlt : v10 < v13 := by
    rcases Int.lt_or_le v10 v13 with h' | h'
    ·exact h'
    ·have : v10 = v13 := by omega
     subst this
     exact absurd (u4 (by omega) u hu) (d4 (by omega) u hu)
   have hs := step (by omega) hlt (by omega) hu hz u3 d3 (u4 (by omega) u hu) (h.not (d4 (by omega) z hz))
   simp (disch := omega) only [w64_id]
   exact .nx ⟨(v13 - 1 + 1 - (v10 + 1)).toNat, by omega, rfl, by dsimp only; omega, by dsimp only; omega, by dsimp only; omega, g5.trans (.swp hu hz (by omega) (by omega) (by omega) (by omega)), (swp_out hu.1 hz.1 (by omega) (by omega)).2 g6, hs.1, hs.2⟩
  ·dsimp only at q1 q2 q3 q4 q5 q6
   have hll := q3.len
   dsimp only at hll ⊢
   refine Tot.swap (i := v14) (j := a) (by omega) (by omega) fun u' z' hu' hz' => .ok ?_
   cases hz'.uniq q4
   exact ⟨q1, q2, fin q3 q1 q2 hu' q4 q5 q6⟩
end
end Go.Ab.Pdq
namespace Go.Ab.Pdq
set_option linter.unusedVariables false
set_option linter.unusedSimpArgs false
set_option linter.unusedVariables false
variable {α β : Type}
def Dn (le : α → α → Prop) (l : List α) (a b a1 b1 : Int) : Prop := ∀ i j x y, a ≤ i → i < j → j < b → (i < a1 ∨ b1 ≤ j) → At l i x → At l j y → le x y
theorem Dn.R {le : α → α → Prop} {l l' : List α} {a b a1 b1 : Int} (hd : Dn le l a b a1 b1) (h1 : a ≤ a1) (h2 : b1 ≤ b) (hr : R a1 b1 l l') : Dn le l' a b a1 b1 := by
 intro i j x y k1 k2 k3 k4 hx hy
 by_cases hi : i < a1 ∨ b1 ≤ i
 ·rw [hr.out i x hi] at hx
  by_cases hj : j < a1 ∨ b1 ≤ j
  ·rw [hr.out j y hj] at hy
   exact hd i j x y k1 k2 k3 k4 hx hy
  ·obtain ⟨j', e1, e2, hy'⟩ := hr.inn j y (by omega) (by omega) hy
   exact hd i j' x y k1 (by omega) (by omega) (by omega) hx hy'
 ·rw [hr.out j y (by omega)] at hy
  obtain ⟨i', e1, e2, hx'⟩ := hr.inn i x (by omega) (by omega) hx
  exact hd i' j x y (by omega) (by omega) k3 (by omega) hx' hy
theorem Dn.fin {le : α → α → Prop} {l l' : List α} {a b a1 b1 : Int} (hd : Dn le l a b a1 b1) (h1 : a ≤ a1) (h2 : b1 ≤ b) (hr : Pdq.R a1 b1 l l') (hs : Srt le l' a1 b1) : Srt le l' a b := by
 intro i j x y k1 k2 k3 hx hy
 by_cases hc : i < a1 ∨ b1 ≤ j
 ·exact hd.R h1 h2 hr i j x y k1 k2 k3 hc hx hy
 ·exact hs i j x y (by omega) k2 (by omega) hx hy
theorem Dn.low {le : α → α → Prop} {l0 l : List α} {a b a1 b1 : Int} (hd : Dn le l a b a1 b1) (h1 : a ≤ a1) (h2 : b1 ≤ b) (hr : Pdq.R a b l0 l) (hl : Low le l0 a b) : Low le l a1 b1 := by
 intro h0 y k x hy k1 k2 hx
 by_cases e : a1 = a
 ·subst e
  exact (hl.R hr) h0 y k x hy k1 (by omega) hx
 ·exact hd (a1 - 1) k y x (by omega) (by omega) (by omega) (by omega) hy hx
section
variable {cmp : α → α → Option Int} {le : α → α → Prop} (h : Lt cmp le)
include h
theorem pdqk_ok {npo : Int → Option (IK .u64)} {nxt : IK .u64 → Option (IK .u64 × IK .u64)} (hp : Hlp npo nxt) : ∀ (n : Nat) (l0 : List α) (a b limit : Int), 0 ≤ a → a ≤ b → b ≤ l0.length → l0.length ≤ 4294967296 → b - a < n → Low le l0 a b →
  Tot (pdq_k npo nxt cmp n l0 a b limit) fun l => R a b l0 l ∧ Srt le l a b := by
 intro n
 induction n with
 | zero => intro l0 a b limit h1 h2 h3 h4 h5; omega
 | succ n ih =>
  intro l0 a b limit ha hab hl hlen hn hlow
  unfold pdq_k pdq_F
  refine Tot.iter (fun m s => m = (s.2.1 - s.1).toNat ∧ a ≤ s.1 ∧ s.1 ≤ s.2.1 ∧ s.2.1 ≤ b ∧ R a b l0 s.2.2.2.2.2 ∧ Dn le s.2.2.2.2.2 a b s.1 s.2.1) (n := (b - a).toNat) ⟨rfl, Int.le_refl _, hab, Int.le_refl _, R.refl, fun i j x y k1 k2 k3 k4 _ _ => by dsimp only at k4; omega⟩ ?_
  rintro m ⟨a1, b1, lim, mid, mid1, l⟩ ⟨g1, g2, g3, g4, g5, g6⟩
  dsimp only at g1 g2 g3 g4 g5 g6
  have hll := g5.len
  have hlw := g6.low g2 g4 g5 hlow
  unfold pdq_L1
  dsimp only
  simp (disch := omega) only [w64_id]
  refine .iteP (fun hc => ?_) (fun hc => ?_)
  ·exact Tot.call (insertion h (by omega) g3 (by omega) (by omega)) fun l' hl' => .dn ⟨g5.trans (hl'.1.wide g2 g4), g6.fin g2 g4 hl'.1 hl'.2⟩
  refine .ite (fun _ => ?_) (fun _ => ?_)
  ·exact Tot.call (heap h (by omega) (by omega) (by omega) (by omega)) fun l' hl' => .dn ⟨g5.trans (hl'.1.wide g2 g4), g6.fin g2 g4 hl'.1 hl'.2⟩
  refine Tot.call (P := fun (r : Int × List α) => R a1 b1 l r.2) (.ite (fun _ => Tot.call (break_ok hp (by omega) g3 (by omega) (by omega)) fun r hr => .ok hr) (fun _ => .ok R.refl)) fun ⟨limit2, l2⟩ r2 => ?_
  dsimp only at r2
  have hl2 : l2.length = l.length := r2.len
  refine Tot.call (choose_ok h (l := l2) (by omega) (by omega) (by omega) (by omega)) fun ⟨pv, hint⟩ hpv => ?_
  dsimp only at hpv ⊢
  refine Tot.call (P := fun (r : Int × Int × List α) => a1 ≤ r.1 ∧ r.1 < b1 ∧ R a1 b1 l r.2.2) (.ite (fun _ => Tot.call (rev_ok (by omega) g3 (by omega) (by omega)) fun r hr => ?_) (fun _ => .ok ⟨hpv.1, hpv.2, r2⟩)) fun ⟨pv', hint', l3⟩ ⟨p1, p2, r3⟩ => ?_
  ·simp (disch := omega) only [w64_id]
   exact .ok ⟨by dsimp only; omega, by dsimp only; omega, r2.trans hr⟩
  dsimp only at p1 p2 r3 ⊢
  have hl3 : l3.length = l.length := r3.len
  refine Tot.flb (Tot.call (P := fun _ => True) (.ite (fun _ => .ite (fun _ => .ok trivial) (fun _ => .ok trivial)) (fun _ => .ok trivial)) fun v _ => ?_)
  have rest : ∀ l4, R a1 b1 l l4 → Tot ((if (decide (0 < a1)) = true then (idx l4 (w64 (a1 - 1))).bind fun e6 => (idx l4 pv').bind fun e7 => (cmp e6 e7).bind fun r11 => some (!(decide (r11 < 0))) else some false).bind fun (v1 : Bool) =>
    if v1 = true then
     (partitionEqual l4 a1 b1 pv' cmp).bind fun r12 =>
     some (Lp.nx (r12.1, b1, limit2, mid, mid1, r12.2))
    else
     (partition l4 a1 b1 pv' cmp).bind fun r13 =>
     (chk ((8 : Int) ≠ 0)).bind fun u =>
     if (decide ((w64 (r13.1 - a1)) < (w64 (b1 - r13.1)))) = true then
      (pdq_k npo nxt cmp n r13.2.2 a1 r13.1 limit2).bind fun r14 =>
      some (.nx ((w64 (r13.1 + 1)), b1, limit2, (decide ((w64 ((b1 - a1).tdiv 8)) ≤ (w64 (r13.1 - a1)))), r13.2.1, r14))
     else
      (pdq_k npo nxt cmp n r13.2.2 (w64 (r13.1 + 1)) b1 limit2).bind fun r15 =>
      some (.nx (a1, r13.1, limit2, (decide ((w64 ((b1 - a1).tdiv 8)) ≤ (w64 (b1 - r13.1)))), r13.2.1, r15))) fun r => (∀ a', r = Lp.nx a' → ∃ k', k' < m ∧ (k' = (a'.2.1 - a'.1).toNat ∧ a ≤ a'.1 ∧ a'.1 ≤ a'.2.1 ∧ a'.2.1 ≤ b ∧ R a b l0 a'.2.2.2.2.2 ∧ Dn le a'.2.2.2.2.2 a b a'.1 a'.2.1)) ∧ ∀ b', r = Lp.dn b' → R a b l0 b' ∧ Srt le b' a b := by
   intro l4 r4
   have hl4 := r4.len
   have d4 := g6.R g2 g4 r4
   have lw4 := hlw.R r4
   have R4 := g5.trans (r4.wide g2 g4)
   simp (disch := omega) only [w64_id]
   refine Tot.call (condGe h (fun _ => by omega) (fun _ => by omega)) fun c hc2 => .ite (fun e => ?_) (fun e => ?_)
   ·obtain ⟨h0, u, z, hu, hz, hle⟩ := hc2.1 e
    refine Tot.call (parteq_ok h (by omega) p1 p2 (by omega) (by omega) fun p k x hp' k1 k2 hx => ?_) fun ⟨md, l5⟩ ⟨q1, q2, q3, q4⟩ => .nx ?_
    ·cases hp'.uniq hz
     exact h.trans hle (lw4 h0 u k x hu k1 k2 hx)
    ·dsimp only at q1 q2 q3 q4 ⊢
     have d5 := d4.R g2 g4 q3
     refine ⟨(b1 - md).toNat, by omega, rfl, by omega, by omega, g4, R4.trans (q3.wide g2 g4), fun i j x y k1 k2 k3 k4 hx hy => ?_⟩
     by_cases hi : i < a1 ∨ b1 ≤ j
     ·exact d5 i j x y k1 k2 k3 hi hx hy
     ·exact q4 i j x y (by omega) (by omega) (by omega) (by omega) hx hy
   ·refine Tot.call (part_ok h (by omega) p1 p2 (by omega) (by omega)) fun ⟨md, al, l5⟩ ⟨q1, q2, q3, p, hpm, q4, q5⟩ => Tot.chk (by decide) ?_
    dsimp only at q1 q2 q3 hpm q4 q5 ⊢
    have hl5 := q3.len
    have d5 := d4.R g2 g4 q3
    have lw5 := lw4.R q3
    have R5 := R4.trans (q3.wide g2 g4)
    simp (disch := omega) only [w64_id]
    refine .iteP (fun _ => ?_) (fun _ => ?_)
    ·refine Tot.call (ih l5 a1 md limit2 (by omega) q1 (by omega) (by omega) (by omega) fun h0 y k x hy k1 k2 hx => lw5 h0 y k x hy k1 (by omega) hx) fun l6 ⟨r6, s6⟩ => .nx ?_
     dsimp only
     have d6 := d5.R g2 g4 (r6.wide (Int.le_refl _) (by omega))
     have hpm6 := (r6.out md p (by omega)).2 hpm
     refine ⟨(b1 - (md + 1)).toNat, by omega, rfl, by omega, by omega, g4, R5.trans (r6.wide g2 (by omega)), fun i j x y k1 k2 k3 k4 hx hy => ?_⟩
     by_cases hi : i < a1 ∨ b1 ≤ j
     ·exact d6 i j x y k1 k2 k3 hi hx hy
     have up : ∀ i x, a1 ≤ i → i < md → At l6 i x → le x p := fun i x e1 e2 hx => by
      obtain ⟨i', f1, f2, hx'⟩ := r6.inn i x e1 e2 hx
      exact q4 i' x f1 f2 hx'
     by_cases hj : j < md
     ·exact s6 i j x y (by omega) k2 hj hx hy
     by_cases hj2 : j = md
     ·subst hj2
      cases hy.uniq hpm6
      exact up i x (by omega) (by omega) hx
     ·have hy' := (r6.out j y (by omega)).1 hy
      have e1 := q5 j y (by omega) (by omega) hy'
      by_cases hi2 : i = md
      ·subst hi2; cases hx.uniq hpm6; exact e1
      ·exact h.trans (up i x (by omega) (by omega) hx) e1
    ·refine Tot.call (ih l5 (md + 1) b1 limit2 (by omega) (by omega) (by omega) (by omega) (by omega) fun h0 y k x hy k1 k2 hx => ?_) fun l6 ⟨r6, s6⟩ => .nx ?_
     ·rw [show md + 1 - 1 = md by omega] at hy
      cases hy.uniq hpm
      exact q5 k x (by omega) k2 hx
     dsimp only
     have d6 := d5.R g2 g4 (r6.wide (by omega) (Int.le_refl _))
     have hpm6 := (r6.out md p (by omega)).2 hpm
     refine ⟨(md - a1).toNat, by omega, rfl, g2, q1, by omega, R5.trans (r6.wide (by omega) g4), fun i j x y k1 k2 k3 k4 hx hy => ?_⟩
     by_cases hi : i < a1 ∨ b1 ≤ j
     ·exact d6 i j x y k1 k2 k3 hi hx hy
     have up : ∀ i x, md < i → i < b1 → At l6 i x → le p x := fun i x e1 e2 hx => by
      obtain ⟨i', f1, f2, hx'⟩ := r6.inn i x (by omega) e2 hx
      exact q5 i' x (by omega) f2 hx'
     by_cases hi2 : md < i
     ·exact s6 i j x y (by omega) k2 (by omega) hx hy
     by_cases hi3 : i = md
     ·subst hi3
      cases hx.uniq hpm6
      exact up j y (by omega) (by omega) hy
     ·have hx' := (r6.out i x (by omega)).1 hx
      have e1 := q4 i x (by omega) (by omega) hx'
      by_cases hj2 : j = md
      ·subst hj2; cases hy.uniq hpm6; exact e1
      ·exact h.trans e1 (up j y (by omega) (by omega) hy)
  refine .ite (fun _ => ?_) (fun _ => .go ?_)
  ·refine Tot.call (partial_ok h (by omega) (by omega) (by omega) (by omega) (hlw.R r3)) fun r7 ⟨r4, s4⟩ => .ite (fun e => .ret (dn_ok ⟨g5.trans ((r3.trans r4).wide g2 g4), g6.fin g2 g4 (r3.trans r4) (s4 e)⟩)) (fun e => .go ?_)
   have := rest r7.2 (r3.trans r4)
   revert this
   simp (disch := omega) only [w64_id]
   exact id
  ·have := rest l3 r3
   revert this
   simp (disch := omega) only [w64_id]
   exact id
omit h in
theorem Srt.pair {l : List α} (hs : Srt le l 0 l.length) : l.Pairwise le := by
 rw [List.pairwise_iff_getElem]
 intro i j hi hj hij
 exact hs i j _ _ (by omega) (by omega) (by omega) ⟨by omega, by simp [List.getElem?_eq_getElem hi]⟩ ⟨by omega, by simp [List.getElem?_eq_getElem hj]⟩
theorem pdq_ok {npo : Int → Option (IK .u64)} {nxt : IK .u64 → Option (IK .u64 × IK .u64)} (hp : Hlp npo nxt) {l : List α} {limit : Int} (hlen : l.length < 4294967296) : Tot (pdq npo nxt cmp l 0 l.length limit) fun l' => l'.Perm l ∧ l'.Pairwise le := by
 unfold pdq
 refine (pdqk_ok h hp 4294967296 l 0 l.length limit (by omega) (by omega) (by omega) (by omega) (by omega) fun h0 => by omega).mono fun l' hl' => ⟨hl'.1.perm, ?_⟩
 have := hl'.2
 rw [← hl'.1.len] at this
 exact Srt.pair this
end
end Go.Ab.Pdq
