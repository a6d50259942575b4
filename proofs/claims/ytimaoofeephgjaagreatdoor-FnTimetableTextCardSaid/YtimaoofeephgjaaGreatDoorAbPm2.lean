/- My own layer: more plain lemmas about models: searches, checks of all elements, copies. -/
import Derived.Test.YtimaoofeephgjaaGreatDoorAbPm
namespace Go.Ab
set_option linter.unusedVariables false
set_option linter.unusedSimpArgs false

def fixI {α : Type} (p : α → Bool) (l : List α) : Int := match l.findIdx? p with
 | some i => (i : Int)
 | none => -1
theorem fixI_some {α : Type} {p : α → Bool} {l : List α} {i : Nat} (h : fixI p l = (i : Int)) : l.findIdx? p = some i := by
 unfold fixI at h
 split at h
 ·rename_i j hj; rw [hj]; congr 1; omega
 ·omega
theorem fixI_at {α : Type} {p : α → Bool} {l : List α} {i : Nat} (h : fixI p l = (i : Int)) : ∃ x, l[i]? = some x ∧ p x = true ∧ ∀ j y, j < i → l[j]? = some y → p y = false := by
 have := fixI_some h
 rw [List.findIdx?_eq_some_iff_getElem] at this
 obtain ⟨h1, h2, h3⟩ := this
 refine ⟨_, List.getElem?_eq_getElem h1, h2, fun j y hj hy => ?_⟩
 have h4 := h3 j hj
 obtain ⟨hjl, hy2⟩ := List.getElem?_eq_some_iff.1 hy
 subst hy2
 simpa using h4
theorem fixI_of {α : Type} {p : α → Bool} {l : List α} {i : Nat} {x : α} (h : l[i]? = some x) (hp : p x = true) (hn : ∀ (j : Nat) y, j < i → l[j]? = some y → p y = false) : fixI p l = (i : Int) := by
 obtain ⟨hi, hx⟩ := List.getElem?_eq_some_iff.1 h
 have : l.findIdx? p = some i := by
  rw [List.findIdx?_eq_some_iff_getElem]
  refine ⟨hi, by rw [hx]; exact hp, fun j hj => ?_⟩
  have := hn j _ hj (List.getElem?_eq_getElem (by omega))
  simp [this]
 unfold fixI; rw [this]
theorem fixI_map {α β : Type} (f : α → β) (p : β → Bool) (l : List α) : fixI p (l.map f) = fixI (fun x => p (f x)) l := by
 unfold fixI
 rw [List.findIdx?_map]
 rfl
theorem fixI_congr {α : Type} {p q : α → Bool} (l : List α) (h : ∀ x, p x = q x) : fixI p l = fixI q l := by
 have : p = q := funext h
 rw [this]

theorem find_loop {α R : Type} (l : List α) (p : α → Bool) (f : Nat → R) {step : Int → Option (Lp Int (Fl R Unit))}
  (hstep : ∀ (i : Nat) x, l[i]? = some x → step (i : Int) = some (if p x = true then .dn (.ret (f i)) else .nx ((i + 1 : Nat) : Int))) (hend : step (l.length : Int) = some (.dn (.go ()))) :
  iter step 0 = some (match l.findIdx? p with | some i => .ret (f i) | none => .go ()) := by
 have h := iter_rule (step := step) (fun m v => ∃ i : Nat, v = (i : Int) ∧ m + i = l.length ∧ ∀ j y, j < i → l[j]? = some y → p y = false) (fun b => b = match l.findIdx? p with | some i => .ret (f i) | none => .go ()) ?_ (k := l.length) (a := 0) ⟨0, rfl, by omega, fun j y hj => by omega⟩
 ·obtain ⟨b, hb, rfl⟩ := h
  exact hb
 rintro m v ⟨i, rfl, hm, ha⟩
 by_cases hlt : i < l.length
 ·obtain ⟨x, hx⟩ := get_ex hlt
  by_cases hp : p x = true
  ·right
   refine ⟨_, by rw [hstep i x hx, if_pos hp], ?_⟩
   rw [fixI_some (fixI_of hx hp ha)]
  ·left
   refine ⟨_, m - 1, by rw [hstep i x hx, if_neg hp], by omega, i + 1, rfl, by omega, fun j y hj hy => ?_⟩
   by_cases hji : j < i
   ·exact ha j y hji hy
   ·have : j = i := by omega
    subst this
    rw [hx] at hy; cases hy
    simpa using hp
 ·right
  have e : i = l.length := by omega
  subst e
  refine ⟨_, hend, ?_⟩
  have : l.findIdx? p = none := List.findIdx?_eq_none_iff.2 fun x hx => by
   obtain ⟨j, hj⟩ := List.getElem?_of_mem hx
   exact ha j x (List.getElem?_eq_some_iff.1 hj).1 hj
  rw [this]
theorem find_val {α : Type} (l : List α) (p : α → Bool) {step : Int → Option (Lp Int (Fl Int Unit))}
  (hstep : ∀ (i : Nat) x, l[i]? = some x → step (i : Int) = some (if p x = true then .dn (.ret (i : Int)) else .nx ((i + 1 : Nat) : Int))) (hend : step (l.length : Int) = some (.dn (.go ()))) :
  flb (iter step 0) (fun (_ : Unit) => some (-1)) = some (fixI p l) := by
 rw [find_loop l p (fun i => (i : Int)) hstep hend]
 unfold fixI
 cases l.findIdx? p <;> rfl

theorem all_from {α : Type} (l : List α) (ok : Nat → α → Prop) (s0 : Int) (n0 : Nat) (hs0 : s0 = (n0 : Int)) (hn0 : n0 ≤ l.length) {step : Int → Option (Lp Int (Fl Bool Unit))}
  (hstep : ∀ (i : Nat) x, n0 ≤ i → l[i]? = some x → (step (i : Int) = some (.nx ((i + 1 : Nat) : Int)) ∧ ok i x) ∨ (step (i : Int) = some (.dn (.ret false)) ∧ ¬ ok i x)) (hend : step (l.length : Int) = some (.dn (.go ()))) :
  (iter step s0 = some (.go ()) ∧ ∀ (i : Nat) x, n0 ≤ i → l[i]? = some x → ok i x) ∨ (iter step s0 = some (.ret false) ∧ ¬ ∀ (i : Nat) x, n0 ≤ i → l[i]? = some x → ok i x) := by
 have h := iter_rule (step := step) (fun m v => ∃ i : Nat, v = (i : Int) ∧ m + i = l.length ∧ n0 ≤ i ∧ ∀ (j : Nat) x, n0 ≤ j → j < i → l[j]? = some x → ok j x)
  (fun b => (b = .go () ∧ ∀ (i : Nat) x, n0 ≤ i → l[i]? = some x → ok i x) ∨ (b = .ret false ∧ ¬ ∀ (i : Nat) x, n0 ≤ i → l[i]? = some x → ok i x)) ?_ (k := l.length - n0) (a := s0) ⟨n0, hs0, by omega, Nat.le_refl _, fun j x h1 h2 => by omega⟩
 ·obtain ⟨b, hb, ⟨rfl, h1⟩ | ⟨rfl, h1⟩⟩ := h
  ·exact .inl ⟨hb, h1⟩
  ·exact .inr ⟨hb, h1⟩
 rintro m v ⟨i, rfl, hm, hn, ha⟩
 by_cases hlt : i < l.length
 ·obtain ⟨x, hx⟩ := get_ex hlt
  rcases hstep i x hn hx with ⟨h1, h2⟩ | ⟨h1, h2⟩
  ·left
   refine ⟨_, m - 1, h1, by omega, i + 1, rfl, by omega, by omega, fun j y hj0 hj hy => ?_⟩
   by_cases hji : j < i
   ·exact ha j y hj0 hji hy
   ·have : j = i := by omega
    subst this
    rw [hx] at hy; cases hy
    exact h2
  ·right
   exact ⟨_, h1, .inr ⟨rfl, fun hc => h2 (hc i x hn hx)⟩⟩
 ·right
  have e : i = l.length := by omega
  subst e
  exact ⟨_, hend, .inl ⟨rfl, fun j x hj0 hx => ha j x hj0 (List.getElem?_eq_some_iff.1 hx).1 hx⟩⟩
theorem all_loop {α : Type} (l : List α) (ok : Nat → α → Prop) {step : Int → Option (Lp Int (Fl Bool Unit))}
  (hstep : ∀ (i : Nat) x, l[i]? = some x → (step (i : Int) = some (.nx ((i + 1 : Nat) : Int)) ∧ ok i x) ∨ (step (i : Int) = some (.dn (.ret false)) ∧ ¬ ok i x)) (hend : step (l.length : Int) = some (.dn (.go ()))) (s0 : Int) (n0 : Nat) (hs0 : s0 = (n0 : Int)) (hn0 : n0 ≤ l.length) :
  (iter step s0 = some (.go ()) ∧ ∀ (i : Nat) x, n0 ≤ i → l[i]? = some x → ok i x) ∨ (iter step s0 = some (.ret false) ∧ ¬ ∀ (i : Nat) x, n0 ≤ i → l[i]? = some x → ok i x) :=
 all_from l ok s0 n0 hs0 hn0 (fun i x _ hx => hstep i x hx) hend
theorem all_val {α : Type} (l : List α) (ok : Nat → α → Prop) [hd : Decidable (∀ (i : Nat) x, l[i]? = some x → ok i x)] {step : Int → Option (Lp Int (Fl Bool Unit))}
  (hstep : ∀ (i : Nat) x, l[i]? = some x → (step (i : Int) = some (.nx ((i + 1 : Nat) : Int)) ∧ ok i x) ∨ (step (i : Int) = some (.dn (.ret false)) ∧ ¬ ok i x)) (hend : step (l.length : Int) = some (.dn (.go ()))) (k : Unit → Option Bool) :
  flb (iter step 0) k = if (∀ (i : Nat) x, l[i]? = some x → ok i x) then k () else some false := by
 rcases all_loop l ok hstep hend 0 0 rfl (by omega) with ⟨h1, h2⟩ | ⟨h1, h2⟩
 ·rw [h1, if_pos (fun i x hx => h2 i x (by omega) hx)]; rfl
 ·rw [h1, if_neg (fun hc => h2 fun i x _ hx => hc i x hx)]; rfl

theorem fill_loop {α β : Type} (f : α → β) (l : List α) (l0 : List β) (hl0 : l0.length = l.length) {step : Int × List β → Option (Lp (Int × List β) (List β))}
  (hstep : ∀ (i : Nat) (a : List β) (x : α) (y : β), a.length = l.length → a[i]? = some y → l[i]? = some x → step ((i : Int), a) = some (.nx (((i + 1 : Nat) : Int), a.set i (f x)))) (hend : ∀ a, a.length = l.length → step ((l.length : Int), a) = some (.dn a)) :
  iter step (0, l0) = some (l.map f) := by
 have h := iter_rule (step := step) (fun m a => ∃ i : Nat, a.1 = (i : Int) ∧ m + i = l.length ∧ a.2.length = l.length ∧ ∀ (j : Nat) x, j < i → l[j]? = some x → a.2[j]? = some (f x)) (fun b => b = l.map f) ?_ (k := l.length) (a := (0, l0)) ⟨0, rfl, by omega, hl0, fun j x hj => by omega⟩
 ·obtain ⟨b, hb, rfl⟩ := h
  exact hb
 rintro m ⟨v, a⟩ ⟨i, hv, hm, hlen, ha⟩
 simp only at hv ha hlen
 subst hv
 by_cases hlt : i < l.length
 ·left
  obtain ⟨x, hx⟩ := get_ex hlt
  obtain ⟨y, hy⟩ := get_ex (l := a) (i := i) (by omega)
  refine ⟨_, m - 1, hstep i a x y hlen hy hx, by omega, i + 1, rfl, by omega, by simpa using hlen, fun j z hj hz => ?_⟩
  show (a.set i (f x))[j]? = _
  by_cases hji : j = i
  ·subst hji
   rw [hx] at hz; cases hz
   rw [List.getElem?_set_self (by omega)]
  ·rw [List.getElem?_set_ne (Ne.symm hji)]
   exact ha j z (by omega) hz
 ·right
  have e : i = l.length := by omega
  subst e
  refine ⟨a, hend a hlen, ?_⟩
  apply List.ext_getElem?
  intro j
  rw [List.getElem?_map]
  by_cases hj : j < l.length
  ·obtain ⟨x, hx⟩ := get_ex hj
   rw [hx, ha j x hj hx]; rfl
  ·rw [List.getElem?_eq_none (by omega), List.getElem?_eq_none (by omega)]; rfl
theorem app_loop {α β : Type} (f : α → β) (l : List α) {step : Int × List β → Option (Lp (Int × List β) (List β))}
  (hstep : ∀ (i : Nat) (a : List β) (x : α), a.length = i → l[i]? = some x → step ((i : Int), a) = some (.nx (((i + 1 : Nat) : Int), a ++ [f x]))) (hend : ∀ a, a.length = l.length → step ((l.length : Int), a) = some (.dn a)) :
  iter step (0, []) = some (l.map f) := by
 have h := iter_rule (step := step) (fun m a => ∃ i : Nat, a.1 = (i : Int) ∧ m + i = l.length ∧ a.2 = (l.take i).map f) (fun b => b = l.map f) ?_ (k := l.length) (a := (0, [])) ⟨0, rfl, by omega, by simp⟩
 ·obtain ⟨b, hb, rfl⟩ := h
  exact hb
 rintro m ⟨v, a⟩ ⟨i, hv, hm, ha⟩
 simp only at hv ha
 subst hv
 have hlen : a.length = min i l.length := by rw [ha]; simp
 by_cases hlt : i < l.length
 ·left
  obtain ⟨x, hx⟩ := get_ex hlt
  refine ⟨_, m - 1, hstep i a x (by omega) hx, by omega, i + 1, rfl, by omega, ?_⟩
  show a ++ [f x] = _
  rw [take_succ hx, ha]; simp
 ·right
  have e : i = l.length := by omega
  subst e
  exact ⟨a, hend a (by omega), by rw [ha, List.take_length]⟩
end Go.Ab
