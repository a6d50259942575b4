/- My own layer: a model answers, and what it answers: rules, one for each form of model. -/
import Derived.Test.YtimaoofeephgjaaGreatDoorAbPm2
namespace Go.Ab
set_option linter.unusedVariables false
set_option linter.unusedSimpArgs false
def Tot {α : Type} (m : Option α) (Q : α → Prop) : Prop := ∃ a, m = some a ∧ Q a
theorem Tot.ok {α : Type} {a : α} {Q : α → Prop} (h : Q a) : Tot (some a) Q := ⟨a, rfl, h⟩
theorem Tot.mono {α : Type} {m : Option α} {P Q : α → Prop} (h : Tot m P) (hk : ∀ a, P a → Q a) : Tot m Q := by
 obtain ⟨a, h1, h2⟩ := h; exact ⟨a, h1, hk a h2⟩
theorem Tot.bind {α β : Type} {m : Option α} {k : α → Option β} {Q : β → Prop} (h : Tot m fun a => Tot (k a) Q) : Tot (m.bind k) Q := by
 obtain ⟨a, rfl, h2⟩ := h; exact h2
theorem Tot.call {α β : Type} {m : Option α} {k : α → Option β} {P : α → Prop} {Q : β → Prop} (h : Tot m P) (hk : ∀ a, P a → Tot (k a) Q) : Tot (m.bind k) Q := .bind (h.mono hk)
theorem Tot.eq {α β : Type} {m : Option α} {a : α} {k : α → Option β} {Q : β → Prop} (h : m = some a) (hk : Tot (k a) Q) : Tot (m.bind k) Q := by subst h; exact hk
theorem Tot.ite {α : Type} {c : Bool} {a b : Option α} {Q : α → Prop} (h1 : c = true → Tot a Q) (h2 : c = false → Tot b Q) : Tot (if c = true then a else b) Q := by
 cases c
 ·simpa using h2 rfl
 ·simpa using h1 rfl
theorem Tot.iteP {α : Type} {c : Prop} [Decidable c] {a b : Option α} {Q : α → Prop} (h1 : c → Tot a Q) (h2 : ¬ c → Tot b Q) : Tot (if decide c = true then a else b) Q :=
 .ite (fun h => h1 (of_decide_eq_true h)) (fun h => h2 (of_decide_eq_false h))
theorem Tot.iteN {α : Type} {c : Prop} [Decidable c] {a b : Option α} {Q : α → Prop} (h1 : ¬ c → Tot a Q) (h2 : c → Tot b Q) : Tot (if (!decide c) = true then a else b) Q :=
 .ite (fun h => h1 (by simpa using h)) (fun h => h2 (by simpa using h))
theorem Tot.chk {β : Type} {p : Prop} [Decidable p] {k : Unit → Option β} {Q : β → Prop} (h : p) (hk : Tot (k ()) Q) : Tot ((Ab.chk p).bind k) Q := .eq (chk_of h) hk
theorem Tot.idx {α β : Type} {l : List α} {i : Int} {k : α → Option β} {Q : β → Prop} (h0 : 0 ≤ i) (h : i < l.length) (hk : ∀ x, l[i.toNat]? = some x → Tot (k x) Q) : Tot ((Ab.idx l i).bind k) Q := by
 obtain ⟨x, h1, h2, _⟩ := idx_lt h0 h
 exact .eq h1 (hk x h2)
theorem Tot.flb {R V : Type} {m : Option (Fl R V)} {k : V → Option R} {Q : R → Prop} (h : Tot m fun v => (∀ r, v = .ret r → Q r) ∧ ∀ u, v = .go u → Tot (k u) Q) : Tot (Ab.flb m k) Q := by
 obtain ⟨v, rfl, h1, h2⟩ := h
 cases v with
 | ret r => exact ⟨r, rfl, h1 r rfl⟩
 | go u => exact h2 u rfl
theorem Tot.iter {A B : Type} {step : A → Option (Lp A B)} (I : Nat → A → Prop) {Q : B → Prop} {n : Nat} {a : A} (h0 : I n a)
  (h : ∀ k a, I k a → Tot (step a) fun r => (∀ a', r = .nx a' → ∃ k', k' < k ∧ I k' a') ∧ ∀ b, r = .dn b → Q b) : Tot (Ab.iter step a) Q := by
 refine iter_rule I Q (fun k a ha => ?_) h0
 obtain ⟨r, h1, h2, h3⟩ := h k a ha
 cases r with
 | nx a' =>
  obtain ⟨k', g1, g2⟩ := h2 a' rfl
  exact .inl ⟨a', k', h1, g1, g2⟩
 | dn b => exact .inr ⟨b, h1, h3 b rfl⟩
theorem Tot.nx {A B : Type} {a : A} {P : A → Prop} {Q : B → Prop} (h : P a) : Tot (some (Lp.nx a : Lp A B)) fun r => (∀ a', r = .nx a' → P a') ∧ ∀ b, r = .dn b → Q b :=
 ⟨_, rfl, fun a' e => by cases e; exact h, fun b e => by cases e⟩
theorem Tot.dn {A B : Type} {b : B} {P : A → Prop} {Q : B → Prop} (h : Q b) : Tot (some (Lp.dn b : Lp A B)) fun r => (∀ a', r = .nx a' → P a') ∧ ∀ b, r = .dn b → Q b :=
 ⟨_, rfl, fun a' e => (by cases e), fun b' e => (by cases e; exact h)⟩
theorem Tot.go {R V : Type} {u : V} {P : R → Prop} {Q : V → Prop} (h : Q u) : Tot (some (Fl.go u : Fl R V)) fun v => (∀ r, v = .ret r → P r) ∧ ∀ u, v = .go u → Q u :=
 ⟨_, rfl, fun r e => (by cases e), fun u' e => by cases e; exact h⟩
theorem Tot.ret {R V : Type} {r : R} {P : R → Prop} {Q : V → Prop} (h : P r) : Tot (some (Fl.ret r : Fl R V)) fun v => (∀ r, v = .ret r → P r) ∧ ∀ u, v = .go u → Q u :=
 ⟨_, rfl, fun r' e => (by cases e; exact h), fun u' e => by cases e⟩
theorem Tot.val {α : Type} {m : Option α} {a : α} (h : Tot m (· = a)) : m = some a := by obtain ⟨x, h1, rfl⟩ := h; exact h1
theorem Tot.of {α : Type} {m : Option α} {a : α} {Q : α → Prop} (h : m = some a) (hq : Q a) : Tot m Q := ⟨a, h, hq⟩
theorem ixs {α : Type} {l : List α} {i : Nat} {x : α} (h : l[i]? = some x) : Ab.idx l (i : Int) = some x := (idx_nat l i).trans h
theorem get_lt {α : Type} {l : List α} {i : Nat} {x : α} (h : l[i]? = some x) : i < l.length := (List.getElem?_eq_some_iff.1 h).1
theorem flb_dec {P : Prop} [Decidable P] {m : Option (Fl Bool Unit)} (h : Tot m fun b => (b = .go () ∧ P) ∨ (b = .ret false ∧ ¬ P)) : Ab.flb m (fun _ => some true) = some (decide P) := by
 obtain ⟨b, rfl, ⟨rfl, hp⟩ | ⟨rfl, hp⟩⟩ := h
 ·simp [hp]
 ·simp [hp]
theorem idx_some {α : Type} {l : List α} {i : Int} {x : α} (h : Ab.idx l i = some x) : 0 ≤ i ∧ i < l.length ∧ l[i.toNat]? = some x := by
 unfold Ab.idx at h
 split at h
 ·have := get_lt h; exact ⟨by omega, by omega, h⟩
 ·cases h
theorem idx_fix {α : Type} {p : α → Bool} {l : List α} (h : ¬ fixI p l < 0) : ∃ (k : Nat) (x : α), fixI p l = (k : Int) ∧ l[k]? = some x ∧ p x = true ∧ ∀ j y, j < k → l[j]? = some y → p y = false := by
 have e : fixI p l = ((fixI p l).toNat : Int) := by omega
 obtain ⟨x, h1, h2, h3⟩ := fixI_at e
 exact ⟨_, x, e, h1, h2, h3⟩
theorem sum_take_succ {l : List Int} {i : Nat} {x : Int} (h : l[i]? = some x) : (l.take (i + 1)).sum = (l.take i).sum + x := by
 rw [take_succ h]; simp
theorem bind_assoc' {α β γ : Type} (m : Option α) (f : α → Option β) (g : β → Option γ) : (m.bind fun x => (f x).bind g) = (m.bind f).bind g := by cases m <;> rfl
end Go.Ab
