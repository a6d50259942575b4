/- My own layer: a model answers, and what it answers: rules, one for each form of model. -/
import Derived.Test.YteieacgaipcnoaaDoorAbPm2
namespace Go.Ab
set_option linter.unusedVariables false
set_option linter.unusedSimpArgs false
/-- The model answers, and so. -/
def Tot {α : Type} (m : Option α) (Q : α → Prop) : Prop := ∃ a, m = some a ∧ Q a
theorem Tot.ok {α : Type} {a : α} {Q : α → Prop} (h : Q a) : Tot (some a) Q := ⟨a, rfl, h⟩
theorem Tot.mono {α : Type} {m : Option α} {P Q : α → Prop} (h : Tot m P) (hk : ∀ a, P a → Q a) : Tot m Q := by
  obtain ⟨a, h1, h2⟩ := h; exact ⟨a, h1, hk a h2⟩
theorem Tot.bind {α β : Type} {m : Option α} {k : α → Option β} {Q : β → Prop} (h : Tot m fun a => Tot (k a) Q) : Tot (m.bind k) Q := by
  obtain ⟨a, rfl, h2⟩ := h; exact h2
/-- A part whose answer is known to be so. -/
theorem Tot.call {α β : Type} {m : Option α} {k : α → Option β} {P : α → Prop} {Q : β → Prop} (h : Tot m P) (hk : ∀ a, P a → Tot (k a) Q) : Tot (m.bind k) Q := .bind (h.mono hk)
theorem Tot.eq {α β : Type} {m : Option α} {a : α} {k : α → Option β} {Q : β → Prop} (h : m = some a) (hk : Tot (k a) Q) : Tot (m.bind k) Q := by subst h; exact hk
theorem Tot.ite {α : Type} {c : Bool} {a b : Option α} {Q : α → Prop} (h1 : c = true → Tot a Q) (h2 : c = false → Tot b Q) : Tot (if c = true then a else b) Q := by
  cases c
  · simpa using h2 rfl
  · simpa using h1 rfl
theorem Tot.iteP {α : Type} {c : Prop} [Decidable c] {a b : Option α} {Q : α → Prop} (h1 : c → Tot a Q) (h2 : ¬ c → Tot b Q) : Tot (if decide c = true then a else b) Q :=
  .ite (fun h => h1 (of_decide_eq_true h)) (fun h => h2 (of_decide_eq_false h))
theorem Tot.iteN {α : Type} {c : Prop} [Decidable c] {a b : Option α} {Q : α → Prop} (h1 : ¬ c → Tot a Q) (h2 : c → Tot b Q) : Tot (if (!decide c) = true then a else b) Q :=
  .ite (fun h => h1 (by simpa using h)) (fun h => h2 (by simpa using h))
theorem Tot.chk {β : Type} {p : Prop} [Decidable p] {k : Unit → Option β} {Q : β → Prop} (h : p) (hk : Tot (k ()) Q) : Tot ((Ab.chk p).bind k) Q := .eq (chk_of h) hk
theorem Tot.idx {α β : Type} {l : List α} {i : Int} {k : α → Option β} {Q : β → Prop} (h0 : 0 ≤ i) (h : i < l.length) (hk : ∀ x, l[i.toNat]? = some x → Tot (k x) Q) : Tot ((Ab.idx l i).bind k) Q := by
  obtain ⟨x, h1, h2, _⟩ := idx_lt h0 h
  exact .eq h1 (hk x h2)
theorem Tot.idxL {α : Type} {l : List α} {i : Int} {Q : α → Prop} (h0 : 0 ≤ i) (h : i < l.length) (hk : ∀ x, l[i.toNat]? = some x → Q x) : Tot (Ab.idx l i) Q := by
  obtain ⟨x, h1, h2, _⟩ := idx_lt h0 h
  exact ⟨x, h1, hk x h2⟩
theorem Tot.flb {R V : Type} {m : Option (Fl R V)} {k : V → Option R} {Q : R → Prop} (h : Tot m fun v => (∀ r, v = .ret r → Q r) ∧ ∀ u, v = .go u → Tot (k u) Q) : Tot (Ab.flb m k) Q := by
  obtain ⟨v, rfl, h1, h2⟩ := h
  cases v with
  | ret r => exact ⟨r, rfl, h1 r rfl⟩
  | go u => exact h2 u rfl
theorem Tot.iter {A B : Type} {step : A → Option (Lp A B)} (I : Nat → A → Prop) {Q : B → Prop} {n : Nat} {a : A} (h0 : I n a)
    (h : ∀ k a, I k a → Tot (step a) fun r => (∀ a', r = .nx a' → ∃ k', k' < k ∧ I k' a') ∧ ∀ b, r = .dn b → Q b) : Tot (Ab.iter step a) Q := by
  refine iter_rule I Q (fun k a ha => ?_) h0
  obtain ⟨r, h1, h2, h3⟩ := h k a ha
  cases r with
  | nx a' =>
    obtain ⟨k', g1, g2⟩ := h2 a' rfl
    exact .inl ⟨a', k', h1, g1, g2⟩
  | dn b => exact .inr ⟨b, h1, h3 b rfl⟩
/-- A round goes on. -/
theorem Tot.nx {A B : Type} {a : A} {P : A → Prop} {Q : B → Prop} (h : P a) : Tot (some (Lp.nx a : Lp A B)) fun r => (∀ a', r = .nx a' → P a') ∧ ∀ b, r = .dn b → Q b :=
  ⟨_, rfl, fun a' e => by cases e; exact h, fun b e => by cases e⟩
/-- A round ends the loop. -/
theorem Tot.dn {A B : Type} {b : B} {P : A → Prop} {Q : B → Prop} (h : Q b) : Tot (some (Lp.dn b : Lp A B)) fun r => (∀ a', r = .nx a' → P a') ∧ ∀ b, r = .dn b → Q b :=
  ⟨_, rfl, fun a' e => (by cases e), fun b' e => (by cases e; exact h)⟩
theorem Tot.dn' {α : Type} {a b : α} (h : a = b) : Tot (some a) (· = b) := ⟨a, rfl, h⟩
theorem Tot.go {R V : Type} {u : V} {P : R → Prop} {Q : V → Prop} (h : Q u) : Tot (some (Fl.go u : Fl R V)) fun v => (∀ r, v = .ret r → P r) ∧ ∀ u, v = .go u → Q u :=
  ⟨_, rfl, fun r e => (by cases e), fun u' e => by cases e; exact h⟩
theorem Tot.ret {R V : Type} {r : R} {P : R → Prop} {Q : V → Prop} (h : P r) : Tot (some (Fl.ret r : Fl R V)) fun v => (∀ r, v = .ret r → P r) ∧ ∀ u, v = .go u → Q u :=
  ⟨_, rfl, fun r' e => (by cases e; exact h), fun u' e => by cases e⟩
theorem Tot.val {α : Type} {m : Option α} {a : α} (h : Tot m (· = a)) : m = some a := by obtain ⟨x, h1, rfl⟩ := h; exact h1
theorem Tot.of {α : Type} {m : Option α} {a : α} {Q : α → Prop} (h : m = some a) (hq : Q a) : Tot m Q := ⟨a, h, hq⟩
theorem ixs {α : Type} {l : List α} {i : Nat} {x : α} (h : l[i]? = some x) : Ab.idx l (i : Int) = some x := (idx_nat l i).trans h
/-- A loop over a list, the state being what has come of the elements so far. -/
theorem fold_loop {X A S B : Type} (l : List X) (f : A → X → A) (a0 : A) (st : Nat → A → S) (fin : A → B) {step : S → Option (Lp S B)}
    (hstep : ∀ (i : Nat) x, l[i]? = some x → step (st i ((l.take i).foldl f a0)) = some (.nx (st (i + 1) (f ((l.take i).foldl f a0) x)))) (hend : step (st l.length (l.foldl f a0)) = some (.dn (fin (l.foldl f a0)))) :
    Ab.iter step (st 0 a0) = some (fin (l.foldl f a0)) := by
  have h := iter_rule (step := step) (fun m s => ∃ i : Nat, m + i = l.length ∧ s = st i ((l.take i).foldl f a0)) (fun b => b = fin (l.foldl f a0)) ?_ (k := l.length) (a := st 0 a0) ⟨0, by omega, by simp⟩
  · obtain ⟨b, hb, rfl⟩ := h; exact hb
  rintro m s ⟨i, hm, rfl⟩
  by_cases hlt : i < l.length
  · left
    obtain ⟨x, hx⟩ := get_ex hlt
    refine ⟨_, m - 1, hstep i x hx, by omega, i + 1, by omega, ?_⟩
    rw [take_succ hx]; simp
  · right
    have e : i = l.length := by omega
    subst e
    rw [List.take_length]
    exact ⟨_, hend, rfl⟩
theorem get_lt {α : Type} {l : List α} {i : Nat} {x : α} (h : l[i]? = some x) : i < l.length := (List.getElem?_eq_some_iff.1 h).1
theorem set_same {α : Type} {l : List α} {i : Nat} {x : α} (h : l[i]? = some x) : l.set i x = l := by
  obtain ⟨h1, h2⟩ := List.getElem?_eq_some_iff.1 h
  subst h2; exact List.set_getElem_self h1
theorem set_at {α : Type} {l : List α} {i : Nat} {x y : α} (h : l[i]? = some x) : (l.set i y)[i]? = some y := List.getElem?_set_self (get_lt h)
/-- Two loops side by side. -/
theorem iter2 {A A' B B' : Type} {step : A → Option (Lp A B)} {step' : A' → Option (Lp A' B')} (I : Nat → A → A' → Prop) (T : B → B' → Prop)
    (h : ∀ k a a', I k a a' → (∃ b b' k', step a = some (.nx b) ∧ step' a' = some (.nx b') ∧ k' < k ∧ I k' b b') ∨ ∃ x x', step a = some (.dn x) ∧ step' a' = some (.dn x') ∧ T x x') :
    ∀ {k a a'}, I k a a' → ∃ x x', Ab.iter step a = some x ∧ Ab.iter step' a' = some x' ∧ T x x' := by
  intro k
  induction k using Nat.strongRecOn with
  | _ k ih =>
    intro a a' ha
    rcases h k a a' ha with ⟨b, b', k', h1, h2, h3, h4⟩ | ⟨x, x', h1, h2, h3⟩
    · rw [iter_nx h1, iter_nx h2]; exact ih k' h3 h4
    · exact ⟨x, x', iter_dn h1, iter_dn h2, h3⟩
theorem flb_dec {P : Prop} [Decidable P] {m : Option (Fl Bool Unit)} (h : Tot m fun b => (b = .go () ∧ P) ∨ (b = .ret false ∧ ¬ P)) : Ab.flb m (fun _ => some true) = some (decide P) := by
  obtain ⟨b, rfl, ⟨rfl, hp⟩ | ⟨rfl, hp⟩⟩ := h
  · simp [hp]
  · simp [hp]
theorem bool_eq {a b : Bool} {P : Prop} (h1 : a = true ↔ P) (h2 : b = true ↔ P) : a = b := by
  cases a <;> cases b <;> simp_all
theorem idx_some {α : Type} {l : List α} {i : Int} {x : α} (h : Ab.idx l i = some x) : 0 ≤ i ∧ i < l.length ∧ l[i.toNat]? = some x := by
  unfold Ab.idx at h
  split at h
  · have := get_lt h; exact ⟨by omega, by omega, h⟩
  · cases h
theorem idx_fix {α : Type} {p : α → Bool} {l : List α} (h : ¬ fixI p l < 0) : ∃ (k : Nat) (x : α), fixI p l = (k : Int) ∧ l[k]? = some x ∧ p x = true ∧ ∀ j y, j < k → l[j]? = some y → p y = false := by
  have e : fixI p l = ((fixI p l).toNat : Int) := by omega
  obtain ⟨x, h1, h2, h3⟩ := fixI_at e
  exact ⟨_, x, e, h1, h2, h3⟩
/-- Sums of parts of lists of numbers. -/
theorem sum_take_succ {l : List Int} {i : Nat} {x : Int} (h : l[i]? = some x) : (l.take (i + 1)).sum = (l.take i).sum + x := by
  rw [take_succ h]; simp
theorem sum_nonneg {l : List Int} (h : ∀ x ∈ l, 0 ≤ x) : 0 ≤ l.sum := by
  induction l with
  | nil => simp
  | cons a l ih =>
    have h1 := h a (List.mem_cons_self ..)
    have h2 := ih fun x hx => h x (List.mem_cons_of_mem _ hx)
    simp only [List.sum_cons]; omega
theorem sum_le {l : List Int} {M : Int} (h : ∀ x ∈ l, 0 ≤ x ∧ x ≤ M) : 0 ≤ l.sum ∧ l.sum ≤ M * l.length := sum_bd h
theorem ite3 {A B C : Prop} [Decidable A] [Decidable B] [Decidable C] : (if (!decide A) = true then some true else if (!decide B) = true then some true else some (!decide C)) = some (!decide (A ∧ B ∧ C)) := by
  by_cases a : A <;> by_cases b : B <;> simp [a, b]
theorem ite2 {A B : Prop} [Decidable A] [Decidable B] : (if (!decide A) = true then some true else some (!decide B)) = some (!decide (A ∧ B)) := by
  by_cases a : A <;> simp [a]
theorem bind_assoc' {α β γ : Type} (m : Option α) (f : α → Option β) (g : β → Option γ) : (m.bind fun x => (f x).bind g) = (m.bind f).bind g := by cases m <;> rfl
end Go.Ab
