/- My own layer: plain lemmas about models: loops, lists, numbers. -/
import Derived.Test.YtimaoofeephgjaaGreatDoorAbEx5
namespace Go.Ab
set_option linter.unusedVariables false
set_option linter.unusedSimpArgs false

theorem iter_rule {A B : Type} {step : A → Option (Lp A B)} (I : Nat → A → Prop) (Q : B → Prop)
  (h : ∀ k a, I k a → (∃ a' k', step a = some (.nx a') ∧ k' < k ∧ I k' a') ∨ (∃ b, step a = some (.dn b) ∧ Q b)) : ∀ {k a}, I k a → ∃ b, iter step a = some b ∧ Q b := by
 intro k
 induction k using Nat.strongRecOn with
 | _ k ih =>
  intro a ha
  rcases h k a ha with ⟨a', k', h1, h2, h3⟩ | ⟨b, h1, h2⟩
  ·rw [iter_nx h1]; exact ih k' h2 h3
  ·exact ⟨b, iter_dn h1, h2⟩

theorem idx_nat {α : Type} (l : List α) (i : Nat) : idx l (i : Int) = l[i]? := by
 unfold idx; rw [if_pos (by omega)]; simp
theorem idx_of {α : Type} {l : List α} {i : Int} {x : α} (h0 : 0 ≤ i) (h : l[i.toNat]? = some x) : idx l i = some x := by
 unfold idx; rw [if_pos h0]; exact h
theorem idx_lt {α : Type} {l : List α} {i : Int} (h0 : 0 ≤ i) (h : i < l.length) : ∃ x, idx l i = some x ∧ l[i.toNat]? = some x ∧ x ∈ l := by
 have h1 : i.toNat < l.length := by omega
 refine ⟨l[i.toNat], idx_of h0 (List.getElem?_eq_getElem h1), List.getElem?_eq_getElem h1, List.getElem_mem h1⟩
theorem chk_of {p : Prop} [Decidable p] (h : p) : chk p = some () := by unfold chk; rw [if_pos h]
@[simp] theorem flb_go {R V : Type} (u : V) (k : V → Option R) : flb (some (.go u)) k = k u := rfl
@[simp] theorem flb_ret {R V : Type} (r : R) (k : V → Option R) : flb (some (Fl.ret r : Fl R V)) k = some r := rfl
theorem w64_succ {n : Nat} (h : n < 9223372036854775807) : w64 ((n : Int) + 1) = ((n + 1 : Nat) : Int) := by rw [w64_id (by omega)]; omega
theorem w64_pred {n : Nat} (h : n < 9223372036854775807) : w64 (((n + 1 : Nat) : Int) - 1) = (n : Int) := by rw [w64_id (by omega)]; omega
theorem and255 (x : Int) : 0 ≤ w64 (IntKind.u64.wrap ((BitVec.ofInt (IntKind.u64).bits x &&& BitVec.ofInt (IntKind.u64).bits 255).toNat : Int)) ∧ w64 (IntKind.u64.wrap ((BitVec.ofInt (IntKind.u64).bits x &&& BitVec.ofInt (IntKind.u64).bits 255).toNat : Int)) ≤ 255 := by
 have h : (BitVec.ofInt (IntKind.u64).bits x &&& BitVec.ofInt (IntKind.u64).bits 255).toNat ≤ 255 := by
  rw [BitVec.toNat_and]
  have : (BitVec.ofInt (IntKind.u64).bits 255).toNat = 255 := by decide
  rw [this]
  exact Nat.and_le_right
 have h2 : IntKind.u64.wrap ((BitVec.ofInt (IntKind.u64).bits x &&& BitVec.ofInt (IntKind.u64).bits 255).toNat : Int) = ((BitVec.ofInt (IntKind.u64).bits x &&& BitVec.ofInt (IntKind.u64).bits 255).toNat : Int) := by
  rw [IntKind.wrap_u64]; omega
 rw [h2, w64_id (by omega)]
 omega
theorem tmod_rng {a b : Int} (h1 : 0 ≤ a) (h2 : 0 < b) : 0 ≤ a.tmod b ∧ a.tmod b < b := ⟨Int.tmod_nonneg b h1, Int.tmod_lt_of_pos a h2⟩
theorem take_succ {α : Type} {l : List α} {i : Nat} {x : α} (h : l[i]? = some x) : l.take (i + 1) = l.take i ++ [x] := by
 rw [List.take_add_one, h]; rfl
theorem get_ex {α : Type} {l : List α} {i : Nat} (h : i < l.length) : ∃ x, l[i]? = some x := ⟨_, List.getElem?_eq_getElem h⟩
def Chain {α : Type} (l : List α) (ok : α → Prop) (ord : α → α → Prop) : Prop := (∀ e ∈ l, ok e) ∧ ∀ (i : Nat) (a b : α), l[i]? = some a → l[i + 1]? = some b → ord a b
theorem sum_bd {l : List Int} {M : Int} (h : ∀ x ∈ l, 0 ≤ x ∧ x ≤ M) : 0 ≤ l.sum ∧ l.sum ≤ M * l.length := by
 induction l with
 | nil => simp
 | cons a l ih =>
  have h1 := h a (List.mem_cons_self ..)
  have h2 := ih fun x hx => h x (List.mem_cons_of_mem _ hx)
  simp only [List.sum_cons, List.length_cons, Int.natCast_add, Int.mul_add]
  simp only [Int.natCast_one, Int.mul_one]
  omega
theorem sum_loop {α : Type} (f : α → Int) (l : List α) (hl : l.length ≤ 1000000) (hb : ∀ x ∈ l, 0 ≤ f x ∧ f x ≤ 1000000) {step : Int × Int → Option (Lp (Int × Int) Int)}
  (hstep : ∀ (i : Nat) (s : Int) (x : α), l[i]? = some x → step (s, (i : Int)) = some (.nx (w64 (s + f x), w64 ((i : Int) + 1)))) (hend : ∀ s, step (s, (l.length : Int)) = some (.dn s)) :
  iter step (0, 0) = some ((l.map f).sum) := by
 have bd : ∀ i, 0 ≤ ((l.take i).map f).sum ∧ ((l.take i).map f).sum ≤ 1000000 * 1000000 := by
  intro i
  have := sum_bd (l := (l.take i).map f) (M := 1000000) (by
   intro x hx
   obtain ⟨y, hy, rfl⟩ := List.mem_map.1 hx
   exact hb y (List.mem_of_mem_take hy))
  have h2 : (((l.take i).map f).length : Int) ≤ 1000000 := by simp; omega
  omega
 have h := iter_rule (step := step) (fun m a => ∃ i : Nat, a.2 = (i : Int) ∧ m + i = l.length ∧ a.1 = ((l.take i).map f).sum) (fun b => b = (l.map f).sum) ?_ (k := l.length) (a := (0, 0)) ⟨0, rfl, by omega, by simp⟩
 ·obtain ⟨b, hb, rfl⟩ := h
  exact hb
 rintro m ⟨s, v⟩ ⟨i, hv, hm, hs⟩
 simp only at hv hs
 subst hv
 by_cases hlt : i < l.length
 ·left
  obtain ⟨x, hx⟩ := get_ex hlt
  have hxb := hb x (List.mem_of_getElem? hx)
  have hbi := bd i
  refine ⟨_, m - 1, hstep i s x hx, by omega, i + 1, ?_, by omega, ?_⟩
  ·exact w64_succ (by omega)
  ·show w64 (s + f x) = _
   rw [w64_id (by omega), take_succ hx, hs]; simp
 ·right
  have e : i = l.length := by omega
  subst e
  exact ⟨s, hend s, by rw [hs, List.take_length]⟩
end Go.Ab
