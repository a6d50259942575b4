/- My own layer: plain lemmas about models: loops, lists, numbers. -/
import Derived.Test.YteieacgaipcnoaaDoorAbEx5
namespace Go.Ab
set_option linter.unusedVariables false
set_option linter.unusedSimpArgs false

/-- A loop ends: an invariant that bears a number, which every round lowers. -/
theorem iter_rule {A B : Type} {step : A → Option (Lp A B)} (I : Nat → A → Prop) (Q : B → Prop)
    (h : ∀ k a, I k a → (∃ a' k', step a = some (.nx a') ∧ k' < k ∧ I k' a') ∨ (∃ b, step a = some (.dn b) ∧ Q b)) : ∀ {k a}, I k a → ∃ b, iter step a = some b ∧ Q b := by
  intro k
  induction k using Nat.strongRecOn with
  | _ k ih =>
    intro a ha
    rcases h k a ha with ⟨a', k', h1, h2, h3⟩ | ⟨b, h1, h2⟩
    · rw [iter_nx h1]; exact ih k' h2 h3
    · exact ⟨b, iter_dn h1, h2⟩

theorem idx_nat {α : Type} (l : List α) (i : Nat) : idx l (i : Int) = l[i]? := by
  unfold idx; rw [if_pos (by omega)]; simp
theorem idx_of {α : Type} {l : List α} {i : Int} {x : α} (h0 : 0 ≤ i) (h : l[i.toNat]? = some x) : idx l i = some x := by
  unfold idx; rw [if_pos h0]; exact h
theorem idx_lt {α : Type} {l : List α} {i : Int} (h0 : 0 ≤ i) (h : i < l.length) : ∃ x, idx l i = some x ∧ l[i.toNat]? = some x ∧ x ∈ l := by
  have h1 : i.toNat < l.length := by omega
  refine ⟨l[i.toNat], idx_of h0 (List.getElem?_eq_getElem h1), List.getElem?_eq_getElem h1, List.getElem_mem h1⟩
theorem chk_of {p : Prop} [Decidable p] (h : p) : chk p = some () := by unfold chk; rw [if_pos h]
@[simp] theorem flb_go {R V : Type} (u : V) (k : V → Option R) : flb (some (.go u)) k = k u := rfl
@[simp] theorem flb_ret {R V : Type} (r : R) (k : V → Option R) : flb (some (Fl.ret r : Fl R V)) k = some r := rfl
theorem w64_nat {n : Nat} (h : n ≤ 9223372036854775807) : w64 (n : Int) = n := w64_id (by omega)
theorem w64_succ {n : Nat} (h : n < 9223372036854775807) : w64 ((n : Int) + 1) = ((n + 1 : Nat) : Int) := by rw [w64_id (by omega)]; omega
theorem w64_pred {n : Nat} (h : n < 9223372036854775807) : w64 (((n + 1 : Nat) : Int) - 1) = (n : Int) := by rw [w64_id (by omega)]; omega
theorem u64_rng (x : Int) : 0 ≤ IntKind.u64.wrap x ∧ IntKind.u64.wrap x < 18446744073709551616 := by
  rw [IntKind.wrap_u64]; omega
theorem and255 (x : Int) : 0 ≤ w64 (IntKind.u64.wrap ((BitVec.ofInt (IntKind.u64).bits x &&& BitVec.ofInt (IntKind.u64).bits 255).toNat : Int)) ∧ w64 (IntKind.u64.wrap ((BitVec.ofInt (IntKind.u64).bits x &&& BitVec.ofInt (IntKind.u64).bits 255).toNat : Int)) ≤ 255 := by
  have h : (BitVec.ofInt (IntKind.u64).bits x &&& BitVec.ofInt (IntKind.u64).bits 255).toNat ≤ 255 := by
    rw [BitVec.toNat_and]
    have : (BitVec.ofInt (IntKind.u64).bits 255).toNat = 255 := by decide
    rw [this]
    exact Nat.and_le_right
  have h2 : IntKind.u64.wrap ((BitVec.ofInt (IntKind.u64).bits x &&& BitVec.ofInt (IntKind.u64).bits 255).toNat : Int) = ((BitVec.ofInt (IntKind.u64).bits x &&& BitVec.ofInt (IntKind.u64).bits 255).toNat : Int) := by
    rw [IntKind.wrap_u64]; omega
  rw [h2, w64_id (by omega)]
  omega
theorem tmod_rng {a b : Int} (h1 : 0 ≤ a) (h2 : 0 < b) : 0 ≤ a.tmod b ∧ a.tmod b < b := ⟨Int.tmod_nonneg b h1, Int.tmod_lt_of_pos a h2⟩
theorem take_succ {α : Type} {l : List α} {i : Nat} {x : α} (h : l[i]? = some x) : l.take (i + 1) = l.take i ++ [x] := by
  rw [List.take_add_one, h]; rfl
theorem get_ex {α : Type} {l : List α} {i : Nat} (h : i < l.length) : ∃ x, l[i]? = some x := ⟨_, List.getElem?_eq_getElem h⟩
/-- Each element is as it should be, and each two neighbours. -/
def Chain {α : Type} (l : List α) (ok : α → Prop) (ord : α → α → Prop) : Prop := (∀ e ∈ l, ok e) ∧ ∀ (i : Nat) (a b : α), l[i]? = some a → l[i + 1]? = some b → ord a b
/-- A loop that checks each element (and its neighbour before it), and returns 'false' at the first that is not as it should be. -/
theorem chain_loop {α : Type} (l : List α) (hl : l.length ≤ 4000000000) {step : Int → Option (Lp Int (Fl Bool Unit))} (ok : α → Prop) (ord : α → α → Prop)
    (hstep : ∀ (v : Int) (x : α), 0 ≤ v → v < l.length → l[v.toNat]? = some x → (step v = some (.nx (v + 1)) ∧ ok x ∧ (∀ z, 0 < v → l[(v - 1).toNat]? = some z → ord z x)) ∨ (step v = some (.dn (.ret false)) ∧ ¬ (ok x ∧ ∀ z, 0 < v → l[(v - 1).toNat]? = some z → ord z x)))
    (hend : step l.length = some (.dn (.go ()))) : ∃ b, iter step 0 = some b ∧ (b = .go () ∧ Chain l ok ord ∨ b = .ret false ∧ ¬ Chain l ok ord) := by
  refine iter_rule (step := step) (fun m v => (m : Int) + v = l.length ∧ 0 ≤ v ∧ (∀ (i : Nat) (x y : α), (i : Int) + 1 < v → l[i]? = some x → l[i + 1]? = some y → ord x y) ∧ ∀ (i : Nat) x, (i : Int) < v → l[i]? = some x → ok x) _ ?_ (k := l.length) ⟨by omega, by omega, fun i x y h => by omega, fun i x h => by omega⟩
  rintro m v ⟨hv, h0, hs, ha⟩
  by_cases hlt : v < l.length
  · obtain ⟨x, hx, hx2, hxm⟩ := idx_lt (l := l) (i := v) h0 hlt
    rcases hstep v x h0 hlt hx2 with ⟨h1, h2, h3⟩ | ⟨h1, h2⟩
    · left
      refine ⟨v + 1, m - 1, h1, by omega, by omega, by omega, fun i a b hi ha' hb' => ?_, fun i a hi ha' => ?_⟩
      · by_cases hi2 : (i : Int) + 1 < v
        · exact hs i a b hi2 ha' hb'
        · have e1 : i + 1 = v.toNat := by omega
          rw [e1, hx2] at hb'; cases hb'
          exact h3 a (by omega) (by rw [show (v - 1).toNat = i by omega]; exact ha')
      · by_cases hi2 : (i : Int) < v
        · exact ha i a hi2 ha'
        · have e1 : i = v.toNat := by omega
          rw [e1, hx2] at ha'; cases ha'
          exact h2
    · right
      refine ⟨_, h1, .inr ⟨rfl, fun hc => h2 ⟨hc.1 x hxm, fun z hz hz2 => hc.2 (v - 1).toNat z x hz2 ?_⟩⟩⟩
      rw [show (v - 1).toNat + 1 = v.toNat by omega]; exact hx2
  · right
    have e : v = l.length := by omega
    refine ⟨_, by rw [e]; exact hend, .inl ⟨rfl, fun x hx => ?_, fun i x y hx hy => ?_⟩⟩
    · obtain ⟨i, hi⟩ := List.getElem?_of_mem hx
      have := (List.getElem?_eq_some_iff.1 hi).1
      exact ha i x (by omega) hi
    · have := (List.getElem?_eq_some_iff.1 hy).1
      exact hs i x y (by omega) hx hy
theorem take_at {α : Type} {l : List α} {i : Nat} (h : l.length ≤ i) : l.take i = l := List.take_of_length_le h
/-- A loop that puts f of each element in its place. -/
theorem map_loop {α : Type} (f : α → α) (l : List α) {step : Int × List α → Option (Lp (Int × List α) (List α))}
    (hstep : ∀ (i : Nat) (a : List α) (x : α), a.length = l.length → a[i]? = some x → l[i]? = some x → step ((i : Int), a) = some (.nx (((i + 1 : Nat) : Int), a.set i (f x)))) (hend : ∀ a, a.length = l.length → step ((l.length : Int), a) = some (.dn a)) :
    iter step (0, l) = some (l.map f) := by
  have h := iter_rule (step := step) (fun m a => ∃ i : Nat, a.1 = (i : Int) ∧ m + i = l.length ∧ a.2 = (l.take i).map f ++ l.drop i) (fun b => b = l.map f) ?_ (k := l.length) (a := (0, l)) ⟨0, rfl, by omega, by simp⟩
  · obtain ⟨b, hb, rfl⟩ := h
    exact hb
  rintro m ⟨v, a⟩ ⟨i, hv, hm, ha⟩
  simp only at hv ha
  subst hv
  have hlen : a.length = l.length := by rw [ha]; simp; omega
  by_cases hlt : i < l.length
  · left
    obtain ⟨x, hx⟩ := get_ex hlt
    have hax : a[i]? = some x := by
      rw [ha, List.getElem?_append_right (by simp; omega)]
      simp only [List.length_map, List.length_take, Nat.min_eq_left (Nat.le_of_lt hlt), Nat.sub_self, List.getElem?_drop, Nat.add_zero]; exact hx
    refine ⟨_, m - 1, hstep i a x hlen hax hx, by omega, i + 1, rfl, by omega, ?_⟩
    show a.set i (f x) = _
    rw [ha, take_succ hx, List.set_append_right _ _ (by simp; omega)]
    have e1 : i - ((l.take i).map f).length = 0 := by simp; omega
    rw [e1, List.drop_eq_getElem_cons hlt, List.set_cons_zero]
    simp
  · right
    have e : i = l.length := by omega
    subst e
    refine ⟨a, hend a hlen, ?_⟩
    rw [ha]; simp
theorem sum_bd {l : List Int} {M : Int} (h : ∀ x ∈ l, 0 ≤ x ∧ x ≤ M) : 0 ≤ l.sum ∧ l.sum ≤ M * l.length := by
  induction l with
  | nil => simp
  | cons a l ih =>
    have h1 := h a (List.mem_cons_self ..)
    have h2 := ih fun x hx => h x (List.mem_cons_of_mem _ hx)
    simp only [List.sum_cons, List.length_cons, Int.natCast_add, Int.mul_add]
    simp only [Int.natCast_one, Int.mul_one]
    omega
/-- A loop that sums. -/
theorem sum_loop {α : Type} (f : α → Int) (l : List α) (hl : l.length ≤ 1000000) (hb : ∀ x ∈ l, 0 ≤ f x ∧ f x ≤ 1000000) {step : Int × Int → Option (Lp (Int × Int) Int)}
    (hstep : ∀ (i : Nat) (s : Int) (x : α), l[i]? = some x → step (s, (i : Int)) = some (.nx (w64 (s + f x), w64 ((i : Int) + 1)))) (hend : ∀ s, step (s, (l.length : Int)) = some (.dn s)) :
    iter step (0, 0) = some ((l.map f).sum) := by
  have bd : ∀ i, 0 ≤ ((l.take i).map f).sum ∧ ((l.take i).map f).sum ≤ 1000000 * 1000000 := by
    intro i
    have := sum_bd (l := (l.take i).map f) (M := 1000000) (by
      intro x hx
      obtain ⟨y, hy, rfl⟩ := List.mem_map.1 hx
      exact hb y (List.mem_of_mem_take hy))
    have h2 : (((l.take i).map f).length : Int) ≤ 1000000 := by simp; omega
    omega
  have h := iter_rule (step := step) (fun m a => ∃ i : Nat, a.2 = (i : Int) ∧ m + i = l.length ∧ a.1 = ((l.take i).map f).sum) (fun b => b = (l.map f).sum) ?_ (k := l.length) (a := (0, 0)) ⟨0, rfl, by omega, by simp⟩
  · obtain ⟨b, hb, rfl⟩ := h
    exact hb
  rintro m ⟨s, v⟩ ⟨i, hv, hm, hs⟩
  simp only at hv hs
  subst hv
  by_cases hlt : i < l.length
  · left
    obtain ⟨x, hx⟩ := get_ex hlt
    have hxb := hb x (List.mem_of_getElem? hx)
    have hbi := bd i
    refine ⟨_, m - 1, hstep i s x hx, by omega, i + 1, ?_, by omega, ?_⟩
    · exact w64_succ (by omega)
    · show w64 (s + f x) = _
      rw [w64_id (by omega), take_succ hx, hs]; simp
  · right
    have e : i = l.length := by omega
    subst e
    exact ⟨s, hend s, by rw [hs, List.take_length]⟩
end Go.Ab
