/- My own layer: lending a row, in few words; elements that lead into their own rows alone. -/
import Derived.Test.YtjahononbnbjnaaAbC
import Derived.Test.YtjahononbnbjnaaAbLend
namespace Go.Ab
set_option linter.unusedVariables false
set_option linter.unusedSimpArgs false
section
variable {P : Program} {J : Inv} {ty : TypeId → Option TyE} {cx : Cx} {k n : Nat} {l : List (FO P J)} {x : X} {Q : Exit → St → Prop}
end
def FlatTs : List (Option TypeId) → List D → Prop
 | _, [] => True
 | m, c :: cs => (match maskAt m 0 with | none => FlatD c | some _ => ∀ es rows, c = .sl es rows → ∀ r ∈ rows, FlatD r) ∧ FlatTs m.tail cs
theorem flatTs_at : ∀ {cs : List D} {m : List (Option TypeId)} {j : Nat} {c : D}, FlatTs m cs → cs[j]? = some c → match maskAt m j with | none => FlatD c | some _ => ∀ es rows, c = .sl es rows → ∀ r ∈ rows, FlatD r
 | [], m, j, c, _, hj => by simp at hj
 | c0 :: cs, m, 0, c, h, hj => by
  simp only [List.getElem?_cons_zero, Option.some.injEq] at hj
  subst hj
  exact h.1
 | c0 :: cs, m, j + 1, c, h, hj => by
  have := flatTs_at (m := m.tail) (j := j) h.2 (by simpa using hj)
  have e : maskAt m.tail j = maskAt m (j + 1) := by unfold maskAt; cases m <;> simp
  rw [e] at this
  exact this
theorem flatT_agg {m : List (Option TypeId)} {cs : List D} (h : FlatTs m cs) : FlatT m (.agg cs) := fun j c hj => flatTs_at h hj
theorem fT_n {m : List (Option TypeId)} : FlatTs m [] := trivial
theorem fT_d {m : List (Option TypeId)} {c : D} {cs : List D} (h : FlatD c) (t : FlatTs m cs) : FlatTs (none :: m) (c :: cs) := ⟨h, t⟩
theorem fT_s {α : Type} [Enc α] [FlatEnc α] {e : TypeId} {m : List (Option TypeId)} {cs : List D} {es : Nat} {l : List α} (t : FlatTs m cs) : FlatTs (some e :: m) (.sl es (l.map Enc.e) :: cs) := by
 refine ⟨fun es' rows h r hr => ?_, t⟩
 cases h
 obtain ⟨y, _, rfl⟩ := List.mem_map.1 hr
 exact FlatEnc.flat y
theorem flat_tab {α : Type} [Enc α] {e : TypeId} {es g : Nat} {m : List (Option TypeId)} {l : List α} {hole : Option (Nat × Nat)} (h : ∀ x : α, FlatT m (Enc.e x)) : FlatObj (.tab e es m (l.map Enc.e) g hole) := by
 intro d hd
 obtain ⟨y, _, rfl⟩ := List.mem_map.1 hd
 exact h y
end Go.Ab
