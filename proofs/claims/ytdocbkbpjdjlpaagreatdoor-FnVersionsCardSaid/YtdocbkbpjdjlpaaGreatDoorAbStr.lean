/- My own layer: what is laid of Go's library's variables; a call that reads plain data and gives plain data. -/
import Derived.Test.YtdocbkbpjdjlpaaGreatDoorAbIns
import Derived.Lib.LaidTab
set_option linter.unusedVariables false
set_option linter.unusedSimpArgs false
namespace Go.Ab
set_option linter.unusedVariables false
set_option linter.unusedSimpArgs false
open Go.Shelf Go.RowKit Go.Lib Go.Proofs
variable {P : Program} {J : Inv} {ρ : Ren}

def strJ (P : Program) (tab : Option (List Int)) : Inv where
 Z b := P.globalNamed "internal/bytealg.MaxLen" = some b \/ tab.isSome = true /\ P.globalNamed "internal/strconv.uint64pow10" = some b
 ok w := (∀ g, P.globalNamed "internal/bytealg.MaxLen" = some g -> ∃ m, w.cell? ⟨g, 0, none⟩ = some (.int .i64 m)) /\ (∀ g, P.globalNamed "internal/strconv.uint64pow10" = some g -> ∀ l, tab = some l -> TabIs P w "internal/strconv.uint64pow10" .u64 l)
 st w w' hz h := by
  refine ⟨fun g hg => ?_, fun g hg l hl => ?_⟩
  ·obtain ⟨m, hm⟩ := h.1 g hg
   exact ⟨m, (World.cell?_of_block (hz g (.inl hg))).trans hm⟩
  ·have h2 := h.2 g hg l hl
   unfold TabIs World.var? at h2 ⊢
   rw [hg] at h2 ⊢
   simp only [Option.bind_some] at h2 ⊢
   rw [hz g (.inr ⟨by rw [hl]; rfl, hg⟩)]
   exact h2

theorem strJ_z {tab : Option (List Int)} {w : World} (h : (strJ P tab).ok w) : ∀ b, (strJ P tab).Z b -> b < w.heap.size := by
 have hlt : ∀ b : Nat, w.heap[b]? ≠ none -> b < w.heap.size := fun b hb => by
  apply Classical.byContradiction
  intro hn
  exact hb (Array.getElem?_eq_none (by omega))
 rintro b (hb | ⟨ht, hb⟩)
 ·obtain ⟨m, hm⟩ := h.1 b hb
  refine hlt b fun e => ?_
  simp [World.cell?, e] at hm
 ·cases tab with
  | none => cases ht
  | some l =>
   have h2 := h.2 b hb l rfl
   refine hlt b fun e => ?_
   simp [TabIs, World.var?, hb, e] at h2

theorem jrx {α β : Type} {M : MS α β} {f : Nat} (hc : ∀ args w, (callFunc f args).run P w = .ok (.enter f args) w) (hn : ∀ y, M.n y = []) (ho : ∀ x y, M.o x y = []) (ho2 : ∀ x, M.p.o x = []) (hnb : ∀ y, NB (· < 0) (M.r y))
  (h : ∀ (x : α) (y : β) (vs : List Value) (w : World) (F : Nat -> Prop) (κ : Kap), M.m x = some y -> JOK J F w -> (∀ b, F b -> b < w.heap.size) -> RVs κ F w (jat M.p.lend (M.p.d x) 0) vs -> Calls P f vs.toArray w fun e w' => ∃ v, e = .returned v /\ RV κ F w' (M.r y) v /\ Below w.heap.size w w') : FnOK P J f M.S := by
 refine ⟨hc, ?_⟩
 rintro vs w F ds obs κ ⟨x, y, rfl, rfl, hy⟩ hargs hFl hJ hobs
 have hm : M.m x = some y := hy
 refine Calls.mono (h x y vs w F κ hm hJ hFl hargs) ?_
 rintro e w' ⟨v, rfl, hv, hb⟩
 have hob : M.p.o x = [] := ho2 x
 refine ⟨v, rfl, M.r y, [], [], κ, κ, F, ?_⟩
 refine ⟨?_, fun _ h => h, fun _ h => .inl h, fun b hb' => Nat.lt_of_lt_of_le (hFl b hb') hb.size, ⟨hb.os, hb.tape, hb.output, hb.size, fun b hb' => hb.block b hb'.1⟩, hv, hnb y, ?_, ⟨?_, ?_, ?_⟩, ⟨?_, ?_, ?_⟩, ?_⟩
 ·exact ⟨x, y, rfl, rfl, hm, rfl, (hn y).symm, (ho x y).symm⟩
 all_goals (intros; simp_all)

theorem jmt {κ : Kap} {F : Nat -> Prop} {w : World} : ∀ {us vs : List Value}, RVs κ F w (us.map fun u => AV.dat (.sc u)) vs -> vs = us
 | [], vs, h => by simp only [List.map_nil] at h; unfold RVs at h; exact h
 | u :: us, vs, h => by
  simp only [List.map_cons] at h
  unfold RVs at h
  obtain ⟨v, vs', rfl, h1, h2⟩ := h
  unfold RV RD at h1
  rw [h1.1, jmt h2]
theorem jsd {κ : Kap} {F : Nat -> Prop} {w : World} : ∀ {us : List Value}, us.all one = true -> RVs κ F w (us.map fun u => AV.dat (.sc u)) us
 | [], _ => by simp only [List.map_nil]; unfold RVs; rfl
 | u :: us, h => by
  simp only [List.all_cons, Bool.and_eq_true] at h
  simp only [List.map_cons]
  unfold RVs
  exact ⟨u, us, rfl, by unfold RV RD; exact ⟨rfl, h.1⟩, jsd h.2⟩
theorem jt1 {κ : Kap} {F : Nat -> Prop} {w : World} {us : List Value} (h : us.all one = true) : RV κ F w (.tup (us.map fun u => AV.dat (.sc u))) (.tuple us.toArray) := by
 unfold RV; exact ⟨us, rfl, jsd h⟩
theorem jo8 {κ : Kap} {F : Nat -> Prop} {w : World} {u : Value} (h : one u = true) : RV κ F w (.dat (.sc u)) u := by
 unfold RV RD; exact ⟨rfl, h⟩
theorem jmz (u : Value) : NB (· < 0) (.dat (.sc u)) := by unfold NB; trivial
theorem jpp : ∀ us : List Value, NBs (· < 0) (us.map fun u => AV.dat (.sc u))
 | [] => by simp only [List.map_nil]; unfold NBs; trivial
 | u :: us => by simp only [List.map_cons]; unfold NBs; exact ⟨jmz u, jpp us⟩
theorem js5 (us : List Value) : NB (· < 0) (.tup (us.map fun u => AV.dat (.sc u))) := by unfold NB; exact jpp us
theorem jsv {tab : List Int} {F : Nat -> Prop} {w : World} (h : JOK (strJ P (some tab)) F w) {g : Nat} (hg : P.globalNamed "internal/strconv.uint64pow10" = some g) : TabIs P w "internal/strconv.uint64pow10" .u64 tab := h.ok.2 g hg _ rfl
end Go.Ab
