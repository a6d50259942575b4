/- My own layer, sixteenth part: what an operation can turn, and the names that it hands on. -/
import Derived.Test.YtjahononbnbjnaaAbDraw
namespace Go.Ab
set_option linter.unusedVariables false
set_option linter.unusedSimpArgs false
def Live (Γ : Nat → Option FnSpec) : Prop := ∀ f S, Γ f = some S → ∀ ds obs, S.pre ds obs → ∃ r new obs', S.post ds obs r new obs'

section
variable {U : Nat → Prop} {nm : Nat} {σ : Objs} {ty : TypeId → Option TyE} {Γ : Nat → Option FnSpec}

def Rng (nm n : Nat) : Prop := nm ≤ n ∧ n < nm + 16

structure Tame (U : Nat → Prop) (nm : Nat) (W : Nat → Prop) (av : AV) (δ : Delta) : Prop where
 nb : NB (Un U nm) av
 key : ∀ p ∈ δ, Rng nm p.1 ∨ W p.1
 ob : ∀ p ∈ δ, ∀ x, p.2 = some x → Un U nm p.1 ∧ NBo (Un U nm) x

def TameS (U : Nat → Prop) (nm : Nat) (W : Nat → Prop) (s : Spec) : Prop := s.pre → (∃ av δ, s.R av δ) ∧ ∀ av δ, s.R av δ → Tame U nm W av δ

variable {W : Nat → Prop}

theorem tame_fail : TameS U nm W .fail := fun hp => hp.elim
theorem tame_det {p : Prop} {rd : List Nat} {av : AV} {δ : Delta} (h : p → Tame U nm W av δ) : TameS U nm W (.det p rd av δ) := by
 intro hp
 refine ⟨⟨av, δ, rfl, rfl⟩, ?_⟩
 rintro av' δ' ⟨h1, h2⟩
 subst h1; subst h2; exact h hp
theorem tame_nil {av : AV} (h : NB U av) : Tame U nm W av [] := ⟨NB.mono (fun _ h => un_sub h) h, by simp, by simp⟩
theorem tame_dat {p : Prop} {rd : List Nat} {d : D} : TameS U nm W (.det p rd (.dat d) []) := tame_det fun _ => tame_nil (dat_nb d)
theorem tame_split {b : Bool} {s t : Spec} (h : TameS U nm W s) (h' : TameS U nm W t) : TameS U nm W (.split b s t) := by
 cases b
 ·exact h'
 ·exact h
theorem tame_new {p : Prop} {rd : List Nat} {av : AV} {x : Obj'} (h : NB (Un U nm) av) (hx : NBo (Un U nm) x) : TameS U nm W (.det p rd av [(nm, some x)]) := by
 refine tame_det fun _ => ⟨h, fun p hp => ?_, fun p hp y hy => ?_⟩
 ·simp at hp; subst hp; exact .inl ⟨Nat.le_refl _, by show nm < nm + 16; omega⟩
 ·simp at hp; subst hp; simp at hy; subst hy
  exact ⟨nm_un, hx⟩
theorem tame_write {p : Prop} {rd : List Nat} {o : Nat} {x : Obj'} (hW : W o) (hU : U o) (hx : NBo U x) : TameS U nm W (.det p rd .und [(o, some x)]) := by
 refine tame_det fun _ => ⟨by unfold NB; trivial, fun p hp => ?_, fun p hp y hy => ?_⟩
 ·simp at hp; subst hp; exact .inr hW
 ·simp at hp; subst hp; simp at hy; subst hy
  exact ⟨un_sub hU, NBo.mono (fun _ h => un_sub h) hx⟩

theorem cells_nb {x : AV} {cs : List AV} (hx : x.cells = some cs) (hn : NB U x) : NBs U cs := by
 have single : ∀ {y : AV}, NB U y → NBs U [y] := fun {y} h => by unfold NBs; exact ⟨h, by unfold NBs; trivial⟩
 cases x with
 | dat d =>
  cases d with
  | agg l => simp only [AV.cells, Option.some.injEq] at hx; subst hx; exact dats_nb
  | sc u => simp only [AV.cells, Option.some.injEq] at hx; subst hx; exact single hn
  | sl es l => simp only [AV.cells, Option.some.injEq] at hx; subst hx; exact single hn
 | aggv l => simp only [AV.cells, Option.some.injEq] at hx; subst hx; unfold NB at hn; exact hn
 | tup l => simp [AV.cells] at hx
 | und => simp [AV.cells] at hx
 | unk => simp [AV.cells] at hx
 | _ => simp only [AV.cells, Option.some.injEq] at hx; subst hx; exact single hn

theorem tame_intBd {k : IntKind} {r : Int} : TameS U nm W (intBd k r) := tame_dat
theorem tame_boolV {b : Bool} : TameS U nm W (boolV b) := tame_dat

theorem tame_nilEq {neg : Bool} {x : AV} : TameS U nm W (nilEq neg x) := by
 unfold nilEq
 split
 ·exact tame_dat
 ·intro _
  refine ⟨⟨.dat (.sc (.bool (false != neg))), [], rfl, false, rfl, fun _ => rfl⟩, ?_⟩
  rintro av δ ⟨rfl, b, rfl, _⟩
  exact tame_nil (by unfold NB; trivial)
 ·exact tame_dat
 ·exact tame_fail
theorem tame_aggEq {op : BinOp} {t : TypeId} {x y : AV} : TameS U nm W (aggEq ty op t x y) := by
 unfold aggEq
 split
 ·split
  ·split
   ·split <;> first | exact tame_boolV | exact tame_fail
   ·exact tame_fail
  ·exact tame_fail
 ·exact tame_fail
theorem tame_bin {op : BinOp} {t : TypeId} {x y : AV} : TameS U nm W (binSpec ty op t x y) := by
 unfold binSpec
 split
 ·split
  ·exact tame_dat
  ·exact tame_dat
  ·split
   ·split <;> first | exact tame_intBd | exact tame_boolV | exact tame_dat | exact tame_fail
   ·exact tame_fail
 ·split
  ·split <;> first | exact tame_boolV | exact tame_dat | exact tame_fail
  ·split
   ·split <;> first | exact tame_boolV | exact tame_fail
   ·unfold nilSpec
    split
    ·split <;> first | exact tame_nilEq | exact tame_fail
    ·exact tame_aggEq

theorem fillA_nb {place : Nat → Option (Nat × Nat)} {e : Operand → AV} (hn : ∀ x, NB U (e x)) : ∀ (parts : List (Nat × Operand)) (cells out : List AV), NBs U cells → fillA place cells (parts.map fun p => (p.1, e p.2)) = some out → NBs U out
 | [], cells, out, hc, h => by simp only [List.map_nil, fillA, Option.some.injEq] at h; subst h; exact hc
 | (i, x) :: rest, cells, out, hc, h => by
  simp only [List.map_cons, fillA] at h
  split at h
  ·rename_i off size cs hp hcs
   split at h
   ·exact fillA_nb hn rest _ out (NBs.spl hc (cells_nb hcs (hn x))) h
   ·cases h
  ·cases h

theorem tame_tabLoad (hσ : ∀ o x, σ o = some x → U o ∧ NBo U x) {T : TyE} {o es k j : Nat} : TameS U nm W (tabLoad σ T o es k j) := by
 unfold tabLoad
 split
 ·rename_i e es' mask l g hole hob
  have hn := hσ _ _ hob
  split
  ·split
   ·split
    ·refine tame_det fun _ => tame_nil (mkAgg_nb (NBs_of fun c hc => ?_))
     unfold tabCells at hc
     obtain ⟨i, _, rfl⟩ := List.mem_map.1 hc
     split
     ·unfold NB; exact hn
     ·unfold NB; trivial
    ·exact tame_fail
   ·split
    ·exact tame_dat
    ·split
     ·refine tame_det fun _ => tame_nil ?_; unfold NB; exact hn
     ·exact tame_fail
  ·exact tame_fail
 ·exact tame_fail
theorem tame_rowLoad {T : TyE} {o g k j es i c : Nat} : TameS U nm W (rowLoad σ T o g k j es i c) := by
 unfold rowLoad
 split
 ·split
  ·split <;> exact tame_dat
  ·exact tame_fail
 ·exact tame_fail
theorem tame_rowStore (hσ : ∀ o x, σ o = some x → U o ∧ NBo U x) {o g k j es i c : Nat} {ds : List D} (hW : W o) : TameS U nm W (rowStore ty σ o g k j es i c ds) := by
 unfold rowStore
 split
 ·rename_i t ht
  have hn := hσ _ _ (tabAt_some ht)
  split
  ·split
   ·split
    ·exact tame_write hW hn.1 hn.2
    ·split
     ·split
      ·exact tame_write hW hn.1 hn.2
      ·exact tame_fail
     ·exact tame_fail
   ·exact tame_fail
  ·exact tame_fail
 ·exact tame_fail
theorem gone_mem {ns : List Nat} {p : Nat × Option Obj'} (h : p ∈ goneD ns) : p.1 ∈ ns ∧ p.2 = none := by
 induction ns with
 | nil => cases h
 | cons n ns ih =>
  have h' : p ∈ (n, none) :: goneD ns := h
  rcases List.mem_cons.1 h' with rfl | h'
  ·exact ⟨List.mem_cons_self .., rfl⟩
  ·exact ⟨List.mem_cons_of_mem _ (ih h').1, (ih h').2⟩
theorem namesL_own {cs : List AV} {n : Nat} (h : n ∈ cs.filterMap ownN) : n ∈ namesL cs := by
 obtain ⟨x, hx, hn⟩ := List.mem_filterMap.1 h
 have := ownN_some hn
 subst this
 exact names_mem hx n (by simp [AV.names])
theorem tame_tabStore (hσ : ∀ o x, σ o = some x → U o ∧ NBo U x) {o es k j : Nat} {cs : List AV} (hW : ∀ n, (n = o ∨ n ∈ namesL cs) → W n) : TameS U nm W (tabStore ty σ nm o es k j cs) := by
 have key : ∀ {p : Prop} {rd ns : List Nat} {x : Obj'}, U o → (∀ n ∈ ns, n ∈ namesL cs) → NBo (Un U nm) x → TameS U nm W (.det p rd .und (goneD ns ++ [(o, some x)])) := by
  intro p rd ns x hU hns hx
  refine tame_det fun _ => ⟨by unfold NB; trivial, fun p hp => ?_, fun p hp z hz => ?_⟩
  ·rcases List.mem_append.1 hp with hp | hp
   ·exact .inr (hW _ (.inr (hns _ (gone_mem hp).1)))
   ·simp at hp; subst hp; exact .inr (hW _ (.inl rfl))
  ·rcases List.mem_append.1 hp with hp | hp
   ·rw [(gone_mem hp).2] at hz; cases hz
   ·simp at hp; subst hp; simp at hz; subst hz
    exact ⟨un_sub hU, hx⟩
 unfold tabStore
 split
 ·rename_i e es' mask l g hole hob
  have hn := hσ _ _ hob
  split
  ·rename_i E ds ns ks hE hput
   obtain ⟨_, q2, _⟩ := tabPut_some hput
   have hns : ∀ n ∈ ns, n ∈ namesL cs := fun n hn => namesL_own (by rw [← q2]; exact hn)
   split
   ·split
    ·exact key hn.1 hns nm_un
    ·split
     ·split
      ·exact key hn.1 hns nm_un
      ·exact tame_fail
     ·exact tame_fail
   ·exact tame_fail
  ·exact tame_fail
 ·exact tame_fail
theorem tame_tabAppend {el : TypeId} {E : TyE} {s : AV} {o2 : Nat} (hW : ∀ n, (n = o2 ∨ n ∈ s.names) → W n) : TameS U nm W (tabAppend σ nm el E s o2) := by
 unfold tabAppend
 split
 ·split
  ·split
   ·refine tame_det fun _ => ⟨own_nb _ nm_un, fun p hp => ?_, fun p hp z hz => ?_⟩
    ·simp only [List.mem_cons, List.not_mem_nil, or_false] at hp
     rcases hp with rfl | rfl
     ·exact .inr (hW _ (.inl rfl))
     ·exact .inl ⟨Nat.le_refl _, by show nm < nm + 16; omega⟩
    ·simp only [List.mem_cons, List.not_mem_nil, or_false] at hp
     rcases hp with rfl | rfl
     ·simp at hz
     ·simp at hz; subst hz; exact ⟨nm_un, nm_un⟩
   ·split
    ·split
     ·refine tame_det fun _ => ⟨own_nb _ nm_un, fun p hp => ?_, fun p hp z hz => ?_⟩
      ·simp only [List.mem_cons, List.not_mem_nil, or_false] at hp
       rcases hp with rfl | rfl | rfl
       ·exact .inr (hW _ (.inr (by simp [AV.names])))
       ·exact .inr (hW _ (.inl rfl))
       ·exact .inl ⟨Nat.le_refl _, by show nm < nm + 16; omega⟩
      ·simp only [List.mem_cons, List.not_mem_nil, or_false] at hp
       rcases hp with rfl | rfl | rfl
       ·simp at hz
       ·simp at hz
       ·simp at hz; subst hz; exact ⟨nm_un, nm_un⟩
     ·exact tame_fail
    ·exact tame_fail
   ·exact tame_fail
  ·exact tame_fail
 ·exact tame_fail
theorem tame_rowAppend (hσ : ∀ o x, σ o = some x → U o ∧ NBo U x) {el : TypeId} {E : TyE} {o g k j : Nat} {l2 : List D} {rd : List Nat} (hW : W o) : TameS U nm W (rowAppend σ nm el E o g k j l2 rd) := by
 unfold rowAppend
 split
 ·rename_i t ht
  have hn := hσ _ _ (tabAt_some ht)
  split
  ·split
   ·refine tame_det fun _ => ⟨own_nb _ nm_un, fun p hp => ?_, fun p hp z hz => ?_⟩
    ·simp only [List.mem_cons, List.not_mem_nil, or_false] at hp
     rcases hp with rfl | rfl
     ·exact .inr hW
     ·exact .inl ⟨Nat.le_refl _, by show nm < nm + 16; omega⟩
    ·simp only [List.mem_cons, List.not_mem_nil, or_false] at hp
     rcases hp with rfl | rfl
     ·simp at hz; subst hz; exact ⟨un_sub hn.1, un_sub hn.2⟩
     ·simp at hz; subst hz; exact ⟨nm_un, trivial⟩
   ·exact tame_fail
  ·exact tame_fail
 ·exact tame_fail
theorem elemsTab_names {mask : List (Option TypeId)} {agg : Bool} {es : Nat} : ∀ {ps : List (Nat × AV)} {k : Nat} {ds : List D} {ns : List Nat}, elemsTab ty σ nm mask agg es k ps = some (ds, ns) → ∀ n ∈ ns, n ∈ namesL (ps.map (·.2))
 | [], k, ds, ns, h => by simp [elemsTab] at h; obtain ⟨_, rfl⟩ := h; simp
 | (i, x) :: ps, k, ds, ns, h => by
  unfold elemsTab at h
  split at h
  ·split at h
   ·rename_i cs hcs
    split at h
    ·split at h
     ·rename_i ds0 ns0 r ns' hput hr
      obtain ⟨_, q2, _⟩ := tabPut_some hput
      split at h
      ·simp only [Option.some.injEq, Prod.mk.injEq] at h
       obtain ⟨_, rfl⟩ := h
       intro n hn
       simp only [List.map_cons]
       unfold namesL
       rcases List.mem_append.1 hn with hn | hn
       ·exact List.mem_append_left _ (cells_names hcs n (namesL_own (by rw [← q2]; exact hn)))
       ·exact List.mem_append_right _ (elemsTab_names hr n hn)
      ·cases h
     ·cases h
    ·cases h
   ·cases h
  ·cases h

theorem aggC_nb {U : Nat → Prop} {x : AV} {l : List AV} (hx : aggC x = some l) (hn : NB U x) : NBs U l := by
 unfold aggC at hx
 split at hx
 ·cases hx; unfold NB at hn; exact hn
 ·rename_i l0
  cases hx
  induction l0 with
  | nil => simp only [List.map_nil]; unfold NBs; trivial
  | cons a l ih => simp only [List.map_cons]; unfold NBs; exact ⟨by unfold NB; trivial, ih (by unfold NB; trivial)⟩
 ·cases hx
theorem tame_spec (hl : Live Γ) {e : Operand → AV} (hfn : ∀ f, e (.func f) = .fn f []) (he : ∀ x, NB U (e x)) (hσ : ∀ o x, σ o = some x → U o ∧ NBo U x) {o : Oper} :
  TameS U nm (fun n => mutB ty Γ o = true ∧ n ∈ rdset σ e o) (spec ty Γ σ e nm o) := by
 obtain ⟨dst, op, type, pos, after, guard⟩ := o
 cases op with
 | move x => exact tame_det fun _ => tame_nil (he x)
 | assign x => exact tame_det fun _ => tame_nil (he x)
 | pick c a b =>
  unfold spec; simp only []
  split
  ·exact tame_split (tame_det fun _ => tame_nil (he a)) (tame_det fun _ => tame_nil (he b))
  ·exact tame_fail
 | alloc t =>
  unfold spec; simp only []
  split
  ·split
   ·exact tame_new (by unfold NB; exact nm_un) trivial
   ·split
    ·exact tame_new (ref_nb _ _ nm_un) scs_nb
    ·exact tame_fail
  ·exact tame_fail
 | box t x =>
  unfold spec; simp only []
  split
  ·rename_i cs hcs
   exact tame_new (ref_nb _ _ nm_un) (NBs.mono (fun _ h => un_sub h) (cells_nb hcs (he x)))
  ·exact tame_fail
 | load t a =>
  unfold spec; simp only []
  unfold loadSpec
  split
  ·exact tame_fail
  ·split
   ·split
    ·rename_i l hob
     have hl := (hσ _ _ hob).2
     split
     ·split
      ·exact tame_det fun _ => tame_nil (mkAgg_nb ((NBs.drop _ hl).take _))
      ·exact tame_fail
     ·split
      ·rename_i v hv
       exact tame_det fun _ => tame_nil (NBs.at _ v hl hv)
      ·exact tame_fail
    ·exact tame_fail
   ·split
    ·split
     ·split <;> exact tame_dat
     ·exact tame_fail
    ·exact tame_tabLoad hσ
    ·exact tame_fail
   ·exact tame_rowLoad
   ·split
    ·exact tame_dat
    ·split
     ·exact tame_dat
     ·exact tame_fail
   ·exact tame_fail
 | store t a x =>
  have hea := he a
  unfold spec; simp only []
  unfold storeSpec
  split
  ·rename_i T cs hT hcs
   have hcn := cells_nb hcs (he x)
   split
   ·split
    ·rename_i ob i hx
     rw [hx] at hea; unfold NB at hea
     split
     ·rename_i l hob
      split
      ·exact tame_write ⟨rfl, by simp [rdset, rdset0, hx, AV.names]⟩ hea (NBs.spl (hσ _ _ hob).2 hcn)
      ·exact tame_fail
     ·exact tame_fail
    ·rename_i ob es k j hx
     rw [hx] at hea; unfold NB at hea
     split
     ·split
      ·split
       ·split
        ·split
         ·exact tame_write ⟨rfl, by simp [rdset, rdset0, hx, AV.names]⟩ hea trivial
         ·split
          ·split
           ·exact tame_write ⟨rfl, by simp [rdset, rdset0, hx, AV.names]⟩ hea trivial
           ·exact tame_fail
          ·exact tame_fail
        ·exact tame_fail
       ·exact tame_fail
      ·exact tame_fail
     ·refine tame_tabStore hσ (fun n hn => ⟨rfl, ?_⟩)
      refine List.mem_append_left _ ?_
      simp only [rdset0, hx]
      rcases hn with rfl | hn
      ·exact List.mem_cons_self ..
      ·exact List.mem_cons_of_mem _ (cells_names hcs n hn)
     ·exact tame_fail
    ·rename_i ob g k j es i c hx
     split
     ·exact tame_rowStore hσ ⟨rfl, by simp [rdset, rdset0, hx, AV.names]⟩
     ·exact tame_fail
    ·exact tame_fail
   ·exact tame_fail
  ·exact tame_fail
 | nilCheck x =>
  have hx := he x
  unfold spec; simp only []
  split
  ·rename_i h; rw [h] at hx; exact tame_det fun _ => tame_nil hx
  ·rename_i h; rw [h] at hx; exact tame_det fun _ => tame_nil hx
  ·rename_i h; rw [h] at hx; exact tame_det fun _ => tame_nil hx
  ·rename_i h; rw [h] at hx; exact tame_det fun _ => tame_nil hx
  ·exact tame_fail
 | binOp op t x y u => exact tame_bin
 | unOp op t x =>
  cases op
  case not =>
   unfold spec; simp only []
   split
   ·exact tame_boolV
   ·exact tame_fail
  case neg =>
   unfold spec; simp only []
   split
   ·exact tame_intBd
   ·exact tame_fail
  all_goals exact tame_fail
 | convert s d x =>
  unfold spec; simp only []
  split
  ·exact tame_dat
  ·unfold convSpec
   split
   ·split
    ·exact tame_dat
    ·exact tame_fail
   ·split
    ·exact tame_new (own_nb _ nm_un) trivial
    ·exact tame_fail
   ·exact tame_fail
 | slice t x lo hi mx =>
  cases mx with
  | some m => exact tame_fail
  | none =>
   unfold spec; simp only []
   unfold sliceSpec
   split
   ·split
    ·split
     ·exact tame_dat
     ·split
      ·exact tame_dat
      ·exact tame_fail
    ·exact tame_fail
   ·rename_i hts hl
    split
    ·unfold arrAll
     split
     ·rename_i ob hex
      split
      ·rename_i cs hob
       split
       ·split
        ·refine tame_det fun _ => ⟨by unfold NB; trivial, fun q hq => ?_, fun q hq y hy => ?_⟩
         ·simp at hq; subst hq
          exact .inr ⟨by simp only [mutB, isArrT]; rw [hts]; simp, by simp [rdset, rdset0, hex, AV.names]⟩
         ·simp at hq; subst hq; cases hy
        ·exact tame_fail
       ·exact tame_fail
      ·exact tame_fail
     ·exact tame_fail
    ·exact tame_fail
   ·split
    ·split
     ·split
      ·exact tame_dat
      ·split
       ·exact tame_dat
       ·exact tame_fail
     ·exact tame_fail
    ·rename_i el E ob hel hex
     have key : ∀ {p : Prop} {rd : List Nat} {a : TypeId} {b : Nat} {l : List D}, TameS U nm (fun n => mutB ty Γ ⟨dst, .slice t x lo hi none, type, pos, after, guard⟩ = true ∧ n ∈ rdset σ e ⟨dst, .slice t x lo hi none, type, pos, after, guard⟩) (.det p rd (.own nm) [(ob, none), (nm, some (.arr a b l))]) := by
      intro p rd a b l
      refine tame_det fun _ => ⟨own_nb _ nm_un, fun q hq => ?_, fun q hq y hy => ?_⟩
      ·simp at hq; rcases hq with rfl | rfl
       ·exact .inr ⟨by simp only [mutB]; rw [hel]; rfl, by simp [rdset, rdset0, hex, AV.names]⟩
       ·exact .inl ⟨Nat.le_refl _, by show nm < nm + 16; omega⟩
      ·simp at hq; rcases hq with rfl | rfl
       ·cases hy
       ·simp at hy; subst hy
        exact ⟨nm_un, trivial⟩
     split
     ·split
      ·split
       ·exact key
       ·split
        ·exact key
        ·exact tame_fail
      ·exact tame_fail
     ·exact tame_fail
    ·rename_i hex
     have hx := he x
     rw [hex] at hx
     split
     ·split
      ·unfold rowSlice
       split
       ·split
        ·refine tame_det fun _ => tame_nil ?_; unfold NB at hx ⊢; exact hx
        ·exact tame_fail
       ·exact tame_fail
      ·exact tame_fail
     ·exact tame_fail
    ·exact tame_fail
   ·exact tame_fail
 | fieldAddr s x f =>
  have hx := he x
  unfold spec; simp only []
  unfold fieldSpec
  split
  ·exact tame_fail
  ·split
   ·rename_i h; rw [h] at hx; refine tame_det fun _ => tame_nil ?_; unfold NB at hx ⊢; exact hx
   ·rename_i h; rw [h] at hx; refine tame_det fun _ => tame_nil ?_; unfold NB at hx ⊢; exact hx
   ·rename_i h; rw [h] at hx; refine tame_det fun _ => tame_nil ?_; unfold NB at hx ⊢; exact hx
   ·refine tame_det fun _ => tame_nil ?_; unfold NB; trivial
   ·exact tame_fail
 | indexAddr t x i =>
  have hx := he x
  unfold spec; simp only []
  unfold indexSpec
  split
  ·split
   ·split
    ·refine tame_det fun _ => tame_nil ?_; unfold NB; trivial
    ·exact tame_fail
   ·rename_i h
    rw [h] at hx
    split
    ·split
     ·refine tame_det fun _ => tame_nil ?_; unfold NB at hx ⊢; exact hx
     ·exact tame_fail
    ·split
     ·refine tame_det fun _ => tame_nil ?_; unfold NB at hx ⊢; exact hx
     ·exact tame_fail
    ·exact tame_fail
   ·rename_i h
    rw [h] at hx
    unfold rowIndex
    split
    ·split
     ·refine tame_det fun _ => tame_nil ?_; unfold NB at hx ⊢; exact hx
     ·exact tame_fail
    ·exact tame_fail
   ·rename_i h
    rw [h] at hx
    split
    ·refine tame_det fun _ => tame_nil ?_; unfold NB at hx ⊢; exact hx
    ·exact tame_fail
   ·exact tame_fail
  ·unfold arrIndex
   split
   ·split
    ·split
     ·rename_i h; rw [h] at hx; refine tame_det fun _ => tame_nil ?_; unfold NB at hx ⊢; exact hx
     ·rename_i h; rw [h] at hx
      split
      ·refine tame_det fun _ => tame_nil ?_; unfold NB at hx ⊢; exact hx
      ·refine tame_det fun _ => tame_nil ?_; unfold NB at hx ⊢; exact hx
     ·rename_i h; rw [h] at hx; refine tame_det fun _ => tame_nil ?_; unfold NB at hx ⊢; exact hx
     ·refine tame_det fun _ => tame_nil ?_; unfold NB; trivial
     ·exact tame_fail
    ·exact tame_fail
   ·exact tame_fail
  ·exact tame_fail
 | index t x i =>
  have hx := he x
  unfold spec; simp only []
  split
  ·exact tame_dat
  ·unfold arrVal
   split
   ·split
    ·rename_i hl
     have hls : NBs U _ := (aggC_nb hl hx)
     split
     ·split
      ·exact tame_det fun _ => tame_nil (mkAgg_nb ((NBs.drop _ hls).take _))
      ·exact tame_fail
     ·split
      ·rename_i v hv
       exact tame_det fun _ => tame_nil (NBs.at _ v hls hv)
      ·exact tame_fail
    ·exact tame_fail
   ·exact tame_fail
 | field s x f =>
  have hx := he x
  unfold spec; simp only [fieldV]
  split
  ·split
   ·split
    ·rename_i hl
     have hls : NBs U _ := (aggC_nb hl hx)
     split
     ·split
      ·exact tame_det fun _ => tame_nil (mkAgg_nb ((NBs.drop _ hls).take _))
      ·exact tame_fail
     ·split
      ·rename_i v hv
       exact tame_det fun _ => tame_nil (NBs.at _ v hls hv)
      ·exact tame_fail
    ·exact tame_fail
   ·exact tame_fail
  ·exact tame_fail
 | extract x i =>
  have hx := he x
  unfold spec; simp only []
  split
  ·rename_i l h
   rw [h] at hx; unfold NB at hx
   split
   ·rename_i v hv
    exact tame_det fun _ => tame_nil (NBs.at _ v hx hv)
   ·exact tame_fail
  ·exact tame_fail
 | build t parts =>
  unfold spec; simp only []
  unfold buildSpec
  split
  ·split
   ·split
    ·rename_i cells hc
     exact tame_det fun _ => tame_nil (mkAgg_nb (fillA_nb he parts.toList _ cells scs_nb hc))
    ·exact tame_fail
   ·exact tame_fail
  ·split
   ·split
    ·split
     ·rename_i cells hc
      exact tame_det fun _ => tame_nil (mkAgg_nb (fillA_nb he parts.toList _ cells scs_nb hc))
     ·exact tame_fail
    ·exact tame_fail
   ·exact tame_fail
  ·exact tame_fail
 | buildSlice t len parts =>
  unfold spec; simp only []
  unfold buildSliceSpec
  split
  ·split
   ·split
    ·exact tame_new (own_nb _ nm_un) trivial
    ·split
     ·rename_i hsl
      split
      ·rename_i ds ns hds
       have hmem := elemsTab_names hds
       refine tame_det fun _ => ⟨own_nb _ nm_un, fun p hp => ?_, fun p hp z hz => ?_⟩
       ·rcases List.mem_append.1 hp with hp | hp
        ·obtain ⟨h1, h2⟩ := gone_mem hp
         refine .inr ⟨by simp only [mutB]; rw [‹elemOf ty t = _›]; exact hsl, ?_⟩
         refine List.mem_append_left _ ?_
         simp only [rdset0]
         have := hmem p.1 h1
         rw [List.map_map] at this
         exact this
        ·simp at hp; subst hp; exact .inl ⟨Nat.le_refl _, by show nm < nm + 16; omega⟩
       ·rcases List.mem_append.1 hp with hp | hp
        ·obtain ⟨h1, h2⟩ := gone_mem hp
         rw [h2] at hz; cases hz
        ·simp at hp; subst hp; simp at hz; subst hz; exact ⟨nm_un, nm_un⟩
      ·exact tame_fail
     ·exact tame_fail
   ·exact tame_fail
  ·exact tame_fail
 | makeMap t r =>
  cases r with
  | none =>
   unfold spec; simp only []
   unfold makeMapSpec
   split
   ·exact tame_new (own_nb _ nm_un) trivial
   ·exact tame_fail
  | some r => exact tame_fail
 | lookup t x i ok =>
  cases ok with
  | true =>
   unfold spec; simp only []
   unfold lookupSpec
   split
   ·split
    ·refine tame_det fun _ => tame_nil ?_
     unfold NB NBs
     exact ⟨by unfold NB; trivial, by unfold NBs; exact ⟨by unfold NB; trivial, by unfold NBs; trivial⟩⟩
    ·exact tame_fail
   ·exact tame_fail
  | false => exact tame_fail
 | mapUpdate t x i v =>
  unfold spec; simp only []
  unfold mapPutSpec
  split
  ·rename_i E ob t' l k d hm hx hi hd
   obtain ⟨hex, hob⟩ := mpAt_some hx
   split
   ·exact tame_write ⟨rfl, by simp [rdset, rdset0, hex, AV.names]⟩ (hσ _ _ hob).1 trivial
   ·exact tame_fail
  ·exact tame_fail
 | makeSlice t l c =>
  unfold spec; simp only []
  unfold makeSpec
  split
  ·split
   ·split
    ·split
     ·exact tame_new (own_nb _ nm_un) trivial
     ·exact tame_new (own_nb _ nm_un) nm_un
    ·exact tame_fail
   ·exact tame_fail
  ·exact tame_fail
 | call c =>
  obtain ⟨callee, args, argTypes⟩ := c
  cases callee with
  | value c =>
   unfold spec; simp only []
   split
   ·rename_i f caps hcv
    unfold callSpec
    cases hS : Γ f with
    | none => exact tame_fail
    | some S =>
     simp only []
     split
     ·exact tame_fail
     ·rename_i ds ns_ rd_ hargs'
      obtain ⟨⟨ds0, ns, rd⟩, hargs, hargs2⟩ := Option.map_eq_some_iff.1 hargs'
      simp only [Prod.mk.injEq] at hargs2
      obtain ⟨hds, rfl, rfl⟩ := hargs2
      split
      ·exact tame_fail
      ·rename_i obs hobs
       intro hp
       obtain ⟨_, p1, p2, p3, p5, p4⟩ := (show _ ∧ _ ∧ _ ∧ _ ∧ _ ∧ _ from hp)
       refine ⟨?_, ?_⟩
       ·obtain ⟨r, new, obs', hr⟩ := hl f S hS ds obs p1
        exact ⟨_, _, r, new, obs', hr, rfl, rfl⟩
       rintro av δ ⟨r, new, obs', hpost, rfl, rfl⟩
       have res := p4 r new obs' hpost
       obtain ⟨hol, hoj⟩ := objsOf_some hobs
       have g1 := args_names S.lend _ ds0 ns rd hargs
       have hlent : ∀ (f : Nat → Nat) (ns : List Nat) (obs : List Obj') (g : Nat), ∀ p ∈ lentF f g ns obs, p.1 ∈ ns ∧ ∀ x, p.2 = some x → ∃ y q, y ∈ obs ∧ x = (y.ren f).regen q ∧ g ≤ q ∧ q < g + obs.length := by
        intro f ns
        induction ns with
        | nil => intro obs g p hp; simp [lentF] at hp
        | cons n ns ih =>
         intro obs g p hp
         cases obs with
         | nil =>
          simp only [lentF, List.mem_cons] at hp
          rcases hp with rfl | hp
          ·exact ⟨List.mem_cons_self .., fun y hy => by cases hy⟩
          ·obtain ⟨h1, h2⟩ := ih [] (g + 1) p hp
           refine ⟨List.mem_cons_of_mem _ h1, fun y hy => ?_⟩
           obtain ⟨z, q, k1, k2, k3, k4⟩ := h2 y hy
           cases k1
         | cons x obs =>
          simp only [lentF, List.mem_cons] at hp
          rcases hp with rfl | hp
          ·exact ⟨List.mem_cons_self .., fun y hy => by simp at hy; subst hy; exact ⟨x, g, List.mem_cons_self .., rfl, Nat.le_refl _, by simp⟩⟩
          ·obtain ⟨h1, h2⟩ := ih obs (g + 1) p hp
           refine ⟨List.mem_cons_of_mem _ h1, fun y hy => ?_⟩
           obtain ⟨z, q, k1, k2, k3, k4⟩ := h2 y hy
           exact ⟨z, q, List.mem_cons_of_mem _ k1, k2, by omega, by simp only [List.length_cons]; omega⟩
       have hnew : ∀ (f : Nat → Nat) (new : List Obj') (k : Nat), ∀ p ∈ newF f k new, k ≤ p.1 ∧ p.1 < k + new.length ∧ ∀ x, p.2 = some x → ∃ z, z ∈ new ∧ x = (z.ren f).regen p.1 := by
        intro f new
        induction new with
        | nil => intro k p hp; simp [newF] at hp
        | cons x new ih =>
         intro k p hp
         simp only [newF, List.mem_cons] at hp
         rcases hp with rfl | hp
         ·exact ⟨Nat.le_refl _, by simp, fun y hy => by simp at hy; exact ⟨x, List.mem_cons_self .., hy.symm⟩⟩
         ·obtain ⟨h1, h2, h3⟩ := ih (k + 1) p hp
          exact ⟨by omega, by simp only [List.length_cons]; omega, fun y hy => by
           obtain ⟨z, hz, hz2⟩ := h3 y hy
           exact ⟨z, List.mem_cons_of_mem _ hz, hz2⟩⟩
       have hU : ∀ n ∈ ns, U n := fun n hn => by
        obtain ⟨j, hj⟩ := List.getElem?_of_mem hn
        obtain ⟨x, _, hx⟩ := hoj j n hj
        exact (hσ n x hx).1
       have few := res.few
       refine ⟨NB.shift (by omega) res.nbr, fun p hp => ?_, fun p hp x hx => ?_⟩
       ·rcases List.mem_append.1 hp with hp | hp
        ·have hpn := (hlent _ ns obs' _ p hp).1
         refine .inr ⟨?_, ?_⟩
         ·cases c with
          | func f' =>
           have hff := hfn f'
           rw [hcv] at hff
           cases hff
           unfold mutB
           simp only [hS]
           cases hl : lends S.lend with
           | true => rfl
           | false => rw [args_lends hargs hl] at hpn; cases hpn
          | _ => rfl
         ·have := g1 p.1 hpn
          have h0 : rdset0 e ⟨dst, .call ⟨.value c, args, argTypes⟩, type, pos, after, guard⟩ = namesL (args.toList.map e ++ caps) := by
           simp only [rdset0, calNames, hcv]
           rw [namesL_append]
           conv => lhs; arg 2; unfold AV.names
          simp only [rdset, xset]
          rw [h0]
          exact this
        ·obtain ⟨h1, h2, _⟩ := hnew _ new nm p hp
         exact .inl ⟨h1, by omega⟩
       ·rcases List.mem_append.1 hp with hp | hp
        ·obtain ⟨h1, h2⟩ := hlent _ ns obs' _ p hp
         obtain ⟨z, q, k1, rfl, k3, k4⟩ := h2 x hx
         have := res.same
         exact ⟨un_sub (hU p.1 h1), NBl.nbo (.inr ⟨by omega, by omega⟩) (fun i hi => by
          have hin : i < ns.length := by omega
          have e1 : ns.getD i 0 = ns[i]'hin := by rw [List.getD_eq_getElem?_getD, List.getElem?_eq_getElem hin]; rfl
          show Un U nm (ns.getD i 0)
          rw [e1]
          exact un_sub (hU _ (List.getElem_mem hin))) (res.nbo.2 z k1)⟩
        ·obtain ⟨h1, h2, h4⟩ := hnew _ new nm p hp
         obtain ⟨z, hz1, hz2⟩ := h4 x hx
         subst hz2
         exact ⟨.inr ⟨h1, by omega⟩, NBl.nbo (.inr ⟨h1, by omega⟩) (fun i hi => .inr ⟨by omega, by omega⟩) (res.nbo.1 z hz1)⟩
   ·exact tame_fail
  | invoke r m => exact tame_fail
  | builtin b =>
   cases b
   case len =>
    unfold spec; simp only []
    split
    ·unfold lenSpec
     split
     ·split
      ·exact tame_dat
      ·exact tame_fail
     ·split
      ·exact tame_dat
      ·exact tame_dat
      ·split
       ·exact tame_dat
       ·exact tame_dat
       ·exact tame_fail
      ·unfold rowLen
       split
       ·split
        ·exact tame_dat
        ·exact tame_fail
       ·exact tame_fail
      ·exact tame_dat
      ·exact tame_fail
     ·exact tame_fail
    ·exact tame_fail
   case append =>
    unfold spec; simp only []
    split
    ·rename_i x y t t' hx ht
     have hex := he x
     unfold appendSpec
     split
     ·split
      ·split
       ·split
        ·exact tame_new (own_nb _ nm_un) trivial
        ·rename_i ob hxo
         rw [hxo] at hex; unfold NB at hex
         split
         ·split
          ·refine tame_det fun _ => ⟨own_nb _ nm_un, fun p hp => ?_, fun p hp z hz => ?_⟩
           ·simp only [List.mem_cons, List.not_mem_nil, or_false] at hp
            rcases hp with rfl | rfl
            ·exact .inr ⟨rfl, by simp [rdset, rdset0, hx, namesL, hxo, AV.names]⟩
            ·exact .inl ⟨Nat.le_refl _, by show nm < nm + 16; omega⟩
           ·simp only [List.mem_cons, List.not_mem_nil, or_false] at hp
            rcases hp with rfl | rfl
            ·simp at hz
            ·simp at hz; subst hz; exact ⟨nm_un, trivial⟩
          ·exact tame_fail
         ·exact tame_fail
        ·rename_i ob g k j hxo
         refine tame_rowAppend hσ ⟨rfl, ?_⟩
         simp [rdset, rdset0, hx, namesL, hxo, AV.names]
        ·exact tame_fail
       ·split
        ·rename_i o2 hyo
         refine tame_tabAppend (fun n hn => ⟨rfl, ?_⟩)
         refine List.mem_append_left _ ?_
         simp only [rdset0, calNames, hx, List.map_cons, List.map_nil, namesL, List.append_nil]
         rcases hn with rfl | hn
         ·exact List.mem_append_right _ (by rw [hyo]; simp [AV.names])
         ·exact List.mem_append_left _ hn
        ·exact tame_fail
      ·exact tame_fail
     ·exact tame_fail
    ·exact tame_fail
   case max =>
    unfold spec; simp only []
    split
    ·split
     ·exact tame_dat
     ·exact tame_fail
    ·split
     ·exact tame_dat
     ·exact tame_fail
    ·exact tame_fail
   case min =>
    unfold spec; simp only []
    split
    ·split
     ·exact tame_dat
     ·exact tame_fail
    ·exact tame_fail
   all_goals exact tame_fail
 | makeFunc fn first caps =>
  cases fn with
  | func f =>
   unfold spec; simp only []
   split
   ·exact tame_det fun _ => tame_nil (by unfold NB; exact nbs_map he _)
   ·exact tame_fail
  | _ => exact tame_fail
 | _ => exact tame_fail

end
end Go.Ab
