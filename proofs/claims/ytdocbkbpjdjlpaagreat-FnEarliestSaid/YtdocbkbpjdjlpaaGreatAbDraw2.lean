/- My own layer, sixteenth part: what an operation can turn, and the names that it hands on. -/
import Derived.Test.YtdocbkbpjdjlpaaGreatAbDraw
namespace Go.Ab
set_option linter.unusedVariables false
set_option linter.unusedSimpArgs false
def Live (Γ : Nat -> Option FnSpec) : Prop := ∀ f S, Γ f = some S -> ∀ ds obs, S.pre ds obs -> ∃ r new obs', S.post ds obs r new obs'

section
variable {U : Nat -> Prop} {nm : Nat} {σ : Objs} {ty : TypeId -> Option TyE} {Γ : Nat -> Option FnSpec}

def Rng (nm n : Nat) : Prop := nm <= n /\ n < nm + 16

structure Tame (U : Nat -> Prop) (nm : Nat) (W : Nat -> Prop) (av : AV) (δ : jbe) : Prop where
 nb : NB (Un U nm) av
 key : ∀ p ∈ δ, Rng nm p.1 \/ W p.1
 ob : ∀ p ∈ δ, ∀ x, p.2 = some x -> Un U nm p.1 /\ NBo (Un U nm) x

def jcm (U : Nat -> Prop) (nm : Nat) (W : Nat -> Prop) (s : Spec) : Prop := s.pre -> (∃ av δ, s.R av δ) /\ ∀ av δ, s.R av δ -> Tame U nm W av δ

variable {W : Nat -> Prop}

theorem jaa : jcm U nm W .fail := fun hp => hp.elim
theorem jal {p : Prop} {rd : List Nat} {av : AV} {δ : jbe} (h : p -> Tame U nm W av δ) : jcm U nm W (.det p rd av δ) := by
 intro hp
 refine ⟨⟨av, δ, rfl, rfl⟩, ?_⟩
 rintro av' δ' ⟨h1, h2⟩
 subst h1; subst h2; exact h hp
theorem jao {av : AV} (h : NB U av) : Tame U nm W av [] := ⟨NB.mono (fun _ h => jaw h) h, by simp, by simp⟩
theorem jau {p : Prop} {rd : List Nat} {d : D} : jcm U nm W (.det p rd (.dat d) []) := jal fun _ => jao (je8 d)
theorem jfd {b : Bool} {s t : Spec} (h : jcm U nm W s) (h' : jcm U nm W t) : jcm U nm W (.split b s t) := by
 cases b
 ·exact h'
 ·exact h
theorem jc0 {p : Prop} {rd : List Nat} {av : AV} {x : Obj'} (h : NB (Un U nm) av) (hx : NBo (Un U nm) x) : jcm U nm W (.det p rd av [(nm, some x)]) := by
 refine jal fun _ => ⟨h, fun p hp => ?_, fun p hp y hy => ?_⟩
 ·simp at hp; subst hp; exact .inl ⟨Nat.le_refl _, by show nm < nm + 16; omega⟩
 ·simp at hp; subst hp; simp at hy; subst hy
  exact ⟨jbg, hx⟩
theorem jdc {p : Prop} {rd : List Nat} {o : Nat} {x : Obj'} (hW : W o) (hU : U o) (hx : NBo U x) : jcm U nm W (.det p rd .und [(o, some x)]) := by
 refine jal fun _ => ⟨by unfold NB; trivial, fun p hp => ?_, fun p hp y hy => ?_⟩
 ·simp at hp; subst hp; exact .inr hW
 ·simp at hp; subst hp; simp at hy; subst hy
  exact ⟨jaw hU, NBo.mono (fun _ h => jaw h) hx⟩

theorem jjk {x : AV} {cs : List AV} (hx : x.cells = some cs) (hn : NB U x) : NBs U cs := by
 have single : ∀ {y : AV}, NB U y -> NBs U [y] := fun {y} h => by unfold NBs; exact ⟨h, by unfold NBs; trivial⟩
 cases x with
 | dat d =>
  cases d with
  | agg l => simp only [AV.cells, Option.some.injEq] at hx; subst hx; exact jjj
  | sc u => simp only [AV.cells, Option.some.injEq] at hx; subst hx; exact single hn
  | sl es l => simp only [AV.cells, Option.some.injEq] at hx; subst hx; exact single hn
 | aggv l => simp only [AV.cells, Option.some.injEq] at hx; subst hx; unfold NB at hn; exact hn
 | tup l => simp [AV.cells] at hx
 | und => simp [AV.cells] at hx
 | unk => simp [AV.cells] at hx
 | _ => simp only [AV.cells, Option.some.injEq] at hx; subst hx; exact single hn

theorem jh5 {k : IntKind} {r : Int} : jcm U nm W (jkb k r) := jau
theorem jdd {b : Bool} : jcm U nm W (jdb b) := jau

theorem jm4 {neg : Bool} {x : AV} : jcm U nm W (jj6 neg x) := by
 unfold jj6
 split
 ·exact jau
 ·intro _
  refine ⟨⟨.dat (.sc (.bool (false != neg))), [], rfl, false, rfl, fun _ => rfl⟩, ?_⟩
  rintro av δ ⟨rfl, b, rfl, _⟩
  exact jao (by unfold NB; trivial)
 ·exact jau
 ·exact jaa
theorem jm5 {op : BinOp} {t : TypeId} {x y : AV} : jcm U nm W (jln ty op t x y) := by
 unfold jln
 split
 ·split
  ·split
   ·split <;> first | exact jdd | exact jaa
   ·exact jaa
  ·exact jaa
 ·exact jaa
theorem jql {op : BinOp} {t : TypeId} {x y : AV} : jcm U nm W (jfr ty op t x y) := by
 unfold jfr
 split
 ·split
  ·exact jau
  ·exact jau
  ·split
   ·split <;> first | exact jh5 | exact jdd | exact jau | exact jaa
   ·exact jaa
 ·split
  ·split <;> first | exact jdd | exact jau | exact jaa
  ·split
   ·split <;> first | exact jdd | exact jaa
   ·unfold jgz
    split
    ·split <;> first | exact jm4 | exact jaa
    ·exact jm5

theorem jjf {place : Nat -> Option (Nat × Nat)} {e : Operand -> AV} (hn : ∀ x, NB U (e x)) : ∀ (parts : List (Nat × Operand)) (cells out : List AV), NBs U cells -> jjg place cells (parts.map fun p => (p.1, e p.2)) = some out -> NBs U out
 | [], cells, out, hc, h => by simp only [List.map_nil, jjg, Option.some.injEq] at h; subst h; exact hc
 | (i, x) :: rest, cells, out, hc, h => by
  simp only [List.map_cons, jjg] at h
  split at h
  ·rename_i off size cs hp hcs
   split at h
   ·exact jjf hn rest _ out (NBs.spl hc (jjk hcs (hn x))) h
   ·cases h
  ·cases h

theorem jjr (hσ : ∀ o x, σ o = some x -> U o /\ NBo U x) {T : TyE} {o es k j : Nat} : jcm U nm W (jcl σ T o es k j) := by
 unfold jcl
 split
 ·rename_i e es' mask l g hole hob
  have hn := hσ _ _ hob
  split
  ·split
   ·split
    ·refine jal fun _ => jao (jb3 (jm2 fun c hc => ?_))
     unfold jdj at hc
     obtain ⟨i, _, rfl⟩ := List.mem_map.1 hc
     split
     ·unfold NB; exact hn
     ·unfold NB; trivial
    ·exact jaa
   ·split
    ·exact jau
    ·split
     ·refine jal fun _ => jao ?_; unfold NB; exact hn
     ·exact jaa
  ·exact jaa
 ·exact jaa
theorem jjs {T : TyE} {o g k j es i c : Nat} : jcm U nm W (jcw σ T o g k j es i c) := by
 unfold jcw
 split
 ·split
  ·split <;> exact jau
  ·exact jaa
 ·exact jaa
theorem jis (hσ : ∀ o x, σ o = some x -> U o /\ NBo U x) {o g k j es i c : Nat} {ds : List D} (hW : W o) : jcm U nm W (jcc ty σ o g k j es i c ds) := by
 unfold jcc
 split
 ·rename_i t ht
  have hn := hσ _ _ (jbv ht)
  split
  ·split
   ·split
    ·exact jdc hW hn.1 hn.2
    ·split
     ·split
      ·exact jdc hW hn.1 hn.2
      ·exact jaa
     ·exact jaa
   ·exact jaa
  ·exact jaa
 ·exact jaa
theorem jgb {ns : List Nat} {p : Nat × Option Obj'} (h : p ∈ je5 ns) : p.1 ∈ ns /\ p.2 = none := by
 induction ns with
 | nil => cases h
 | cons n ns ih =>
  have h' : p ∈ (n, none) :: je5 ns := h
  rcases List.mem_cons.1 h' with rfl | h'
  ·exact ⟨List.mem_cons_self .., rfl⟩
  ·exact ⟨List.mem_cons_of_mem _ (ih h').1, (ih h').2⟩
theorem jid {cs : List AV} {n : Nat} (h : n ∈ cs.filterMap ownN) : n ∈ jan cs := by
 obtain ⟨x, hx, hn⟩ := List.mem_filterMap.1 h
 have := jez hn
 subst this
 exact jox hx n (by simp [AV.names])
theorem jir (hσ : ∀ o x, σ o = some x -> U o /\ NBo U x) {o es k j : Nat} {cs : List AV} (hW : ∀ n, (n = o \/ n ∈ jan cs) -> W n) : jcm U nm W (jb8 ty σ nm o es k j cs) := by
 have key : ∀ {p : Prop} {rd ns : List Nat} {x : Obj'}, U o -> (∀ n ∈ ns, n ∈ jan cs) -> NBo (Un U nm) x -> jcm U nm W (.det p rd .und (je5 ns ++ [(o, some x)])) := by
  intro p rd ns x hU hns hx
  refine jal fun _ => ⟨by unfold NB; trivial, fun p hp => ?_, fun p hp z hz => ?_⟩
  ·rcases List.mem_append.1 hp with hp | hp
   ·exact .inr (hW _ (.inr (hns _ (jgb hp).1)))
   ·simp at hp; subst hp; exact .inr (hW _ (.inl rfl))
  ·rcases List.mem_append.1 hp with hp | hp
   ·rw [(jgb hp).2] at hz; cases hz
   ·simp at hp; subst hp; simp at hz; subst hz
    exact ⟨jaw hU, hx⟩
 unfold jb8
 split
 ·rename_i e es' mask l g hole hob
  have hn := hσ _ _ hob
  split
  ·rename_i E ds ns ks hE hput
   obtain ⟨_, q2, _⟩ := jct hput
   have hns : ∀ n ∈ ns, n ∈ jan cs := fun n hn => jid (by rw [<- q2]; exact hn)
   split
   ·split
    ·exact key hn.1 hns jbg
    ·split
     ·split
      ·exact key hn.1 hns jbg
      ·exact jaa
     ·exact jaa
   ·exact jaa
  ·exact jaa
 ·exact jaa
theorem jhp {el : TypeId} {E : TyE} {s : AV} {o2 : Nat} (hW : ∀ n, (n = o2 \/ n ∈ s.names) -> W n) : jcm U nm W (jb9 σ nm el E s o2) := by
 unfold jb9
 split
 ·split
  ·split
   ·refine jal fun _ => ⟨jb0 _ jbg, fun p hp => ?_, fun p hp z hz => ?_⟩
    ·simp only [List.mem_cons, List.not_mem_nil, or_false] at hp
     rcases hp with rfl | rfl
     ·exact .inr (hW _ (.inl rfl))
     ·exact .inl ⟨Nat.le_refl _, by show nm < nm + 16; omega⟩
    ·simp only [List.mem_cons, List.not_mem_nil, or_false] at hp
     rcases hp with rfl | rfl
     ·simp at hz
     ·simp at hz; subst hz; exact ⟨jbg, jbg⟩
   ·split
    ·split
     ·refine jal fun _ => ⟨jb0 _ jbg, fun p hp => ?_, fun p hp z hz => ?_⟩
      ·simp only [List.mem_cons, List.not_mem_nil, or_false] at hp
       rcases hp with rfl | rfl | rfl
       ·exact .inr (hW _ (.inr (by simp [AV.names])))
       ·exact .inr (hW _ (.inl rfl))
       ·exact .inl ⟨Nat.le_refl _, by show nm < nm + 16; omega⟩
      ·simp only [List.mem_cons, List.not_mem_nil, or_false] at hp
       rcases hp with rfl | rfl | rfl
       ·simp at hz
       ·simp at hz
       ·simp at hz; subst hz; exact ⟨jbg, jbg⟩
     ·exact jaa
    ·exact jaa
   ·exact jaa
  ·exact jaa
 ·exact jaa
theorem jhq (hσ : ∀ o x, σ o = some x -> U o /\ NBo U x) {el : TypeId} {E : TyE} {o g k j : Nat} {l2 : List D} {rd : List Nat} (hW : W o) : jcm U nm W (jbz σ nm el E o g k j l2 rd) := by
 unfold jbz
 split
 ·rename_i t ht
  have hn := hσ _ _ (jbv ht)
  split
  ·split
   ·refine jal fun _ => ⟨jb0 _ jbg, fun p hp => ?_, fun p hp z hz => ?_⟩
    ·simp only [List.mem_cons, List.not_mem_nil, or_false] at hp
     rcases hp with rfl | rfl
     ·exact .inr hW
     ·exact .inl ⟨Nat.le_refl _, by show nm < nm + 16; omega⟩
    ·simp only [List.mem_cons, List.not_mem_nil, or_false] at hp
     rcases hp with rfl | rfl
     ·simp at hz; subst hz; exact ⟨jaw hn.1, jaw hn.2⟩
     ·simp at hz; subst hz; exact ⟨jbg, trivial⟩
   ·exact jaa
  ·exact jaa
 ·exact jaa
theorem jda {mask : List (Option TypeId)} {agg : Bool} {es : Nat} : ∀ {ps : List (Nat × AV)} {k : Nat} {ds : List D} {ns : List Nat}, jbm ty σ nm mask agg es k ps = some (ds, ns) -> ∀ n ∈ ns, n ∈ jan (ps.map (·.2))
 | [], k, ds, ns, h => by simp [jbm] at h; obtain ⟨_, rfl⟩ := h; simp
 | (i, x) :: ps, k, ds, ns, h => by
  unfold jbm at h
  split at h
  ·split at h
   ·rename_i cs hcs
    split at h
    ·split at h
     ·rename_i ds0 ns0 r ns' hput hr
      obtain ⟨_, q2, _⟩ := jct hput
      split at h
      ·simp only [Option.some.injEq, Prod.mk.injEq] at h
       obtain ⟨_, rfl⟩ := h
       intro n hn
       simp only [List.map_cons]
       unfold jan
       rcases List.mem_append.1 hn with hn | hn
       ·exact List.mem_append_left _ (jcz hcs n (jid (by rw [<- q2]; exact hn)))
       ·exact List.mem_append_right _ (jda hr n hn)
      ·cases h
     ·cases h
    ·cases h
   ·cases h
  ·cases h

theorem jqe {U : Nat -> Prop} {x : AV} {l : List AV} (hx : aggC x = some l) (hn : NB U x) : NBs U l := by
 unfold aggC at hx
 split at hx
 ·cases hx; unfold NB at hn; exact hn
 ·rename_i l0
  cases hx
  induction l0 with
  | nil => simp only [List.map_nil]; unfold NBs; trivial
  | cons a l ih => simp only [List.map_cons]; unfold NBs; exact ⟨by unfold NB; trivial, ih (by unfold NB; trivial)⟩
 ·cases hx
theorem jny (hl : Live Γ) {e : Operand -> AV} (hfn : ∀ f, e (.func f) = .fn f []) (he : ∀ x, NB U (e x)) (hσ : ∀ o x, σ o = some x -> U o /\ NBo U x) {o : Oper} :
  jcm U nm (fun n => mutB ty Γ o = true /\ n ∈ jbq σ e o) (spec ty Γ σ e nm o) := by
 obtain ⟨dst, op, type, pos, after, guard⟩ := o
 cases op with
 | move x => exact jal fun _ => jao (he x)
 | assign x => exact jal fun _ => jao (he x)
 | pick c a b =>
  unfold spec; simp only []
  split
  ·exact jfd (jal fun _ => jao (he a)) (jal fun _ => jao (he b))
  ·exact jaa
 | alloc t =>
  unfold spec; simp only []
  split
  ·split
   ·exact jc0 (by unfold NB; exact jbg) trivial
   ·split
    ·exact jc0 (joi _ _ jbg) jh9
    ·exact jaa
  ·exact jaa
 | box t x =>
  unfold spec; simp only []
  split
  ·rename_i cs hcs
   exact jc0 (joi _ _ jbg) (NBs.mono (fun _ h => jaw h) (jjk hcs (he x)))
  ·exact jaa
 | load t a =>
  unfold spec; simp only []
  unfold jbl
  split
  ·exact jaa
  ·split
   ·split
    ·rename_i l hob
     have hl := (hσ _ _ hob).2
     split
     ·split
      ·exact jal fun _ => jao (jb3 ((NBs.drop _ hl).take _))
      ·exact jaa
     ·split
      ·rename_i v hv
       exact jal fun _ => jao (NBs.at _ v hl hv)
      ·exact jaa
    ·exact jaa
   ·split
    ·split
     ·split <;> exact jau
     ·exact jaa
    ·exact jjr hσ
    ·exact jaa
   ·exact jjs
   ·split
    ·exact jau
    ·split
     ·exact jau
     ·exact jaa
   ·exact jaa
 | store t a x =>
  have hea := he a
  unfold spec; simp only []
  unfold jbt
  split
  ·rename_i T cs hT hcs
   have hcn := jjk hcs (he x)
   split
   ·split
    ·rename_i ob i hx
     rw [hx] at hea; unfold NB at hea
     split
     ·rename_i l hob
      split
      ·exact jdc ⟨rfl, by simp [jbq, ja8, hx, AV.names]⟩ hea (NBs.spl (hσ _ _ hob).2 hcn)
      ·exact jaa
     ·exact jaa
    ·rename_i ob es k j hx
     rw [hx] at hea; unfold NB at hea
     split
     ·split
      ·split
       ·split
        ·split
         ·exact jdc ⟨rfl, by simp [jbq, ja8, hx, AV.names]⟩ hea trivial
         ·split
          ·split
           ·exact jdc ⟨rfl, by simp [jbq, ja8, hx, AV.names]⟩ hea trivial
           ·exact jaa
          ·exact jaa
        ·exact jaa
       ·exact jaa
      ·exact jaa
     ·refine jir hσ (fun n hn => ⟨rfl, ?_⟩)
      refine List.mem_append_left _ ?_
      simp only [ja8, hx]
      rcases hn with rfl | hn
      ·exact List.mem_cons_self ..
      ·exact List.mem_cons_of_mem _ (jcz hcs n hn)
     ·exact jaa
    ·rename_i ob g k j es i c hx
     split
     ·exact jis hσ ⟨rfl, by simp [jbq, ja8, hx, AV.names]⟩
     ·exact jaa
    ·exact jaa
   ·exact jaa
  ·exact jaa
 | nilCheck x =>
  have hx := he x
  unfold spec; simp only []
  split
  ·rename_i h; rw [h] at hx; exact jal fun _ => jao hx
  ·rename_i h; rw [h] at hx; exact jal fun _ => jao hx
  ·rename_i h; rw [h] at hx; exact jal fun _ => jao hx
  ·rename_i h; rw [h] at hx; exact jal fun _ => jao hx
  ·exact jaa
 | binOp op t x y u => exact jql
 | unOp op t x =>
  cases op
  case not =>
   unfold spec; simp only []
   split
   ·exact jdd
   ·exact jaa
  case neg =>
   unfold spec; simp only []
   split
   ·exact jh5
   ·exact jaa
  all_goals exact jaa
 | convert s d x =>
  unfold spec; simp only []
  split
  ·exact jau
  ·unfold jef
   split
   ·split
    ·exact jau
    ·exact jaa
   ·split
    ·exact jc0 (jb0 _ jbg) trivial
    ·exact jaa
   ·exact jaa
 | slice t x lo hi mx =>
  cases mx with
  | some m => exact jaa
  | none =>
   unfold spec; simp only []
   unfold jdx
   split
   ·split
    ·split
     ·exact jau
     ·split
      ·exact jau
      ·exact jaa
    ·exact jaa
   ·rename_i hts hl
    split
    ·unfold jkm
     split
     ·rename_i ob hex
      split
      ·rename_i cs hob
       split
       ·split
        ·refine jal fun _ => ⟨by unfold NB; trivial, fun q hq => ?_, fun q hq y hy => ?_⟩
         ·simp at hq; subst hq
          exact .inr ⟨by simp only [mutB, jrd]; rw [hts]; simp, by simp [jbq, ja8, hex, AV.names]⟩
         ·simp at hq; subst hq; cases hy
        ·exact jaa
       ·exact jaa
      ·exact jaa
     ·exact jaa
    ·exact jaa
   ·split
    ·split
     ·split
      ·exact jau
      ·split
       ·exact jau
       ·exact jaa
     ·exact jaa
    ·rename_i el E ob hel hex
     have key : ∀ {p : Prop} {rd : List Nat} {a : TypeId} {b : Nat} {l : List D}, jcm U nm (fun n => mutB ty Γ ⟨dst, .slice t x lo hi none, type, pos, after, guard⟩ = true /\ n ∈ jbq σ e ⟨dst, .slice t x lo hi none, type, pos, after, guard⟩) (.det p rd (.own nm) [(ob, none), (nm, some (.arr a b l))]) := by
      intro p rd a b l
      refine jal fun _ => ⟨jb0 _ jbg, fun q hq => ?_, fun q hq y hy => ?_⟩
      ·simp at hq; rcases hq with rfl | rfl
       ·exact .inr ⟨by simp only [mutB]; rw [hel]; rfl, by simp [jbq, ja8, hex, AV.names]⟩
       ·exact .inl ⟨Nat.le_refl _, by show nm < nm + 16; omega⟩
      ·simp at hq; rcases hq with rfl | rfl
       ·cases hy
       ·simp at hy; subst hy
        exact ⟨jbg, trivial⟩
     split
     ·split
      ·split
       ·exact key
       ·split
        ·exact key
        ·exact jaa
      ·exact jaa
     ·exact jaa
    ·exact jaa
   ·exact jaa
 | fieldAddr s x f =>
  have hx := he x
  unfold spec; simp only []
  unfold jdg
  split
  ·exact jaa
  ·split
   ·rename_i h; rw [h] at hx; refine jal fun _ => jao ?_; unfold NB at hx ⊢; exact hx
   ·rename_i h; rw [h] at hx; refine jal fun _ => jao ?_; unfold NB at hx ⊢; exact hx
   ·rename_i h; rw [h] at hx; refine jal fun _ => jao ?_; unfold NB at hx ⊢; exact hx
   ·refine jal fun _ => jao ?_; unfold NB; trivial
   ·exact jaa
 | indexAddr t x i =>
  have hx := he x
  unfold spec; simp only []
  unfold jce
  split
  ·split
   ·split
    ·refine jal fun _ => jao ?_; unfold NB; trivial
    ·exact jaa
   ·rename_i h
    rw [h] at hx
    split
    ·split
     ·refine jal fun _ => jao ?_; unfold NB at hx ⊢; exact hx
     ·exact jaa
    ·split
     ·refine jal fun _ => jao ?_; unfold NB at hx ⊢; exact hx
     ·exact jaa
    ·exact jaa
   ·rename_i h
    rw [h] at hx
    unfold jco
    split
    ·split
     ·refine jal fun _ => jao ?_; unfold NB at hx ⊢; exact hx
     ·exact jaa
    ·exact jaa
   ·exact jaa
  ·unfold jjl
   split
   ·split
    ·split
     ·rename_i h; rw [h] at hx; refine jal fun _ => jao ?_; unfold NB at hx ⊢; exact hx
     ·rename_i h; rw [h] at hx
      split
      ·refine jal fun _ => jao ?_; unfold NB at hx ⊢; exact hx
      ·refine jal fun _ => jao ?_; unfold NB at hx ⊢; exact hx
     ·rename_i h; rw [h] at hx; refine jal fun _ => jao ?_; unfold NB at hx ⊢; exact hx
     ·refine jal fun _ => jao ?_; unfold NB; trivial
     ·exact jaa
    ·exact jaa
   ·exact jaa
  ·exact jaa
 | index t x i =>
  have hx := he x
  unfold spec; simp only []
  split
  ·exact jau
  ·unfold jmt
   split
   ·split
    ·rename_i hl
     have hls : NBs U _ := (jqe hl hx)
     split
     ·split
      ·exact jal fun _ => jao (jb3 ((NBs.drop _ hls).take _))
      ·exact jaa
     ·split
      ·rename_i v hv
       exact jal fun _ => jao (NBs.at _ v hls hv)
      ·exact jaa
    ·exact jaa
   ·exact jaa
 | field s x f =>
  have hx := he x
  unfold spec; simp only [jkl]
  split
  ·split
   ·split
    ·rename_i hl
     have hls : NBs U _ := (jqe hl hx)
     split
     ·split
      ·exact jal fun _ => jao (jb3 ((NBs.drop _ hls).take _))
      ·exact jaa
     ·split
      ·rename_i v hv
       exact jal fun _ => jao (NBs.at _ v hls hv)
      ·exact jaa
    ·exact jaa
   ·exact jaa
  ·exact jaa
 | extract x i =>
  have hx := he x
  unfold spec; simp only []
  split
  ·rename_i l h
   rw [h] at hx; unfold NB at hx
   split
   ·rename_i v hv
    exact jal fun _ => jao (NBs.at _ v hx hv)
   ·exact jaa
  ·exact jaa
 | build t parts =>
  unfold spec; simp only []
  unfold jd5
  split
  ·split
   ·split
    ·rename_i cells hc
     exact jal fun _ => jao (jb3 (jjf he parts.toList _ cells jh9 hc))
    ·exact jaa
   ·exact jaa
  ·split
   ·split
    ·split
     ·rename_i cells hc
      exact jal fun _ => jao (jb3 (jjf he parts.toList _ cells jh9 hc))
     ·exact jaa
    ·exact jaa
   ·exact jaa
  ·exact jaa
 | buildSlice t len parts =>
  unfold spec; simp only []
  unfold jbb
  split
  ·split
   ·split
    ·exact jc0 (jb0 _ jbg) trivial
    ·split
     ·rename_i hsl
      split
      ·rename_i ds ns hds
       have hmem := jda hds
       refine jal fun _ => ⟨jb0 _ jbg, fun p hp => ?_, fun p hp z hz => ?_⟩
       ·rcases List.mem_append.1 hp with hp | hp
        ·obtain ⟨h1, h2⟩ := jgb hp
         refine .inr ⟨by simp only [mutB]; rw [‹jbp ty t = _›]; exact hsl, ?_⟩
         refine List.mem_append_left _ ?_
         simp only [ja8]
         have := hmem p.1 h1
         rw [List.map_map] at this
         exact this
        ·simp at hp; subst hp; exact .inl ⟨Nat.le_refl _, by show nm < nm + 16; omega⟩
       ·rcases List.mem_append.1 hp with hp | hp
        ·obtain ⟨h1, h2⟩ := jgb hp
         rw [h2] at hz; cases hz
        ·simp at hp; subst hp; simp at hz; subst hz; exact ⟨jbg, jbg⟩
      ·exact jaa
     ·exact jaa
   ·exact jaa
  ·exact jaa
 | makeSlice t l c =>
  unfold spec; simp only []
  unfold jga
  split
  ·split
   ·split
    ·split
     ·exact jc0 (jb0 _ jbg) trivial
     ·exact jc0 (jb0 _ jbg) jbg
    ·exact jaa
   ·exact jaa
  ·exact jaa
 | call c =>
  obtain ⟨callee, args, argTypes⟩ := c
  cases callee with
  | value c =>
   unfold spec; simp only []
   split
   ·rename_i f caps hcv
    unfold jcq
    cases hS : Γ f with
    | none => exact jaa
    | some S =>
     simp only []
     split
     ·exact jaa
     ·rename_i ds ns_ rd_ hargs'
      obtain ⟨⟨ds0, ns, rd⟩, hargs, hargs2⟩ := Option.map_eq_some_iff.1 hargs'
      simp only [Prod.mk.injEq] at hargs2
      obtain ⟨hds, rfl, rfl⟩ := hargs2
      split
      ·exact jaa
      ·rename_i obs hobs
       intro hp
       obtain ⟨p1, p2, p3, p5, p4⟩ := (show _ /\ _ /\ _ /\ _ /\ _ from hp)
       refine ⟨?_, ?_⟩
       ·obtain ⟨r, new, obs', hr⟩ := hl f S hS ds obs p1
        exact ⟨_, _, r, new, obs', hr, rfl, rfl⟩
       rintro av δ ⟨r, new, obs', hpost, rfl, rfl⟩
       have res := p4 r new obs' hpost
       obtain ⟨hol, hoj⟩ := jdm hobs
       have g1 := jdh S.lend _ ds0 ns rd hargs
       have hlent : ∀ (f : Nat -> Nat) (ns : List Nat) (obs : List Obj') (g : Nat), ∀ p ∈ jf3 f g ns obs, p.1 ∈ ns /\ ∀ x, p.2 = some x -> ∃ y q, y ∈ obs /\ x = (y.ren f).regen q /\ g <= q /\ q < g + obs.length := by
        intro f ns
        induction ns with
        | nil => intro obs g p hp; simp [jf3] at hp
        | cons n ns ih =>
         intro obs g p hp
         cases obs with
         | nil =>
          simp only [jf3, List.mem_cons] at hp
          rcases hp with rfl | hp
          ·exact ⟨List.mem_cons_self .., fun y hy => by cases hy⟩
          ·obtain ⟨h1, h2⟩ := ih [] (g + 1) p hp
           refine ⟨List.mem_cons_of_mem _ h1, fun y hy => ?_⟩
           obtain ⟨z, q, k1, k2, k3, k4⟩ := h2 y hy
           cases k1
         | cons x obs =>
          simp only [jf3, List.mem_cons] at hp
          rcases hp with rfl | hp
          ·exact ⟨List.mem_cons_self .., fun y hy => by simp at hy; subst hy; exact ⟨x, g, List.mem_cons_self .., rfl, Nat.le_refl _, by simp⟩⟩
          ·obtain ⟨h1, h2⟩ := ih obs (g + 1) p hp
           refine ⟨List.mem_cons_of_mem _ h1, fun y hy => ?_⟩
           obtain ⟨z, q, k1, k2, k3, k4⟩ := h2 y hy
           exact ⟨z, q, List.mem_cons_of_mem _ k1, k2, by omega, by simp only [List.length_cons]; omega⟩
       have hnew : ∀ (f : Nat -> Nat) (new : List Obj') (k : Nat), ∀ p ∈ newF f k new, k <= p.1 /\ p.1 < k + new.length /\ ∀ x, p.2 = some x -> ∃ z, z ∈ new /\ x = (z.ren f).regen p.1 := by
        intro f new
        induction new with
        | nil => intro k p hp; simp [newF] at hp
        | cons x new ih =>
         intro k p hp
         simp only [newF, List.mem_cons] at hp
         rcases hp with rfl | hp
         ·exact ⟨Nat.le_refl _, by simp, fun y hy => by simp at hy; exact ⟨x, List.mem_cons_self .., hy.symm⟩⟩
         ·obtain ⟨h1, h2, h3⟩ := ih (k + 1) p hp
          exact ⟨by omega, by simp only [List.length_cons]; omega, fun y hy => by
           obtain ⟨z, hz, hz2⟩ := h3 y hy
           exact ⟨z, List.mem_cons_of_mem _ hz, hz2⟩⟩
       have hU : ∀ n ∈ ns, U n := fun n hn => by
        obtain ⟨j, hj⟩ := List.getElem?_of_mem hn
        obtain ⟨x, _, hx⟩ := hoj j n hj
        exact (hσ n x hx).1
       have few := res.few
       refine ⟨NB.shift (by omega) res.nbr, fun p hp => ?_, fun p hp x hx => ?_⟩
       ·rcases List.mem_append.1 hp with hp | hp
        ·have hpn := (hlent _ ns obs' _ p hp).1
         refine .inr ⟨?_, ?_⟩
         ·cases c with
          | func f' =>
           have hff := hfn f'
           rw [hcv] at hff
           cases hff
           unfold mutB
           simp only [hS]
           cases hl : jqu S.lend with
           | true => rfl
           | false => rw [jnp hargs hl] at hpn; cases hpn
          | _ => rfl
         ·have := g1 p.1 hpn
          have h0 : ja8 e ⟨dst, .call ⟨.value c, args, argTypes⟩, type, pos, after, guard⟩ = jan (args.toList.map e ++ caps) := by
           simp only [ja8, jeg, hcv]
           rw [jdn]
           conv => lhs; arg 2; unfold AV.names
          simp only [jbq, xset]
          rw [h0]
          exact this
        ·obtain ⟨h1, h2, _⟩ := hnew _ new nm p hp
         exact .inl ⟨h1, by omega⟩
       ·rcases List.mem_append.1 hp with hp | hp
        ·obtain ⟨h1, h2⟩ := hlent _ ns obs' _ p hp
         obtain ⟨z, q, k1, rfl, k3, k4⟩ := h2 x hx
         have := res.same
         exact ⟨jaw (hU p.1 h1), NBl.nbo (.inr ⟨by omega, by omega⟩) (fun i hi => by
          have hin : i < ns.length := by omega
          have e1 : ns.getD i 0 = ns[i]'hin := by rw [List.getD_eq_getElem?_getD, List.getElem?_eq_getElem hin]; rfl
          show Un U nm (ns.getD i 0)
          rw [e1]
          exact jaw (hU _ (List.getElem_mem hin))) (res.nbo.2 z k1)⟩
        ·obtain ⟨h1, h2, h4⟩ := hnew _ new nm p hp
         obtain ⟨z, hz1, hz2⟩ := h4 x hx
         subst hz2
         exact ⟨.inr ⟨h1, by omega⟩, NBl.nbo (.inr ⟨h1, by omega⟩) (fun i hi => .inr ⟨by omega, by omega⟩) (res.nbo.1 z hz1)⟩
   ·exact jaa
  | invoke r m => exact jaa
  | builtin b =>
   cases b
   case len =>
    unfold spec; simp only []
    split
    ·unfold jen
     split
     ·split
      ·exact jau
      ·exact jaa
     ·split
      ·exact jau
      ·exact jau
      ·split
       ·exact jau
       ·exact jau
       ·exact jaa
      ·unfold jew
       split
       ·split
        ·exact jau
        ·exact jaa
       ·exact jaa
      ·exact jaa
     ·exact jaa
    ·exact jaa
   case append =>
    unfold spec; simp only []
    split
    ·rename_i x y t t' hx ht
     have hex := he x
     unfold jcr
     split
     ·split
      ·split
       ·split
        ·exact jc0 (jb0 _ jbg) trivial
        ·rename_i ob hxo
         rw [hxo] at hex; unfold NB at hex
         split
         ·split
          ·refine jal fun _ => ⟨jb0 _ jbg, fun p hp => ?_, fun p hp z hz => ?_⟩
           ·simp only [List.mem_cons, List.not_mem_nil, or_false] at hp
            rcases hp with rfl | rfl
            ·exact .inr ⟨rfl, by simp [jbq, ja8, hx, jan, hxo, AV.names]⟩
            ·exact .inl ⟨Nat.le_refl _, by show nm < nm + 16; omega⟩
           ·simp only [List.mem_cons, List.not_mem_nil, or_false] at hp
            rcases hp with rfl | rfl
            ·simp at hz
            ·simp at hz; subst hz; exact ⟨jbg, trivial⟩
          ·exact jaa
         ·exact jaa
        ·rename_i ob g k j hxo
         refine jhq hσ ⟨rfl, ?_⟩
         simp [jbq, ja8, hx, jan, hxo, AV.names]
        ·exact jaa
       ·split
        ·rename_i o2 hyo
         refine jhp (fun n hn => ⟨rfl, ?_⟩)
         refine List.mem_append_left _ ?_
         simp only [ja8, jeg, hx, List.map_cons, List.map_nil, jan, List.append_nil]
         rcases hn with rfl | hn
         ·exact List.mem_append_right _ (by rw [hyo]; simp [AV.names])
         ·exact List.mem_append_left _ hn
        ·exact jaa
      ·exact jaa
     ·exact jaa
    ·exact jaa
   case max =>
    unfold spec; simp only []
    split
    ·split
     ·exact jau
     ·exact jaa
    ·exact jaa
   case min =>
    unfold spec; simp only []
    split
    ·split
     ·exact jau
     ·exact jaa
    ·exact jaa
   all_goals exact jaa
 | makeFunc fn first caps =>
  cases fn with
  | func f =>
   unfold spec; simp only []
   split
   ·exact jal fun _ => jao (by unfold NB; exact jk8 he _)
   ·exact jaa
  | _ => exact jaa
 | _ => exact jaa

end
end Go.Ab
