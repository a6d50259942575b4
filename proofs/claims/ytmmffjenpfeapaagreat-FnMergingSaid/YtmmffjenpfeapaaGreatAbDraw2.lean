/- My own layer, sixteenth part: what an operation can turn, and the names that it hands on. -/
import Derived.Test.YtmmffjenpfeapaaGreatAbDraw
namespace Go.Ab
set_option linter.unusedVariables false
set_option linter.unusedSimpArgs false
def Live (Γ : Nat -> Option FnSpec) : Prop := ∀ f S, Γ f = some S -> ∀ ds obs, S.pre ds obs -> ∃ r new obs', S.post ds obs r new obs'

section
variable {U : Nat -> Prop} {nm : Nat} {σ : Objs} {ty : TypeId -> Option TyE} {Γ : Nat -> Option FnSpec}

def Rng (nm n : Nat) : Prop := nm <= n /\ n < nm + 16

structure Tame (U : Nat -> Prop) (nm : Nat) (W : Nat -> Prop) (av : AV) (δ : jbg) : Prop where
 nb : NB (Un U nm) av
 key : ∀ p ∈ δ, Rng nm p.1 \/ W p.1
 ob : ∀ p ∈ δ, ∀ x, p.2 = some x -> Un U nm p.1 /\ NBo (Un U nm) x

def jcx (U : Nat -> Prop) (nm : Nat) (W : Nat -> Prop) (s : Spec) : Prop := s.pre -> (∃ av δ, s.R av δ) /\ ∀ av δ, s.R av δ -> Tame U nm W av δ

variable {W : Nat -> Prop}

theorem jac : jcx U nm W .fail := fun hp => hp.elim
theorem jam {p : Prop} {rd : List Nat} {av : AV} {δ : jbg} (h : p -> Tame U nm W av δ) : jcx U nm W (.det p rd av δ) := by
 intro hp
 refine ⟨⟨av, δ, rfl, rfl⟩, ?_⟩
 rintro av' δ' ⟨h1, h2⟩
 subst h1; subst h2; exact h hp
theorem jap {av : AV} (h : NB U av) : Tame U nm W av [] := ⟨NB.mono (fun _ h => jay h) h, by simp, by simp⟩
theorem jaw {p : Prop} {rd : List Nat} {d : D} : jcx U nm W (.det p rd (.dat d) []) := jam fun _ => jap (jft d)
theorem jfy {b : Bool} {s t : Spec} (h : jcx U nm W s) (h' : jcx U nm W t) : jcx U nm W (.split b s t) := by
 cases b
 ·exact h'
 ·exact h
theorem jda {p : Prop} {rd : List Nat} {av : AV} {x : Obj'} (h : NB (Un U nm) av) (hx : NBo (Un U nm) x) : jcx U nm W (.det p rd av [(nm, some x)]) := by
 refine jam fun _ => ⟨h, fun p hp => ?_, fun p hp y hy => ?_⟩
 ·simp at hp; subst hp; exact .inl ⟨Nat.le_refl _, by show nm < nm + 16; omega⟩
 ·simp at hp; subst hp; simp at hy; subst hy
  exact ⟨jbh, hx⟩
theorem jdm {p : Prop} {rd : List Nat} {o : Nat} {x : Obj'} (hW : W o) (hU : U o) (hx : NBo U x) : jcx U nm W (.det p rd .und [(o, some x)]) := by
 refine jam fun _ => ⟨by unfold NB; trivial, fun p hp => ?_, fun p hp y hy => ?_⟩
 ·simp at hp; subst hp; exact .inr hW
 ·simp at hp; subst hp; simp at hy; subst hy
  exact ⟨jay hU, NBo.mono (fun _ h => jay h) hx⟩

theorem jke {x : AV} {cs : List AV} (hx : x.cells = some cs) (hn : NB U x) : NBs U cs := by
 have single : ∀ {y : AV}, NB U y -> NBs U [y] := fun {y} h => by unfold NBs; exact ⟨h, by unfold NBs; trivial⟩
 cases x with
 | dat d =>
  cases d with
  | agg l => simp only [AV.cells, Option.some.injEq] at hx; subst hx; exact jkd
  | sc u => simp only [AV.cells, Option.some.injEq] at hx; subst hx; exact single hn
  | sl es l => simp only [AV.cells, Option.some.injEq] at hx; subst hx; exact single hn
 | aggv l => simp only [AV.cells, Option.some.injEq] at hx; subst hx; unfold NB at hn; exact hn
 | tup l => simp [AV.cells] at hx
 | und => simp [AV.cells] at hx
 | unk => simp [AV.cells] at hx
 | _ => simp only [AV.cells, Option.some.injEq] at hx; subst hx; exact single hn

theorem jiz {k : IntKind} {r : Int} : jcx U nm W (jk5 k r) := jaw
theorem jdn {b : Bool} : jcx U nm W (jdl b) := jaw

theorem jnv {neg : Bool} {x : AV} : jcx U nm W (jiv neg x) := by
 unfold jiv
 split
 ·exact jaw
 ·intro _
  refine ⟨⟨.dat (.sc (.bool (false != neg))), [], rfl, false, rfl, fun _ => rfl⟩, ?_⟩
  rintro av δ ⟨rfl, b, rfl, _⟩
  exact jap (by unfold NB; trivial)
 ·exact jaw
 ·exact jac
theorem jnw {op : BinOp} {t : TypeId} {x y : AV} : jcx U nm W (jmg ty op t x y) := by
 unfold jmg
 split
 ·split
  ·split
   ·split <;> first | exact jdn | exact jac
   ·exact jac
  ·exact jac
 ·exact jac
theorem jrh {op : BinOp} {t : TypeId} {x y : AV} : jcx U nm W (jgc ty op t x y) := by
 unfold jgc
 split
 ·split
  ·exact jaw
  ·exact jaw
  ·split
   ·split <;> first | exact jiz | exact jdn | exact jaw | exact jac
   ·exact jac
 ·split
  ·split <;> first | exact jdn | exact jaw | exact jac
  ·split
   ·split <;> first | exact jdn | exact jac
   ·unfold jho
    split
    ·split <;> first | exact jnv | exact jac
    ·exact jnw

theorem jj9 {place : Nat -> Option (Nat × Nat)} {e : Operand -> AV} (hn : ∀ x, NB U (e x)) : ∀ (parts : List (Nat × Operand)) (cells out : List AV), NBs U cells -> jka place cells (parts.map fun p => (p.1, e p.2)) = some out -> NBs U out
 | [], cells, out, hc, h => by simp only [List.map_nil, jka, Option.some.injEq] at h; subst h; exact hc
 | (i, x) :: rest, cells, out, hc, h => by
  simp only [List.map_cons, jka] at h
  split at h
  ·rename_i off size cs hp hcs
   split at h
   ·exact jj9 hn rest _ out (NBs.spl hc (jke hcs (hn x))) h
   ·cases h
  ·cases h

theorem jkl (hσ : ∀ o x, σ o = some x -> U o /\ NBo U x) {T : TyE} {o es k j : Nat} : jcx U nm W (jcv σ T o es k j) := by
 unfold jcv
 split
 ·rename_i e es' mask l g hole hob
  have hn := hσ _ _ hob
  split
  ·split
   ·split
    ·refine jam fun _ => jap (jcb (jnt fun c hc => ?_))
     unfold jdx at hc
     obtain ⟨i, _, rfl⟩ := List.mem_map.1 hc
     split
     ·unfold NB; exact hn
     ·unfold NB; trivial
    ·exact jac
   ·split
    ·exact jaw
    ·split
     ·refine jam fun _ => jap ?_; unfold NB; exact hn
     ·exact jac
  ·exact jac
 ·exact jac
theorem jkm {T : TyE} {o g k j es i c : Nat} : jcx U nm W (jc6 σ T o g k j es i c) := by
 unfold jc6
 split
 ·split
  ·split <;> exact jaw
  ·exact jac
 ·exact jac
theorem jjn (hσ : ∀ o x, σ o = some x -> U o /\ NBo U x) {o g k j es i c : Nat} {ds : List D} (hW : W o) : jcx U nm W (jch ty σ o g k j es i c ds) := by
 unfold jch
 split
 ·rename_i t ht
  have hn := hσ _ _ (jb1 ht)
  split
  ·split
   ·split
    ·exact jdm hW hn.1 hn.2
    ·split
     ·split
      ·exact jdm hW hn.1 hn.2
      ·exact jac
     ·exact jac
   ·exact jac
  ·exact jac
 ·exact jac
theorem jg0 {ns : List Nat} {p : Nat × Option Obj'} (h : p ∈ jfr ns) : p.1 ∈ ns /\ p.2 = none := by
 induction ns with
 | nil => cases h
 | cons n ns ih =>
  have h' : p ∈ (n, none) :: jfr ns := h
  rcases List.mem_cons.1 h' with rfl | h'
  ·exact ⟨List.mem_cons_self .., rfl⟩
  ·exact ⟨List.mem_cons_of_mem _ (ih h').1, (ih h').2⟩
theorem ji8 {cs : List AV} {n : Nat} (h : n ∈ cs.filterMap ownN) : n ∈ jao cs := by
 obtain ⟨x, hx, hn⟩ := List.mem_filterMap.1 h
 have := jfm hn
 subst this
 exact jpn hx n (by simp [AV.names])
theorem jjm (hσ : ∀ o x, σ o = some x -> U o /\ NBo U x) {o es k j : Nat} {cs : List AV} (hW : ∀ n, (n = o \/ n ∈ jao cs) -> W n) : jcx U nm W (jce ty σ nm o es k j cs) := by
 have key : ∀ {p : Prop} {rd ns : List Nat} {x : Obj'}, U o -> (∀ n ∈ ns, n ∈ jao cs) -> NBo (Un U nm) x -> jcx U nm W (.det p rd .und (jfr ns ++ [(o, some x)])) := by
  intro p rd ns x hU hns hx
  refine jam fun _ => ⟨by unfold NB; trivial, fun p hp => ?_, fun p hp z hz => ?_⟩
  ·rcases List.mem_append.1 hp with hp | hp
   ·exact .inr (hW _ (.inr (hns _ (jg0 hp).1)))
   ·simp at hp; subst hp; exact .inr (hW _ (.inl rfl))
  ·rcases List.mem_append.1 hp with hp | hp
   ·rw [(jg0 hp).2] at hz; cases hz
   ·simp at hp; subst hp; simp at hz; subst hz
    exact ⟨jay hU, hx⟩
 unfold jce
 split
 ·rename_i e es' mask l g hole hob
  have hn := hσ _ _ hob
  split
  ·rename_i E ds ns ks hE hput
   obtain ⟨_, q2, _⟩ := jc3 hput
   have hns : ∀ n ∈ ns, n ∈ jao cs := fun n hn => ji8 (by rw [<- q2]; exact hn)
   split
   ·split
    ·exact key hn.1 hns jbh
    ·split
     ·split
      ·exact key hn.1 hns jbh
      ·exact jac
     ·exact jac
   ·exact jac
  ·exact jac
 ·exact jac
theorem jih {el : TypeId} {E : TyE} {s : AV} {o2 : Nat} (hW : ∀ n, (n = o2 \/ n ∈ s.names) -> W n) : jcx U nm W (jcf σ nm el E s o2) := by
 unfold jcf
 split
 ·split
  ·split
   ·refine jam fun _ => ⟨jb7 _ jbh, fun p hp => ?_, fun p hp z hz => ?_⟩
    ·simp only [List.mem_cons, List.not_mem_nil, or_false] at hp
     rcases hp with rfl | rfl
     ·exact .inr (hW _ (.inl rfl))
     ·exact .inl ⟨Nat.le_refl _, by show nm < nm + 16; omega⟩
    ·simp only [List.mem_cons, List.not_mem_nil, or_false] at hp
     rcases hp with rfl | rfl
     ·simp at hz
     ·simp at hz; subst hz; exact ⟨jbh, jbh⟩
   ·split
    ·split
     ·refine jam fun _ => ⟨jb7 _ jbh, fun p hp => ?_, fun p hp z hz => ?_⟩
      ·simp only [List.mem_cons, List.not_mem_nil, or_false] at hp
       rcases hp with rfl | rfl | rfl
       ·exact .inr (hW _ (.inr (by simp [AV.names])))
       ·exact .inr (hW _ (.inl rfl))
       ·exact .inl ⟨Nat.le_refl _, by show nm < nm + 16; omega⟩
      ·simp only [List.mem_cons, List.not_mem_nil, or_false] at hp
       rcases hp with rfl | rfl | rfl
       ·simp at hz
       ·simp at hz
       ·simp at hz; subst hz; exact ⟨jbh, jbh⟩
     ·exact jac
    ·exact jac
   ·exact jac
  ·exact jac
 ·exact jac
theorem jii (hσ : ∀ o x, σ o = some x -> U o /\ NBo U x) {el : TypeId} {E : TyE} {o g k j : Nat} {l2 : List D} {rd : List Nat} (hW : W o) : jcx U nm W (jb6 σ nm el E o g k j l2 rd) := by
 unfold jb6
 split
 ·rename_i t ht
  have hn := hσ _ _ (jb1 ht)
  split
  ·split
   ·refine jam fun _ => ⟨jb7 _ jbh, fun p hp => ?_, fun p hp z hz => ?_⟩
    ·simp only [List.mem_cons, List.not_mem_nil, or_false] at hp
     rcases hp with rfl | rfl
     ·exact .inr hW
     ·exact .inl ⟨Nat.le_refl _, by show nm < nm + 16; omega⟩
    ·simp only [List.mem_cons, List.not_mem_nil, or_false] at hp
     rcases hp with rfl | rfl
     ·simp at hz; subst hz; exact ⟨jay hn.1, jay hn.2⟩
     ·simp at hz; subst hz; exact ⟨jbh, trivial⟩
   ·exact jac
  ·exact jac
 ·exact jac
theorem jdk {mask : List (Option TypeId)} {agg : Bool} {es : Nat} : ∀ {ps : List (Nat × AV)} {k : Nat} {ds : List D} {ns : List Nat}, jbp ty σ nm mask agg es k ps = some (ds, ns) -> ∀ n ∈ ns, n ∈ jao (ps.map (·.2))
 | [], k, ds, ns, h => by simp [jbp] at h; obtain ⟨_, rfl⟩ := h; simp
 | (i, x) :: ps, k, ds, ns, h => by
  unfold jbp at h
  split at h
  ·split at h
   ·rename_i cs hcs
    split at h
    ·split at h
     ·rename_i ds0 ns0 r ns' hput hr
      obtain ⟨_, q2, _⟩ := jc3 hput
      split at h
      ·simp only [Option.some.injEq, Prod.mk.injEq] at h
       obtain ⟨_, rfl⟩ := h
       intro n hn
       simp only [List.map_cons]
       unfold jao
       rcases List.mem_append.1 hn with hn | hn
       ·exact List.mem_append_left _ (jc9 hcs n (ji8 (by rw [<- q2]; exact hn)))
       ·exact List.mem_append_right _ (jdk hr n hn)
      ·cases h
     ·cases h
    ·cases h
   ·cases h
  ·cases h

theorem jq9 {U : Nat -> Prop} {x : AV} {l : List AV} (hx : aggC x = some l) (hn : NB U x) : NBs U l := by
 unfold aggC at hx
 split at hx
 ·cases hx; unfold NB at hn; exact hn
 ·rename_i l0
  cases hx
  induction l0 with
  | nil => simp only [List.map_nil]; unfold NBs; trivial
  | cons a l ih => simp only [List.map_cons]; unfold NBs; exact ⟨by unfold NB; trivial, ih (by unfold NB; trivial)⟩
 ·cases hx
theorem jop (hl : Live Γ) {e : Operand -> AV} (hfn : ∀ f, e (.func f) = .fn f []) (he : ∀ x, NB U (e x)) (hσ : ∀ o x, σ o = some x -> U o /\ NBo U x) {o : Oper} :
  jcx U nm (fun n => mutB ty Γ o = true /\ n ∈ jbt σ e o) (spec ty Γ σ e nm o) := by
 obtain ⟨dst, op, type, pos, after, guard⟩ := o
 cases op with
 | move x => exact jam fun _ => jap (he x)
 | assign x => exact jam fun _ => jap (he x)
 | pick c a b =>
  unfold spec; simp only []
  split
  ·exact jfy (jam fun _ => jap (he a)) (jam fun _ => jap (he b))
  ·exact jac
 | alloc t =>
  unfold spec; simp only []
  split
  ·split
   ·exact jda (by unfold NB; exact jbh) trivial
   ·split
    ·exact jda (jo9 _ _ jbh) ji3
    ·exact jac
  ·exact jac
 | box t x =>
  unfold spec; simp only []
  split
  ·rename_i cs hcs
   exact jda (jo9 _ _ jbh) (NBs.mono (fun _ h => jay h) (jke hcs (he x)))
  ·exact jac
 | load t a =>
  unfold spec; simp only []
  unfold jbo
  split
  ·exact jac
  ·split
   ·split
    ·rename_i l hob
     have hl := (hσ _ _ hob).2
     split
     ·split
      ·exact jam fun _ => jap (jcb ((NBs.drop _ hl).take _))
      ·exact jac
     ·split
      ·rename_i v hv
       exact jam fun _ => jap (NBs.at _ v hl hv)
      ·exact jac
    ·exact jac
   ·split
    ·split
     ·split <;> exact jaw
     ·exact jac
    ·exact jkl hσ
    ·exact jac
   ·exact jkm
   ·split
    ·exact jaw
    ·split
     ·exact jaw
     ·exact jac
   ·exact jac
 | store t a x =>
  have hea := he a
  unfold spec; simp only []
  unfold jby
  split
  ·rename_i T cs hT hcs
   have hcn := jke hcs (he x)
   split
   ·split
    ·rename_i ob i hx
     rw [hx] at hea; unfold NB at hea
     split
     ·rename_i l hob
      split
      ·exact jdm ⟨rfl, by simp [jbt, jba, hx, AV.names]⟩ hea (NBs.spl (hσ _ _ hob).2 hcn)
      ·exact jac
     ·exact jac
    ·rename_i ob es k j hx
     rw [hx] at hea; unfold NB at hea
     split
     ·split
      ·split
       ·split
        ·split
         ·exact jdm ⟨rfl, by simp [jbt, jba, hx, AV.names]⟩ hea trivial
         ·split
          ·split
           ·exact jdm ⟨rfl, by simp [jbt, jba, hx, AV.names]⟩ hea trivial
           ·exact jac
          ·exact jac
        ·exact jac
       ·exact jac
      ·exact jac
     ·refine jjm hσ (fun n hn => ⟨rfl, ?_⟩)
      refine List.mem_append_left _ ?_
      simp only [jba, hx]
      rcases hn with rfl | hn
      ·exact List.mem_cons_self ..
      ·exact List.mem_cons_of_mem _ (jc9 hcs n hn)
     ·exact jac
    ·rename_i ob g k j es i c hx
     split
     ·exact jjn hσ ⟨rfl, by simp [jbt, jba, hx, AV.names]⟩
     ·exact jac
    ·exact jac
   ·exact jac
  ·exact jac
 | nilCheck x =>
  have hx := he x
  unfold spec; simp only []
  split
  ·rename_i h; rw [h] at hx; exact jam fun _ => jap hx
  ·rename_i h; rw [h] at hx; exact jam fun _ => jap hx
  ·rename_i h; rw [h] at hx; exact jam fun _ => jap hx
  ·rename_i h; rw [h] at hx; exact jam fun _ => jap hx
  ·exact jac
 | binOp op t x y u => exact jrh
 | unOp op t x =>
  cases op
  case not =>
   unfold spec; simp only []
   split
   ·exact jdn
   ·exact jac
  case neg =>
   unfold spec; simp only []
   split
   ·exact jiz
   ·exact jac
  all_goals exact jac
 | convert s d x =>
  unfold spec; simp only []
  split
  ·exact jaw
  ·unfold jex
   split
   ·split
    ·exact jaw
    ·exact jac
   ·split
    ·exact jda (jb7 _ jbh) trivial
    ·exact jac
   ·exact jac
 | slice t x lo hi mx =>
  cases mx with
  | some m => exact jac
  | none =>
   unfold spec; simp only []
   unfold jef
   split
   ·split
    ·split
     ·exact jaw
     ·split
      ·exact jaw
      ·exact jac
    ·exact jac
   ·rename_i hts hl
    split
    ·unfold jle
     split
     ·rename_i ob hex
      split
      ·rename_i cs hob
       split
       ·split
        ·refine jam fun _ => ⟨by unfold NB; trivial, fun q hq => ?_, fun q hq y hy => ?_⟩
         ·simp at hq; subst hq
          exact .inr ⟨by simp only [mutB, jsb]; rw [hts]; simp, by simp [jbt, jba, hex, AV.names]⟩
         ·simp at hq; subst hq; cases hy
        ·exact jac
       ·exact jac
      ·exact jac
     ·exact jac
    ·exact jac
   ·split
    ·split
     ·split
      ·exact jaw
      ·split
       ·exact jaw
       ·exact jac
     ·exact jac
    ·rename_i el E ob hel hex
     have key : ∀ {p : Prop} {rd : List Nat} {a : TypeId} {b : Nat} {l : List D}, jcx U nm (fun n => mutB ty Γ ⟨dst, .slice t x lo hi none, type, pos, after, guard⟩ = true /\ n ∈ jbt σ e ⟨dst, .slice t x lo hi none, type, pos, after, guard⟩) (.det p rd (.own nm) [(ob, none), (nm, some (.arr a b l))]) := by
      intro p rd a b l
      refine jam fun _ => ⟨jb7 _ jbh, fun q hq => ?_, fun q hq y hy => ?_⟩
      ·simp at hq; rcases hq with rfl | rfl
       ·exact .inr ⟨by simp only [mutB]; rw [hel]; rfl, by simp [jbt, jba, hex, AV.names]⟩
       ·exact .inl ⟨Nat.le_refl _, by show nm < nm + 16; omega⟩
      ·simp at hq; rcases hq with rfl | rfl
       ·cases hy
       ·simp at hy; subst hy
        exact ⟨jbh, trivial⟩
     split
     ·split
      ·split
       ·exact key
       ·split
        ·exact key
        ·exact jac
      ·exact jac
     ·exact jac
    ·exact jac
   ·exact jac
 | fieldAddr s x f =>
  have hx := he x
  unfold spec; simp only []
  unfold jdu
  split
  ·exact jac
  ·split
   ·rename_i h; rw [h] at hx; refine jam fun _ => jap ?_; unfold NB at hx ⊢; exact hx
   ·rename_i h; rw [h] at hx; refine jam fun _ => jap ?_; unfold NB at hx ⊢; exact hx
   ·rename_i h; rw [h] at hx; refine jam fun _ => jap ?_; unfold NB at hx ⊢; exact hx
   ·refine jam fun _ => jap ?_; unfold NB; trivial
   ·exact jac
 | indexAddr t x i =>
  have hx := he x
  unfold spec; simp only []
  unfold jck
  split
  ·split
   ·split
    ·refine jam fun _ => jap ?_; unfold NB; trivial
    ·exact jac
   ·rename_i h
    rw [h] at hx
    split
    ·split
     ·refine jam fun _ => jap ?_; unfold NB at hx ⊢; exact hx
     ·exact jac
    ·split
     ·refine jam fun _ => jap ?_; unfold NB at hx ⊢; exact hx
     ·exact jac
    ·exact jac
   ·rename_i h
    rw [h] at hx
    unfold jcz
    split
    ·split
     ·refine jam fun _ => jap ?_; unfold NB at hx ⊢; exact hx
     ·exact jac
    ·exact jac
   ·exact jac
  ·unfold jkf
   split
   ·split
    ·split
     ·rename_i h; rw [h] at hx; refine jam fun _ => jap ?_; unfold NB at hx ⊢; exact hx
     ·rename_i h; rw [h] at hx
      split
      ·refine jam fun _ => jap ?_; unfold NB at hx ⊢; exact hx
      ·refine jam fun _ => jap ?_; unfold NB at hx ⊢; exact hx
     ·rename_i h; rw [h] at hx; refine jam fun _ => jap ?_; unfold NB at hx ⊢; exact hx
     ·refine jam fun _ => jap ?_; unfold NB; trivial
     ·exact jac
    ·exact jac
   ·exact jac
  ·exact jac
 | index t x i =>
  have hx := he x
  unfold spec; simp only []
  split
  ·exact jaw
  ·unfold jnj
   split
   ·split
    ·rename_i hl
     have hls : NBs U _ := (jq9 hl hx)
     split
     ·split
      ·exact jam fun _ => jap (jcb ((NBs.drop _ hls).take _))
      ·exact jac
     ·split
      ·rename_i v hv
       exact jam fun _ => jap (NBs.at _ v hls hv)
      ·exact jac
    ·exact jac
   ·exact jac
 | field s x f =>
  have hx := he x
  unfold spec; simp only [jld]
  split
  ·split
   ·split
    ·rename_i hl
     have hls : NBs U _ := (jq9 hl hx)
     split
     ·split
      ·exact jam fun _ => jap (jcb ((NBs.drop _ hls).take _))
      ·exact jac
     ·split
      ·rename_i v hv
       exact jam fun _ => jap (NBs.at _ v hls hv)
      ·exact jac
    ·exact jac
   ·exact jac
  ·exact jac
 | extract x i =>
  have hx := he x
  unfold spec; simp only []
  split
  ·rename_i l h
   rw [h] at hx; unfold NB at hx
   split
   ·rename_i v hv
    exact jam fun _ => jap (NBs.at _ v hx hv)
   ·exact jac
  ·exact jac
 | build t parts =>
  unfold spec; simp only []
  unfold jen
  split
  ·split
   ·split
    ·rename_i cells hc
     exact jam fun _ => jap (jcb (jj9 he parts.toList _ cells ji3 hc))
    ·exact jac
   ·exact jac
  ·split
   ·split
    ·split
     ·rename_i cells hc
      exact jam fun _ => jap (jcb (jj9 he parts.toList _ cells ji3 hc))
     ·exact jac
    ·exact jac
   ·exact jac
  ·exact jac
 | buildSlice t len parts =>
  unfold spec; simp only []
  unfold jbc
  split
  ·split
   ·split
    ·exact jda (jb7 _ jbh) trivial
    ·split
     ·rename_i hsl
      split
      ·rename_i ds ns hds
       have hmem := jdk hds
       refine jam fun _ => ⟨jb7 _ jbh, fun p hp => ?_, fun p hp z hz => ?_⟩
       ·rcases List.mem_append.1 hp with hp | hp
        ·obtain ⟨h1, h2⟩ := jg0 hp
         refine .inr ⟨by simp only [mutB]; rw [‹jbs ty t = _›]; exact hsl, ?_⟩
         refine List.mem_append_left _ ?_
         simp only [jba]
         have := hmem p.1 h1
         rw [List.map_map] at this
         exact this
        ·simp at hp; subst hp; exact .inl ⟨Nat.le_refl _, by show nm < nm + 16; omega⟩
       ·rcases List.mem_append.1 hp with hp | hp
        ·obtain ⟨h1, h2⟩ := jg0 hp
         rw [h2] at hz; cases hz
        ·simp at hp; subst hp; simp at hz; subst hz; exact ⟨jbh, jbh⟩
      ·exact jac
     ·exact jac
   ·exact jac
  ·exact jac
 | makeSlice t l c =>
  unfold spec; simp only []
  unfold jgz
  split
  ·split
   ·split
    ·split
     ·exact jda (jb7 _ jbh) trivial
     ·exact jda (jb7 _ jbh) jbh
    ·exact jac
   ·exact jac
  ·exact jac
 | call c =>
  obtain ⟨callee, args, argTypes⟩ := c
  cases callee with
  | value c =>
   unfold spec; simp only []
   split
   ·rename_i f caps hcv
    unfold jc1
    cases hS : Γ f with
    | none => exact jac
    | some S =>
     simp only []
     split
     ·exact jac
     ·rename_i ds ns_ rd_ hargs'
      obtain ⟨⟨ds0, ns, rd⟩, hargs, hargs2⟩ := Option.map_eq_some_iff.1 hargs'
      simp only [Prod.mk.injEq] at hargs2
      obtain ⟨hds, rfl, rfl⟩ := hargs2
      split
      ·exact jac
      ·rename_i obs hobs
       intro hp
       obtain ⟨p1, p2, p3, p5, p4⟩ := (show _ /\ _ /\ _ /\ _ /\ _ from hp)
       refine ⟨?_, ?_⟩
       ·obtain ⟨r, new, obs', hr⟩ := hl f S hS ds obs p1
        exact ⟨_, _, r, new, obs', hr, rfl, rfl⟩
       rintro av δ ⟨r, new, obs', hpost, rfl, rfl⟩
       have res := p4 r new obs' hpost
       obtain ⟨hol, hoj⟩ := jd0 hobs
       have g1 := jdv S.lend _ ds0 ns rd hargs
       have hlent : ∀ (f : Nat -> Nat) (ns : List Nat) (obs : List Obj') (g : Nat), ∀ p ∈ jgr f g ns obs, p.1 ∈ ns /\ ∀ x, p.2 = some x -> ∃ y q, y ∈ obs /\ x = (y.ren f).regen q /\ g <= q /\ q < g + obs.length := by
        intro f ns
        induction ns with
        | nil => intro obs g p hp; simp [jgr] at hp
        | cons n ns ih =>
         intro obs g p hp
         cases obs with
         | nil =>
          simp only [jgr, List.mem_cons] at hp
          rcases hp with rfl | hp
          ·exact ⟨List.mem_cons_self .., fun y hy => by cases hy⟩
          ·obtain ⟨h1, h2⟩ := ih [] (g + 1) p hp
           refine ⟨List.mem_cons_of_mem _ h1, fun y hy => ?_⟩
           obtain ⟨z, q, k1, k2, k3, k4⟩ := h2 y hy
           cases k1
         | cons x obs =>
          simp only [jgr, List.mem_cons] at hp
          rcases hp with rfl | hp
          ·exact ⟨List.mem_cons_self .., fun y hy => by simp at hy; subst hy; exact ⟨x, g, List.mem_cons_self .., rfl, Nat.le_refl _, by simp⟩⟩
          ·obtain ⟨h1, h2⟩ := ih obs (g + 1) p hp
           refine ⟨List.mem_cons_of_mem _ h1, fun y hy => ?_⟩
           obtain ⟨z, q, k1, k2, k3, k4⟩ := h2 y hy
           exact ⟨z, q, List.mem_cons_of_mem _ k1, k2, by omega, by simp only [List.length_cons]; omega⟩
       have hnew : ∀ (f : Nat -> Nat) (new : List Obj') (k : Nat), ∀ p ∈ newF f k new, k <= p.1 /\ p.1 < k + new.length /\ ∀ x, p.2 = some x -> ∃ z, z ∈ new /\ x = (z.ren f).regen p.1 := by
        intro f new
        induction new with
        | nil => intro k p hp; simp [newF] at hp
        | cons x new ih =>
         intro k p hp
         simp only [newF, List.mem_cons] at hp
         rcases hp with rfl | hp
         ·exact ⟨Nat.le_refl _, by simp, fun y hy => by simp at hy; exact ⟨x, List.mem_cons_self .., hy.symm⟩⟩
         ·obtain ⟨h1, h2, h3⟩ := ih (k + 1) p hp
          exact ⟨by omega, by simp only [List.length_cons]; omega, fun y hy => by
           obtain ⟨z, hz, hz2⟩ := h3 y hy
           exact ⟨z, List.mem_cons_of_mem _ hz, hz2⟩⟩
       have hU : ∀ n ∈ ns, U n := fun n hn => by
        obtain ⟨j, hj⟩ := List.getElem?_of_mem hn
        obtain ⟨x, _, hx⟩ := hoj j n hj
        exact (hσ n x hx).1
       have few := res.few
       refine ⟨NB.shift (by omega) res.nbr, fun p hp => ?_, fun p hp x hx => ?_⟩
       ·rcases List.mem_append.1 hp with hp | hp
        ·have hpn := (hlent _ ns obs' _ p hp).1
         refine .inr ⟨?_, ?_⟩
         ·cases c with
          | func f' =>
           have hff := hfn f'
           rw [hcv] at hff
           cases hff
           unfold mutB
           simp only [hS]
           cases hl : jrp S.lend with
           | true => rfl
           | false => rw [jof hargs hl] at hpn; cases hpn
          | _ => rfl
         ·have := g1 p.1 hpn
          have h0 : jba e ⟨dst, .call ⟨.value c, args, argTypes⟩, type, pos, after, guard⟩ = jao (args.toList.map e ++ caps) := by
           simp only [jba, jey, hcv]
           rw [jd1]
           conv => lhs; arg 2; unfold AV.names
          simp only [jbt, xset]
          rw [h0]
          exact this
        ·obtain ⟨h1, h2, _⟩ := hnew _ new nm p hp
         exact .inl ⟨h1, by omega⟩
       ·rcases List.mem_append.1 hp with hp | hp
        ·obtain ⟨h1, h2⟩ := hlent _ ns obs' _ p hp
         obtain ⟨z, q, k1, rfl, k3, k4⟩ := h2 x hx
         have := res.same
         exact ⟨jay (hU p.1 h1), NBl.nbo (.inr ⟨by omega, by omega⟩) (fun i hi => by
          have hin : i < ns.length := by omega
          have e1 : ns.getD i 0 = ns[i]'hin := by rw [List.getD_eq_getElem?_getD, List.getElem?_eq_getElem hin]; rfl
          show Un U nm (ns.getD i 0)
          rw [e1]
          exact jay (hU _ (List.getElem_mem hin))) (res.nbo.2 z k1)⟩
        ·obtain ⟨h1, h2, h4⟩ := hnew _ new nm p hp
         obtain ⟨z, hz1, hz2⟩ := h4 x hx
         subst hz2
         exact ⟨.inr ⟨h1, by omega⟩, NBl.nbo (.inr ⟨h1, by omega⟩) (fun i hi => .inr ⟨by omega, by omega⟩) (res.nbo.1 z hz1)⟩
   ·exact jac
  | invoke r m => exact jac
  | builtin b =>
   cases b
   case len =>
    unfold spec; simp only []
    split
    ·unfold je7
     split
     ·split
      ·exact jaw
      ·exact jac
     ·split
      ·exact jaw
      ·exact jaw
      ·split
       ·exact jaw
       ·exact jaw
       ·exact jac
      ·unfold jfi
       split
       ·split
        ·exact jaw
        ·exact jac
       ·exact jac
      ·exact jac
     ·exact jac
    ·exact jac
   case append =>
    unfold spec; simp only []
    split
    ·rename_i x y t t' hx ht
     have hex := he x
     unfold jc2
     split
     ·split
      ·split
       ·split
        ·exact jda (jb7 _ jbh) trivial
        ·rename_i ob hxo
         rw [hxo] at hex; unfold NB at hex
         split
         ·split
          ·refine jam fun _ => ⟨jb7 _ jbh, fun p hp => ?_, fun p hp z hz => ?_⟩
           ·simp only [List.mem_cons, List.not_mem_nil, or_false] at hp
            rcases hp with rfl | rfl
            ·exact .inr ⟨rfl, by simp [jbt, jba, hx, jao, hxo, AV.names]⟩
            ·exact .inl ⟨Nat.le_refl _, by show nm < nm + 16; omega⟩
           ·simp only [List.mem_cons, List.not_mem_nil, or_false] at hp
            rcases hp with rfl | rfl
            ·simp at hz
            ·simp at hz; subst hz; exact ⟨jbh, trivial⟩
          ·exact jac
         ·exact jac
        ·rename_i ob g k j hxo
         refine jii hσ ⟨rfl, ?_⟩
         simp [jbt, jba, hx, jao, hxo, AV.names]
        ·exact jac
       ·split
        ·rename_i o2 hyo
         refine jih (fun n hn => ⟨rfl, ?_⟩)
         refine List.mem_append_left _ ?_
         simp only [jba, jey, hx, List.map_cons, List.map_nil, jao, List.append_nil]
         rcases hn with rfl | hn
         ·exact List.mem_append_right _ (by rw [hyo]; simp [AV.names])
         ·exact List.mem_append_left _ hn
        ·exact jac
      ·exact jac
     ·exact jac
    ·exact jac
   case max =>
    unfold spec; simp only []
    split
    ·split
     ·exact jaw
     ·exact jac
    ·exact jac
   case min =>
    unfold spec; simp only []
    split
    ·split
     ·exact jaw
     ·exact jac
    ·exact jac
   all_goals exact jac
 | makeFunc fn first caps =>
  cases fn with
  | func f =>
   unfold spec; simp only []
   split
   ·exact jam fun _ => jap (by unfold NB; exact jl1 he _)
   ·exact jac
  | _ => exact jac
 | _ => exact jac

end
end Go.Ab
