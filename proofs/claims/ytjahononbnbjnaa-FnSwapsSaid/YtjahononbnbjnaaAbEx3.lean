/- My own layer: to know less (by the kernel); tests, joins, loops, a body's end. -/
import Derived.Test.YtjahononbnbjnaaAbEx2
namespace Go.Ab
set_option linter.unusedVariables false
set_option linter.unusedSimpArgs false

def oldN (ren : List (Nat × Nat)) (o : Nat) : Option Nat :=
 match ren with
 | [] => none
 | (a, b) :: r => bif Nat.beq b o then some a else oldN r o

def refV (ren : List (Nat × Nat)) : AV → AV
 | .ref o i => match oldN ren o with
  | some a => .ref a i
  | none => .unk
 | _ => .unk
def wkV (k : Nat) (σ : Objs) (ren : List (Nat × Nat)) (nils : List Nat) (m : Md) : AV → AV
 | .dat d => match m with
  | .k => .dat d
  | .z es => (match d with
   | .sc (.slice none 0 0) => .dat (.sl es [])
   | d => .dat d)
  | .o n => (match d with
   | .sc (.slice none 0 0) => bif memB n nils then .own n else .unk
   | d => .dat d)
  | _ => (match d with
   | .sc (.slice none 0 0) => .unk
   | d => .dat d)
 | .own o => match oldN ren o with
  | some a => .own a
  | none => match slO σ o with
   | some (es, l) => bif Nat.ble k o then .dat (.sl es l) else .unk
   | none => .unk
 | .row o g i j => match oldN ren o with
  | some a => match tabAt σ o g with
   | some _ => .row a a i j
   | none => .unk
  | none => .unk
 | .rref o g q j es i c => match oldN ren o with
  | some a => match tabAt σ o g with
   | some _ => .rref a a q j es i c
   | none => .unk
  | none => .unk
 | .vw o g q j es lo m => match oldN ren o with
  | some a => match tabAt σ o g with
   | some _ => .vw a a q j es lo m
   | none => .unk
  | none => .unk
 | .ref o i => match oldN ren o with
  | some a => .ref a i
  | none => .unk
 | .eref o es i j => match oldN ren o with
  | some a => .eref a es i j
  | none => .unk
 | .fp l => .fp l
 | .und => .und
 | .fn f l => .fn f (l.map (refV ren))
 | _ => .unk
def wkC (k : Nat) (σ : Objs) (ren : List (Nat × Nat)) (nils : List Nat) : List Md → List AV → List AV
 | m :: ms, x :: l => wkV k σ ren nils m x :: wkC k σ ren nils ms l
 | [], x :: l => wkV k σ ren nils .k x :: wkC k σ ren nils [] l
 | _, [] => []
def wkS (k : Nat) (σ : Objs) (ren : List (Nat × Nat)) (nils : List Nat) (ms : List Md) : AV → AV
 | .aggv l => mkAgg (wkC k σ ren nils ms l)
 | .dat (.agg l) => match ms with
  | [] => .dat (.agg l)
  | m :: ms' => mkAgg (wkC k σ ren nils (m :: ms') (l.map .dat))
 | .tup l => .tup (wkC k σ ren nils ms l)
 | .fn f l => .fn f (wkC k σ ren nils [] l)
 | x => wkV k σ ren nils (ms.headD .k) x

structure WP where
 keep : List (Nat × List Md)
 objs : List (Nat × Nat × List Md)
 nils : List (Nat × TypeId × Nat × List (Option TypeId))
 nx : Nat

def wkO (k : Nat) (σ : Objs) (ren : List (Nat × Nat)) (nils : List Nat) (ms : List Md) (n : Nat) : Option Obj' → Option Obj'
 | some (.box T l) => match ms with
  | .bd E :: _ => match l with
   | [.dat (.sc (.pointer none)), .dat (.sc (.slice none 0 0))] => some (.bld T E [] n)
   | _ => none
  | _ => some (.box T (wkC k σ ren nils ms l))
 | some (.bld T E l _) => match ms with
  | .f :: _ => none
  | _ => some (.bld T E l n)
 | some (.mp t l) => match ms with
  | .f :: _ => none
  | _ => some (.mp t l)
 | some (.arr e es l) => match ms with
  | .t mask :: _ => match l with
   | [] => bif Nat.ble mask.length es then some (.tab e es mask [] n none) else none
   | _ => none
  | _ => some (.arr e es l)
 | some (.tab e es mask l g hole) => match ms with
  | .f :: _ => match hole with
   | none => some (.arr e es l)
   | some _ => none
  | _ => some (.tab e es mask l n hole)
 | none => none
def nilO (q : Nat × TypeId × Nat × List (Option TypeId)) : Obj' := match q.2.2.2 with
 | [] => .arr q.2.1 q.2.2.1 []
 | m :: ms => .tab q.2.1 q.2.2.1 (m :: ms) [] q.1 none
def isF : List Md → Bool
 | .f :: _ => true
 | _ => false
def frOf (os : List (Nat × Nat × List Md)) : List Nat := (os.filter fun q => isF q.2.2).map fun q => q.2.1
def noTab : Option Obj' → Bool
 | some (.tab ..) => false
 | some (.bld ..) => false
 | _ => true

def renB (k : Nat) (ren : List (Nat × Nat)) (nils : List (Nat × TypeId × Nat × List (Option TypeId))) (nx : Nat) : Bool :=
 nodupB (ren.map (·.1)) && nodupB (ren.map (·.2)) && nils.all (fun n => !memB n.1 (ren.map (·.1)) && Nat.blt n.1 nx && (Nat.blt 0 n.2.2.1 && Nat.ble n.2.2.2.length n.2.2.1)) && ren.all (fun p => Nat.blt p.1 nx) &&
  (List.range k).all (fun j => ren.any fun p => Nat.beq p.1 j && Nat.beq p.2 j)

def wkX (n k : Nat) (p : WP) (x : X) : X :=
 let ren := p.objs.map fun q => (q.1, q.2.1)
 let nl := p.nils.map (·.1)
 ⟨p.keep.map fun q => (q.1, wkS k (obo x.L) ren nl q.2 (bif Nat.blt q.1 n then lkA x.A q.1 else .und)), (p.objs.map fun q => (q.1, wkO k (obo x.L) ren nl q.2.2 q.1 (obo x.L q.2.1))) ++ p.nils.map fun q => (q.1, some (nilO q)), p.nx⟩
def wkOK (k : Nat) (p : WP) : Bool := renB k (p.objs.map fun q => (q.1, q.2.1)) p.nils p.nx

section
variable {k : Nat} {σ : Objs} {ren : List (Nat × Nat)} {nils : List Nat}

theorem oldN_some : ∀ {ren : List (Nat × Nat)} {o a : Nat}, oldN ren o = some a → (a, o) ∈ ren
 | [], o, a, h => by cases h
 | (x, y) :: r, o, a, h => by
  unfold oldN at h
  cases hb : Nat.beq y o with
  | true =>
   rw [hb] at h; cases h
   have := Nat.eq_of_beq_eq_true hb
   subst this; exact List.mem_cons_self ..
  | false => rw [hb] at h; exact List.mem_cons_of_mem _ (oldN_some h)
theorem oldN_none : ∀ {ren : List (Nat × Nat)} {o : Nat}, oldN ren o = none → o ∉ ren.map Prod.snd
 | [], o, h => by simp
 | (x, y) :: r, o, h => by
  unfold oldN at h
  cases hb : Nat.beq y o with
  | true => rw [hb] at h; cases h
  | false =>
   rw [hb] at h
   have ih := oldN_none (o := o) h
   simp only [List.map_cons, List.mem_cons, not_or]
   refine ⟨fun e => ?_, ih⟩
   subst e
   simp at hb

theorem refV_ok {L : Nat} : ∀ {x : AV}, VLe L σ ren nils x (refV ren x) := by
 intro x
 unfold refV
 split
 ·split
  ·rename_i a h; exact vle_ref (oldN_some h)
  ·exact vle_unk _
 ·exact vle_unk _
theorem refsV_ok {L : Nat} : ∀ {l : List AV}, VLes L σ ren nils l (l.map (refV ren))
 | [] => vles_nil
 | _ :: _ => vles_cons refV_ok refsV_ok
theorem wkV_ok {m : Md} : ∀ {x : AV}, VLe k σ ren nils x (wkV k σ ren nils m x) := by
 intro x
 unfold wkV
 split
 ·split
  ·exact vle_dat rfl
  ·split
   ·exact vle_nilD
   ·exact vle_dat rfl
  ·rename_i n
   split
   ·cases h : memB n nils with
    | true => exact vle_nil (memB_t h)
    | false => exact vle_unk _
   ·exact vle_dat rfl
  ·split
   ·exact vle_unk _
   ·exact vle_dat rfl
 ·rename_i o
  split
  ·rename_i a h; exact vle_own (oldN_some h)
  ·rename_i h
   split
   ·rename_i es l hσ
    cases hk : Nat.ble k o with
    | true => exact vle_frz hσ (oldN_none h) (Nat.le_of_ble_eq_true hk) rfl
    | false => exact vle_unk _
   ·exact vle_unk _
 ·rename_i o g i j
  split
  ·rename_i a h
   split
   ·rename_i t ht; unfold VLe; exact .inr ⟨a, rfl, oldN_some h, t, ht⟩
   ·exact vle_unk _
  ·exact vle_unk _
 ·rename_i o g q j es i c
  split
  ·rename_i a h
   split
   ·rename_i t ht; unfold VLe; exact .inr ⟨a, rfl, oldN_some h, t, ht⟩
   ·exact vle_unk _
  ·exact vle_unk _
 ·rename_i o g q j es lo m
  split
  ·rename_i a h
   split
   ·rename_i t ht; unfold VLe; exact .inr ⟨a, rfl, oldN_some h, t, ht⟩
   ·exact vle_unk _
  ·exact vle_unk _
 ·split
  ·rename_i a h; exact vle_ref (oldN_some h)
  ·exact vle_unk _
 ·split
  ·rename_i a h; unfold VLe; exact .inr ⟨a, rfl, oldN_some h⟩
  ·exact vle_unk _
 ·unfold VLe; exact .inr rfl
 ·exact vle_und
 ·rename_i f l; unfold VLe; exact .inr ⟨l.map (refV ren), rfl, refsV_ok⟩
 ·exact vle_unk _
theorem wkC_ok : ∀ {ms : List Md} {l : List AV}, VLes k σ ren nils l (wkC k σ ren nils ms l)
 | m :: ms, x :: l => by unfold wkC; exact vles_cons wkV_ok wkC_ok
 | [], x :: l => by unfold wkC; exact vles_cons wkV_ok wkC_ok
 | [], [] => by unfold wkC; exact vles_nil
 | m :: ms, [] => by unfold wkC; exact vles_nil

theorem toDs_map : ∀ {l : List AV} {ds : List D}, toDs l = some ds → l = ds.map .dat
 | [], ds, h => by simp only [toDs, Option.some.injEq] at h; subst h; rfl
 | x :: l, ds, h => by
  simp only [toDs] at h
  split at h
  ·rename_i d r h1 h2
   cases h
   have := toDs_map h2
   cases x with
   | dat d' => simp only [AV.toD, Option.some.injEq] at h1; subst h1; rw [this]; rfl
   | _ => simp [AV.toD] at h1
  ·cases h
theorem vled_of : ∀ {l : List AV} {ds : List D}, VLes k σ ren nils l (ds.map .dat) → VLed k σ ren nils l ds
 | [], ds, h => by
  unfold VLes at h; unfold VLed
  cases ds with
  | nil => rfl
  | cons => cases h
 | x :: l, ds, h => by
  unfold VLes at h; unfold VLed
  obtain ⟨y, r, h1, h2, h3⟩ := h
  cases ds with
  | nil => cases h1
  | cons d ds =>
   simp only [List.map_cons, List.cons.injEq] at h1
   obtain ⟨rfl, rfl⟩ := h1
   exact ⟨d, ds, rfl, h2, vled_of h3⟩
theorem vle_agg {l l' : List AV} (h : VLes k σ ren nils l l') : VLe k σ ren nils (.aggv l) (mkAgg l') := by
 unfold mkAgg
 split
 ·rename_i ds hd
  unfold VLe
  refine .inr (.inr ⟨ds, rfl, vled_of ?_⟩)
  rw [← toDs_map hd]; exact h
 ·unfold VLe; exact .inr (.inl ⟨l', rfl, h⟩)
theorem dle_of {d d' : D} {L : Nat} (h : VLe L σ ren nils (.dat d) (.dat d')) : DLe d d' := by
 unfold VLe at h
 rcases h with h | ⟨d2, h, h2⟩ | ⟨_, o, h, _⟩
 ·cases h
 ·cases h; exact h2
 ·cases h
theorem dles_of : ∀ {l : List D} {ds : List D}, VLes k σ ren nils (l.map .dat) (ds.map .dat) → DLes l ds
 | [], ds, h => by
  simp only [List.map_nil] at h
  unfold VLes at h; unfold DLes
  cases ds with
  | nil => rfl
  | cons => cases h
 | x :: l, ds, h => by
  simp only [List.map_cons] at h
  unfold VLes at h; unfold DLes
  obtain ⟨y, r, h1, h2, h3⟩ := h
  cases ds with
  | nil => cases h1
  | cons d ds =>
   simp only [List.map_cons, List.cons.injEq] at h1
   obtain ⟨rfl, rfl⟩ := h1
   exact ⟨d, ds, rfl, dle_of h2, dles_of h3⟩
theorem wkS_ok {ms : List Md} : ∀ {x : AV}, VLe k σ ren nils x (wkS k σ ren nils ms x) ∨ ∃ l m ms', ms = m :: ms' ∧ x = .dat (.agg l) ∧ toDs (wkC k σ ren nils (m :: ms') (l.map .dat)) = none := by
 intro x
 unfold wkS
 split
 ·exact .inl (vle_agg wkC_ok)
 ·rename_i l
  cases ms with
  | nil => exact .inl (wkV_ok (m := .k) (x := .dat (.agg l)))
  | cons m ms' =>
   show VLe k σ ren nils _ (mkAgg (wkC k σ ren nils (m :: ms') (l.map .dat))) ∨ _
   cases hd : toDs (wkC k σ ren nils (m :: ms') (l.map .dat)) with
   | none => exact .inr ⟨l, m, ms', rfl, rfl, hd⟩
   | some ds =>
    left
    unfold mkAgg
    rw [hd]
    unfold VLe
    refine .inr (.inl ⟨_, rfl, ?_⟩)
    unfold DLe
    refine ⟨ds, rfl, dles_of (k := k) (σ := σ) (ren := ren) (nils := nils) ?_⟩
    rw [← toDs_map hd]; exact wkC_ok
 ·left; unfold VLe; exact .inr ⟨_, rfl, wkC_ok⟩
 ·left; unfold VLe; exact .inr ⟨_, rfl, wkC_ok⟩
 ·exact .inl wkV_ok
end

def aggOK (k : Nat) (σ : Objs) (ren : List (Nat × Nat)) (nils : List Nat) (ms : List Md) : AV → Bool
 | .dat (.agg l) => match ms with
  | [] => true
  | m :: ms' => (toDs (wkC k σ ren nils (m :: ms') (l.map .dat))).isSome
 | _ => true
def wkOK2 (n k : Nat) (p : WP) (x : X) : Bool :=
 wkOK k p && p.keep.all (fun q => aggOK k (obo x.L) (p.objs.map fun q => (q.1, q.2.1)) (p.nils.map (·.1)) q.2 (bif Nat.blt q.1 n then lkA x.A q.1 else .und)) && p.objs.all (fun q => (wkO k (obo x.L) (p.objs.map fun q => (q.1, q.2.1)) (p.nils.map (·.1)) q.2.2 q.1 (obo x.L q.2.1)).isSome)

section
variable {cx : Cx} {n : Nat}

theorem lkA_map {f : Nat × List Md → AV} : ∀ {l : List (Nat × List Md)} {t : Nat} {v : AV}, lkA (l.map fun q => (q.1, f q)) t = v → v = .unk ∨ ∃ q ∈ l, q.1 = t ∧ v = f q
 | [], t, v, h => .inl h.symm
 | q :: l, t, v, h => by
  simp only [List.map_cons, lkA] at h
  cases hb : Nat.beq t q.1 with
  | true =>
   rw [hb] at h
   exact .inr ⟨q, List.mem_cons_self .., (Nat.eq_of_beq_eq_true hb).symm, h.symm⟩
  | false =>
   rw [hb] at h
   rcases lkA_map h with h | ⟨q', h1, h2⟩
   ·exact .inl h
   ·exact .inr ⟨q', List.mem_cons_of_mem _ h1, h2⟩

theorem vles_range {L : Nat} {σ : Objs} {ren : List (Nat × Nat)} {nils : List Nat} {f g : Nat → AV} : ∀ {l : List Nat}, (∀ t ∈ l, VLe L σ ren nils (f t) (g t)) → VLes L σ ren nils (l.map f) (l.map g)
 | [], _ => vles_nil
 | t :: l, h => vles_cons (h t (List.mem_cons_self ..)) (vles_range fun u hu => h u (List.mem_cons_of_mem _ hu))

theorem obo_obs : ∀ {L : List (Nat × Option Obj')}, (∀ p ∈ L, p.2.isSome) → ∃ os : List (Nat × Obj'), obo L = obs os ∧ ∀ p ∈ os, (p.1, some p.2) ∈ L
 | [], _ => ⟨[], rfl, by simp⟩
 | (a, none) :: r, h => by have := h _ (List.mem_cons_self ..); cases this
 | (a, some y) :: r, h => by
  obtain ⟨os, h1, h2⟩ := obo_obs (L := r) fun p hp => h p (List.mem_cons_of_mem _ hp)
  refine ⟨(a, y) :: os, ?_, ?_⟩
  ·funext t
   show (bif Nat.beq t a then some y else obo r t) = (bif Nat.beq t a then some y else obs os t)
   rw [h1]
  ·intro p hp
   rcases List.mem_cons.1 hp with rfl | hp
   ·exact List.mem_cons_self ..
   ·exact List.mem_cons_of_mem _ (h2 p hp)

theorem Wk_X {x : X} {k : Nat} (hk : cx.L = k) (p : WP) (h : wkOK2 n k p x = true) : Wk cx (x.st n) ((wkX n k p x).st n) := by
 unfold wkOK2 wkOK renB at h
 simp only [Bool.and_eq_true] at h
 obtain ⟨⟨⟨⟨⟨⟨h1, h2⟩, h3⟩, h4⟩, h5⟩, h6⟩, h7⟩ := h
 have hall : ∀ q ∈ (wkX n k p x).L, q.2.isSome = true := by
  intro q hq
  unfold wkX at hq
  simp only [List.mem_append, List.mem_map] at hq
  rcases hq with ⟨q', hq', rfl⟩ | ⟨q', hq', rfl⟩
  ·exact List.all_eq_true.1 h7 q' hq'
  ·rfl
 obtain ⟨os, ho1, ho2⟩ := obo_obs hall
 show Wk cx ⟨envX n x.A, obo x.L, x.nx⟩ ⟨envX n (wkX n k p x).A, obo (wkX n k p x).L, p.nx⟩
 rw [ho1]
 refine Wk_mk (p.objs.map fun q => (q.1, q.2.1)) (p.nils.map (·.1)) (frOf p.objs) os ⟨nodupB_ok h1, nodupB_ok h2, ?_, ?_⟩ ?_ ?_ ?_ ?_
 ·intro m hm
  obtain ⟨q, hq, rfl⟩ := List.mem_map.1 hm
  have := List.all_eq_true.1 h3 q hq
  simp only [Bool.and_eq_true, Bool.not_eq_true'] at this
  exact memB_ok this.1.1
 ·intro j hj
  have := List.all_eq_true.1 h5 j (List.mem_range.2 (by omega))
  obtain ⟨q, hq, hq2⟩ := List.any_eq_true.1 this
  simp only [Bool.and_eq_true] at hq2
  have e1 := Nat.eq_of_beq_eq_true hq2.1
  have e2 := Nat.eq_of_beq_eq_true hq2.2
  obtain ⟨a, b⟩ := q
  simp only at e1 e2
  subst e1; subst e2
  exact hq
 ·rw [hk]
  refine vles_range fun t ht => ?_
  have htn : t < n := List.mem_range.1 ht
  have hb : Nat.blt t n = true := by simpa [Nat.blt_eq] using htn
  rcases lkA_map (v := lkA (wkX n k p x).A t) rfl with hu | ⟨q, hq, rfl, hv⟩
  ·rw [hu]; exact vle_unk _
  ·rw [hv, hb]
   simp only [cond_true]
   rcases wkS_ok (k := k) (σ := obo x.L) (ren := p.objs.map fun q => (q.1, q.2.1)) (nils := p.nils.map (·.1)) (ms := q.2) (x := lkA x.A q.1) with hw | ⟨l, m_, ms_, hms, hl, hd⟩
   ·exact hw
   ·have := List.all_eq_true.1 h6 q hq
    rw [hb] at this
    simp only [cond_true, hl, hms, aggOK, hd] at this
    cases this
 ·intro q hq
  have hm := ho2 q hq
  unfold wkX at hm
  simp only [List.mem_append, List.mem_map] at hm
  rcases hm with ⟨q', hq', e⟩ | ⟨q', hq', e⟩
  ·left
   simp only [Prod.mk.injEq] at e
   obtain ⟨e1, e2⟩ := e
   cases hx : obo x.L q'.2.1 with
   | none =>
    rw [hx] at e2; cases e2
   | some y =>
    rw [hx] at e2
    refine ⟨q'.2.1, y, List.mem_map.2 ⟨q', hq', by rw [← e1]⟩, hx, ?_⟩
    rw [hk]
    have hnf : isF q'.2.2 = false → q'.2.1 ∉ frOf p.objs := fun hf hm' => by
     unfold frOf at hm'
     obtain ⟨q2, hq2, e3⟩ := List.mem_map.1 hm'
     obtain ⟨hq2a, hq2b⟩ := List.mem_filter.1 hq2
     have hnd := nodupB_ok h2
     rw [List.map_map] at hnd
     have : q2 = q' := by
      have key : ∀ {l : List (Nat × Nat × List Md)}, (l.map ((fun p : Nat × Nat => p.2) ∘ fun q => (q.1, q.2.1))).Nodup → q2 ∈ l → q' ∈ l → q2 = q' := by
       intro l
       induction l with
       | nil => intro _ h _; cases h
       | cons z l ih =>
        intro hnd ha hb
        simp only [List.map_cons, List.nodup_cons] at hnd
        rcases List.mem_cons.1 ha with ha | ha
        ·rcases List.mem_cons.1 hb with hb | hb
         ·rw [ha, hb]
         ·exact absurd (List.mem_map.2 ⟨q', hb, by simp only [Function.comp]; rw [← e3, ha]⟩) hnd.1
        ·rcases List.mem_cons.1 hb with hb | hb
         ·exact absurd (List.mem_map.2 ⟨q2, ha, by simp only [Function.comp]; rw [e3, hb]⟩) hnd.1
         ·exact ih hnd.2 ha hb
      exact key hnd hq2a hq'
     subst this
     rw [hf] at hq2b; cases hq2b
    cases y with
    | box T l =>
     simp only [wkO] at e2
     split at e2
     ·rename_i E _ hms
      split at e2
      ·simp only [Option.some.injEq] at e2
       exact .inr ⟨rfl, ⟨E, by rw [← e2, e1]⟩, hnf (by rw [hms]; rfl)⟩
      ·cases e2
     ·simp only [Option.some.injEq] at e2
      rw [← e2]
      exact .inl ⟨_, rfl, wkC_ok⟩
    | bld T E l g =>
     simp only [wkO] at e2
     split at e2
     ·cases e2
     ·rename_i hms
      simp only [Option.some.injEq] at e2
      refine ⟨by rw [← e2, e1], hnf ?_⟩
      cases hq3 : q'.2.2 with
      | nil => rfl
      | cons m ms =>
       cases m
       case f => exact absurd hq3 (hms ms)
       all_goals rfl
    | mp t l =>
     simp only [wkO] at e2
     split at e2
     ·cases e2
     ·simp only [Option.some.injEq] at e2
      exact e2.symm
    | arr e es l =>
     simp only [wkO] at e2
     split at e2
     ·rename_i mask _ _
      split at e2
      ·cases hb : Nat.ble mask.length es with
       | false => rw [hb] at e2; cases e2
       | true =>
        rw [hb] at e2
        simp only [cond_true, Option.some.injEq] at e2
        exact .inr ⟨rfl, mask, by rw [← e2, e1], Nat.le_of_ble_eq_true hb⟩
      ·cases e2
     ·simp only [Option.some.injEq] at e2
      exact .inl e2.symm
    | tab e es mask l g hole =>
     simp only [wkO] at e2
     split at e2
     ·rename_i hms
      split at e2
      ·simp only [Option.some.injEq] at e2
       refine .inr ⟨rfl, e2.symm, ?_⟩
       unfold frOf
       exact List.mem_map.2 ⟨q', List.mem_filter.2 ⟨hq', by rw [hms]; rfl⟩, rfl⟩
      ·cases e2
     ·rename_i hms
      simp only [Option.some.injEq] at e2
      refine .inl ⟨by rw [← e2, e1], hnf ?_⟩
      cases hq3 : q'.2.2 with
      | nil => rfl
      | cons m ms =>
       cases m
       case f => exact absurd hq3 (hms ms)
       all_goals rfl
  ·right
   simp only [Prod.mk.injEq, Option.some.injEq] at e
   obtain ⟨e1, e2⟩ := e
   have := List.all_eq_true.1 h3 q' hq'
   simp only [Bool.and_eq_true] at this
   refine ⟨List.mem_map.2 ⟨q', hq', e1⟩, q'.2.1, q'.2.2.1, by simpa [Nat.blt_eq] using this.2.1, ?_⟩
   unfold nilO at e2
   split at e2
   ·exact .inl e2.symm
   ·rename_i m ms hm
    refine .inr ⟨m :: ms, by rw [← e2, e1], ?_⟩
    rw [← hm]
    exact Nat.le_of_ble_eq_true this.2.2
 ·intro q hq
  have := List.all_eq_true.1 h4 q hq
  simpa [Nat.blt_eq] using this
 ·intro m hm
  obtain ⟨q, hq, rfl⟩ := List.mem_map.1 hm
  have := List.all_eq_true.1 h3 q hq
  simp only [Bool.and_eq_true] at this
  simpa [Nat.blt_eq] using this.1.2
end
end Go.Ab
