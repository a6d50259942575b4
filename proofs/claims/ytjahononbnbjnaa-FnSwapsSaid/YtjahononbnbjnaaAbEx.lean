/- My own layer: a symbolic executor of operations, which the kernel runs; with hints where it cannot know. -/
import Derived.Test.YtjahononbnbjnaaAbPure
namespace Go.Ab
set_option linter.unusedVariables false
set_option linter.unusedSimpArgs false

structure X where
 A : List (Nat × AV)
 L : List (Nat × Option Obj')
 nx : Nat

def lkA : List (Nat × AV) → Nat → AV
 | [], _ => .unk
 | (k, v) :: r, t => bif Nat.beq t k then v else lkA r t
def obo : List (Nat × Option Obj') → Objs
 | [], _ => none
 | (k, x) :: r, n => bif Nat.beq n k then x else obo r n
def envX (n : Nat) (A : List (Nat × AV)) : List AV := (List.range n).map (lkA A)
def X.st (n : Nat) (x : X) : St := ⟨envX n x.A, obo x.L, x.nx⟩

def evX (n : Nat) (A : List (Nat × AV)) : Operand → AV
 | .tmp t => bif Nat.blt t n then lkA A t else .und
 | .const v => constAV v
 | .global _ => .unk
 | .func f => .fn f []
def putX (A : List (Nat × AV)) (d : Option Tmp) (v : AV) : List (Nat × AV) :=
 match d with
 | some d => (d, v) :: A
 | none => A
def appX : Delta → List (Nat × Option Obj') → List (Nat × Option Obj')
 | [], L => L
 | (o, x) :: r, L => appX r ((o, x) :: L)

theorem envX_getD (n : Nat) (A : List (Nat × AV)) (t : Nat) : (envX n A).getD t .und = bif Nat.blt t n then lkA A t else .und := by
 unfold envX
 rw [List.getD_eq_getElem?_getD, List.getElem?_map]
 by_cases h : t < n
 ·have : Nat.blt t n = true := by simpa [Nat.blt_eq] using h
  rw [List.getElem?_range h, this]; rfl
 ·have : Nat.blt t n = false := by
   cases hb : Nat.blt t n with
   | true => exact absurd (by simpa [Nat.blt_eq] using hb) h
   | false => rfl
  rw [List.getElem?_eq_none (by simpa using h), this]; rfl
theorem evX_eq (n : Nat) (A : List (Nat × AV)) : evX n A = evalA (envX n A) := by
 funext x
 cases x with
 | tmp t => exact (envX_getD n A t).symm
 | const v => rfl
 | global g => rfl
 | func f => rfl
theorem lkA_cons (d : Nat) (v : AV) (A : List (Nat × AV)) (t : Nat) : lkA ((d, v) :: A) t = if t = d then v else lkA A t := by
 show (bif Nat.beq t d then v else lkA A t) = _
 by_cases h : t = d
 ·subst h; simp
 ·have : Nat.beq t d = false := by
   cases hb : Nat.beq t d with
   | true => exact absurd (Nat.eq_of_beq_eq_true hb) h
   | false => rfl
  rw [this, if_neg h]; rfl
theorem putX_eq (n : Nat) (A : List (Nat × AV)) (d : Option Tmp) (v : AV) : putA (envX n A) d v = envX n (putX A d v) := by
 cases d with
 | none => rfl
 | some d =>
  simp only [putA, putX]
  unfold envX
  apply List.ext_getElem?
  intro t
  rw [List.getElem?_map]
  by_cases h : t < n
  ·rw [List.getElem?_range h, List.getElem?_set, List.length_map, List.length_range, List.getElem?_map, List.getElem?_range h]
   simp only [Option.map_some, lkA_cons]
   by_cases hd : d = t
   ·subst hd; simp [h]
   ·rw [if_neg hd, if_neg (Ne.symm hd)]
  ·have h' : n ≤ t := by omega
   rw [List.getElem?_eq_none (by simpa using h'), List.getElem?_eq_none (by simpa using h')]; rfl
theorem appX_eq : ∀ (δ : Delta) (L : List (Nat × Option Obj')), app δ (obo L) = obo (appX δ L)
 | [], L => rfl
 | (o, x) :: r, L => by
  have : upd (obo L) o x = obo ((o, x) :: L) := rfl
  unfold app appX
  rw [this]
  exact appX_eq r _

inductive AllP : List Prop → Prop where
 | nil : AllP []
 | cons {p : Prop} {r : List Prop} : p → AllP r → AllP (p :: r)
theorem AllP.app : ∀ {l r : List Prop}, AllP (l ++ r) → AllP l ∧ AllP r
 | [], r, h => ⟨.nil, h⟩
 | p :: l, r, h => by
  cases h with
  | cons h1 h2 =>
   obtain ⟨a, b⟩ := AllP.app (l := l) h2
   exact ⟨.cons h1 a, b⟩

inductive Md where
 | k
 | z (es : Nat)
 | o (n : Nat)
 | bd (E : TypeId)
 | t (mask : List (Option TypeId))
 | f

inductive Loc where
 | s (t : Nat)
 | c (b i : Nat)

inductive H where
 | n (m : Int)
 | b (t : Bool)
 | s (x : ByteArray)
 | l (x : List D)
 | d (x : D)
 | sd (x : D) (l : List D)
 | dn (x : D) (m : Int)
 | d2 (x y : D)
 | sd2 (x y : D) (r l : List D)
 | c (r : AV) (new ob : List Obj')
 | cf (r : AV) (new ob : List Obj')
 | fz (os : List Nat) (ms : List (Nat × List Md)) (rs : List (Nat × List Md))
 | st (lc : Loc) (x : D)
 | cv (x : D) (r : AV) (new ob : List Obj')
 | mg (x : D) (b : Bool)
 | mp (l : List ((Int × Int) × D))

def norm (h : Option H) (av : AV) (δ : Delta) : Option (List Prop × AV × Delta) :=
 match h with
 | none => some ([], av, δ)
 | some (.n m) => match av with
  | .dat (.sc (.int k r)) => some ([r = m], .dat (.sc (.int k m)), δ)
  | _ => none
 | some (.b t) => match av with
  | .dat (.sc (.bool r)) => some ([r = t], .dat (.sc (.bool t)), δ)
  | _ => none
 | some (.s x) => match av with
  | .dat (.sc (.string r)) => some ([r = x], .dat (.sc (.string x)), δ)
  | _ => none
 | some (.l x) => match av with
  | .dat (.sl es r) => some ([r = x], .dat (.sl es x), δ)
  | .own o => match δ with
   | [(a, some (.arr e es r))] => some ([r = x], .own o, [(a, some (.arr e es x))])
   | [(a, some (.tab e es m r g hole))] => some ([r = x], .own o, [(a, some (.tab e es m x g hole))])
   | [p, (a, some (.arr e es r))] => some ([r = x], .own o, [p, (a, some (.arr e es x))])
   | [p, (a, some (.tab e es m r g hole))] => some ([r = x], .own o, [p, (a, some (.tab e es m x g hole))])
   | [p, q, (a, some (.tab e es m r g hole))] => some ([r = x], .own o, [p, q, (a, some (.tab e es m x g hole))])
   | _ => none
  | _ => none
 | some (.mg x q) => match av with
  | .tup [.dat r, .dat (.sc (.bool b))] => some ([r = x, b = q], .tup [.dat x, .dat (.sc (.bool q))], δ)
  | _ => none
 | some (.mp x) => match δ with
  | [(a, some (.mp t r))] => some ([r = x], av, [(a, some (.mp t x))])
  | _ => none
 | _ => none

theorem norm_eq {h : Option H} {av : AV} {δ : Delta} {ps : List Prop} {av' : AV} {δ' : Delta} (hn : norm h av δ = some (ps, av', δ')) (hp : AllP ps) : av' = av ∧ δ' = δ := by
 unfold norm at hn
 split at hn
 ·cases hn; exact ⟨rfl, rfl⟩
 ·split at hn
  ·cases hn; cases hp with | cons h1 _ => subst h1; exact ⟨rfl, rfl⟩
  ·cases hn
 ·split at hn
  ·cases hn; cases hp with | cons h1 _ => subst h1; exact ⟨rfl, rfl⟩
  ·cases hn
 ·split at hn
  ·cases hn; cases hp with | cons h1 _ => subst h1; exact ⟨rfl, rfl⟩
  ·cases hn
 ·split at hn
  ·cases hn; cases hp with | cons h1 _ => subst h1; exact ⟨rfl, rfl⟩
  ·split at hn
   ·cases hn; cases hp with | cons h1 _ => subst h1; exact ⟨rfl, rfl⟩
   ·cases hn; cases hp with | cons h1 _ => subst h1; exact ⟨rfl, rfl⟩
   ·cases hn; cases hp with | cons h1 _ => subst h1; exact ⟨rfl, rfl⟩
   ·cases hn; cases hp with | cons h1 _ => subst h1; exact ⟨rfl, rfl⟩
   ·cases hn; cases hp with | cons h1 _ => subst h1; exact ⟨rfl, rfl⟩
   ·cases hn
  ·cases hn
 ·split at hn
  ·cases hn; cases hp with | cons h1 hp => cases hp with | cons h2 _ => subst h1; subst h2; exact ⟨rfl, rfl⟩
  ·cases hn
 ·split at hn
  ·cases hn; cases hp with | cons h1 _ => subst h1; exact ⟨rfl, rfl⟩
  ·cases hn
 ·cases hn

def CallOK (S : FnSpec) (ds : List D) (obs : List Obj') (r : AV) (new ob : List Obj') : Prop :=
 S.pre ds obs ∧ ∀ r' new' ob', S.post ds obs r' new' ob' → r' = r ∧ new' = new ∧ ob' = ob

mutual
def nbB (m : Nat) : AV → Bool
 | .own o | .ref o _ | .eref o _ _ _ => Nat.blt o m
 | .row o g _ _ | .rref o g _ _ _ _ _ | .vw o g _ _ _ _ _ => Nat.blt o m && Nat.blt g m
 | .aggv l | .tup l | .fn _ l => nbsB m l
 | _ => true
def nbsB (m : Nat) : List AV → Bool
 | [] => true
 | x :: l => nbB m x && nbsB m l
end
mutual
theorem nbB_ok {m : Nat} : ∀ {x : AV}, nbB m x = true → NB (· < m) x
 | .dat _, h => by unfold NB; trivial
 | .own o, h => by unfold nbB at h; unfold NB; simpa [Nat.blt_eq] using h
 | .ref o _, h => by unfold nbB at h; unfold NB; simpa [Nat.blt_eq] using h
 | .eref o _ _ _, h => by unfold nbB at h; unfold NB; simpa [Nat.blt_eq] using h
 | .row o g _ _, h => by unfold nbB at h; unfold NB; simpa [Nat.blt_eq] using h
 | .rref o g _ _ _ _ _, h => by unfold nbB at h; unfold NB; simpa [Nat.blt_eq] using h
 | .vw o g _ _ _ _ _, h => by unfold nbB at h; unfold NB; simpa [Nat.blt_eq] using h
 | .fp _, h => by unfold NB; trivial
 | .aggv l, h => by unfold nbB at h; unfold NB; exact nbsB_ok h
 | .tup l, h => by unfold nbB at h; unfold NB; exact nbsB_ok h
 | .fn _ l, h => by unfold nbB at h; unfold NB; exact nbsB_ok h
 | .und, h => by unfold NB; trivial
 | .unk, h => by unfold NB; trivial
theorem nbsB_ok {m : Nat} : ∀ {l : List AV}, nbsB m l = true → NBs (· < m) l
 | [], _ => by unfold NBs; trivial
 | x :: l, h => by
  unfold nbsB at h; unfold NBs
  simp only [Bool.and_eq_true] at h
  exact ⟨nbB_ok h.1, nbsB_ok h.2⟩
end
def nboB : Obj' → Bool
 | .box _ l => nbsB 0 l
 | .arr _ _ _ => true
 | .mp .. => true
 | .bld .. => false
 | .tab .. => false
def nlB (L : Nat) : Obj' → Bool
 | .box _ l => nbsB L l
 | _ => true
theorem nlB_ok {L : Nat} {x : Obj'} (h : nlB L x = true) : NBl L x := by
 cases x with
 | box T l => exact nbsB_ok h
 | _ => trivial
def isScB : D → Bool
 | .sc _ => true
 | _ => false
def flatDB : D → Bool
 | .sc _ => true
 | .agg l => l.all isScB
 | .sl _ _ => false
theorem flatDB_ok {d : D} (h : flatDB d = true) : FlatD d := by
 cases d with
 | sc v => trivial
 | sl es l => cases h
 | agg l =>
  intro d hd
  have := List.all_eq_true.1 h d hd
  cases d with
  | sc v => exact ⟨v, rfl⟩
  | _ => cases this
def flatCB : AV → Bool
 | .dat d => flatDB d
 | .own _ => true
 | _ => false
def flatEB : AV → Bool
 | .aggv l => l.all flatCB
 | x => flatCB x
def flatVB : AV → Bool
 | .tup l => l.all flatEB
 | x => flatEB x
theorem flatCB_ok {x : AV} (h : flatCB x = true) : FlatC x := by
 cases x with
 | dat d => exact flatDB_ok h
 | own o => trivial
 | _ => cases h
theorem flatEB_ok {x : AV} (h : flatEB x = true) : FlatE x := by
 cases x with
 | aggv l => exact fun x hx => flatCB_ok (List.all_eq_true.1 h x hx)
 | dat d => exact flatDB_ok h
 | own o => trivial
 | _ => cases h
theorem flatVB_ok {x : AV} (h : flatVB x = true) : FlatAV x := by
 cases x with
 | tup l => exact fun x hx => flatEB_ok (List.all_eq_true.1 h x hx)
 | aggv l => exact fun x hx => flatCB_ok (List.all_eq_true.1 h x hx)
 | dat d => exact flatDB_ok h
 | own o => trivial
 | _ => cases h
def flatOB : Obj' → Bool
 | .box _ l => l.all flatCB
 | .mp _ _ => true
 | _ => false
theorem flatOB_ok {x : Obj'} (h : flatOB x = true) : FlatObj x := by
 cases x with
 | box T l => exact fun x hx => flatCB_ok (List.all_eq_true.1 h x hx)
 | arr e es l => cases h
 | mp t l => trivial
 | bld T E l g => cases h
 | tab e es mask l g hole => cases h
def FlatRes (new ob : List Obj') : Prop := (∀ x ∈ new, FlatObj x) ∧ ∀ x ∈ ob, FlatObj x
def memB (n : Nat) : List Nat → Bool
 | [] => false
 | k :: l => Nat.beq n k || memB n l
theorem memB_ok {n : Nat} : ∀ {l : List Nat}, memB n l = false → n ∉ l
 | [], _ => by simp
 | k :: l, h => by
  unfold memB at h
  simp only [Bool.or_eq_false_iff] at h
  intro hm
  rcases List.mem_cons.1 hm with rfl | hm
  ·simp at h
  ·exact memB_ok h.2 hm
theorem memB_t {n : Nat} : ∀ {l : List Nat}, memB n l = true → n ∈ l
 | [], h => by cases h
 | k :: l, h => by
  unfold memB at h
  simp only [Bool.or_eq_true] at h
  rcases h with h | h
  ·have := Nat.eq_of_beq_eq_true h; subst this; exact List.mem_cons_self ..
  ·exact List.mem_cons_of_mem _ (memB_t h)
def nodupB : List Nat → Bool
 | [] => true
 | k :: l => !memB k l && nodupB l
theorem nodupB_ok : ∀ {l : List Nat}, nodupB l = true → l.Nodup
 | [], _ => List.nodup_nil
 | k :: l, h => by
  unfold nodupB at h
  simp only [Bool.and_eq_true, Bool.not_eq_true'] at h
  exact List.nodup_cons.2 ⟨memB_ok h.1, nodupB_ok h.2⟩
def isNilB {α : Type} : List α → Bool
 | [] => true
 | _ => false

def trivB (e : Operand → AV) (o : Oper) : Bool :=
 match o.op with
 | .buildSlice _ _ parts => isNilB (namesL (parts.toList.map fun p => e p.2))
 | .makeMap _ _ | .lookup _ _ _ _ | .mapUpdate _ _ _ _ => true
 | .move _ | .assign _ | .alloc _ | .box _ _ | .nilCheck _ | .extract _ _ | .field _ _ _ | .build _ _ | .unOp _ _ _ | .makeFunc _ _ _ => true
 | .convert _ _ x => (isInt (e x)).isSome
 | .load _ a => match e a with
  | .ref _ _ => true
  | _ => false
 | .store _ a _ => match e a with
  | .ref _ _ => true
  | _ => false
 | .fieldAddr _ a _ => match e a with
  | .ref _ _ | .eref _ _ _ _ | .rref _ _ _ _ _ _ _ => true
  | _ => false
 | .binOp op _ x _ _ => match op with
  | .quo | .rem | .shl | .shr => false
  | .add => (isStr (e x)).isNone
  | _ => true
 | .call { callee := .builtin .len, args, .. } => match args.toList with
  | [x] => match e x with
   | .row _ _ _ _ => false
   | _ => true
  | _ => true
 | .call { callee := .builtin .max, .. } | .call { callee := .builtin .min, .. } => true
 | _ => false

section
variable {ty : TypeId → Option TyE} {Γ : Nat → Option FnSpec} {σ : Objs} {e : Operand → AV} {nm : Nat}

theorem boolV_p {b : Bool} {p : Prop} {rd : List Nat} {av : AV} {δ : Delta} (h : boolV b = .det p rd av δ) : p := by
 unfold boolV at h; cases h; trivial
theorem intBd_p {k : IntKind} {b : Int} {p : Prop} {rd : List Nat} {av : AV} {δ : Delta} (h : intBd k b = .det p rd av δ) : p := by
 unfold intBd at h; cases h; trivial
theorem nilEq_p {neg : Bool} {x : AV} {p : Prop} {rd : List Nat} {av : AV} {δ : Delta} (h : nilEq neg x = .det p rd av δ) : p := by
 unfold nilEq at h
 split at h <;> first | (cases h; trivial) | cases h
theorem aggEq_p {op : BinOp} {t : TypeId} {x y : AV} {p : Prop} {rd : List Nat} {av : AV} {δ : Delta} (h : aggEq ty op t x y = .det p rd av δ) : p := by
 unfold aggEq at h
 split at h
 ·split at h
  ·split at h
   ·split at h
    ·exact boolV_p h
    ·exact boolV_p h
    ·cases h
   ·cases h
  ·cases h
 ·cases h
theorem nilSpec_p {op : BinOp} {t : TypeId} {x y : AV} {p : Prop} {rd : List Nat} {av : AV} {δ : Delta} (h : nilSpec ty op t x y = .det p rd av δ) : p := by
 unfold nilSpec at h
 split at h
 ·split at h
  ·exact nilEq_p h
  ·exact nilEq_p h
  ·cases h
 ·exact aggEq_p h

theorem int_isStr {a : AV} (h : (isInt a).isSome = true) : isStr a = none := by
 unfold isInt at h
 split at h
 ·rfl
 ·cases h
theorem int_slOf {x : AV} {es : Nat} (h : (isInt x).isSome = true) : slOf σ es x = none := by
 unfold isInt at h
 split at h
 ·rfl
 ·cases h
theorem triv_p {o : Oper} (ht : trivB e o = true) {p : Prop} {rd : List Nat} {av : AV} {δ : Delta} (h : spec ty Γ σ e nm o = .det p rd av δ) : p := by
 obtain ⟨dst, op, type, pos, after, guard⟩ := o
 unfold trivB at ht
 cases op
 case move x => unfold spec at h; cases h; trivial
 case assign x => unfold spec at h; cases h; trivial
 case alloc t =>
  unfold spec at h; simp only [] at h
  repeat' (split at h)
  all_goals first | (cases h; trivial) | cases h
 case box t x =>
  unfold spec at h; simp only [] at h
  repeat' (split at h)
  all_goals first | (cases h; trivial) | cases h
 case makeFunc fn first caps =>
  cases fn <;> (unfold spec at h; simp only [] at h; repeat' (split at h)) <;> first | (cases h; trivial) | cases h
 case makeMap t r =>
  cases r with
  | none =>
   unfold spec at h; simp only [makeMapSpec] at h
   split at h <;> first | (cases h; trivial) | cases h
  | some r => unfold spec at h; cases h
 case lookup t x i ok =>
  cases ok with
  | true =>
   unfold spec at h; simp only [lookupSpec] at h
   repeat' (split at h)
   all_goals first | (cases h; trivial) | cases h
  | false => unfold spec at h; cases h
 case mapUpdate t x i v =>
  unfold spec at h; simp only [mapPutSpec] at h
  repeat' (split at h)
  all_goals first | (cases h; trivial) | cases h
 case nilCheck x =>
  unfold spec at h; simp only [] at h
  repeat' (split at h)
  all_goals first | (cases h; trivial) | cases h
 case extract x i =>
  unfold spec at h; simp only [] at h
  repeat' (split at h)
  all_goals first | (cases h; trivial) | cases h
 case field s x f =>
  unfold spec at h; simp only [fieldV] at h
  repeat' (split at h)
  all_goals first | (cases h; trivial) | cases h
 case build t ps =>
  unfold spec at h; simp only [buildSpec] at h
  repeat' (split at h)
  all_goals first | (cases h; trivial) | cases h
 case buildSlice t l ps =>
  unfold spec at h; simp only [buildSliceSpec] at h
  simp only [] at ht
  split at h
  ·split at h
   ·split at h
    ·cases h; trivial
    ·split at h
     ·split at h
      ·rename_i ds ns hds
       have hm := elemsTab_names hds
       rw [List.map_map] at hm
       have hnil : namesL (ps.toList.map fun p => e p.2) = [] := by
        cases hn : namesL (ps.toList.map fun p => e p.2) with
        | nil => rfl
        | cons a l => rw [hn] at ht; cases ht
       have hnd : ns.Nodup := by
        cases ns with
        | nil => exact List.nodup_nil
        | cons a l =>
         have := hm a (List.mem_cons_self ..)
         have this' : a ∈ namesL (ps.toList.map fun p => e p.2) := this
         rw [hnil] at this'; cases this'
       cases h
       exact hnd
      ·cases h
     ·cases h
   ·cases h
  ·cases h
 case convert s d x =>
  unfold spec at h; simp only [] at h
  simp only [] at ht
  split at h
  ·cases h; trivial
  ·unfold convSpec at h
   rw [int_slOf ht] at h
   split at h
   ·rename_i hsl; cases hsl
   ·rw [int_isStr ht] at h; cases h
   ·cases h
 case unOp u t x =>
  cases u <;> (unfold spec at h; simp only [] at h)
  all_goals first
   | (split at h; (first | exact boolV_p h | exact intBd_p h); cases h)
   | cases h
 case load t a =>
  unfold spec at h; simp only [loadSpec] at h ht
  cases hx : e a <;> simp only [hx] at h ht
  all_goals first | (cases ht; done) | skip
  repeat' (split at h)
  all_goals first | (cases h; trivial) | cases h
 case store t a x =>
  unfold spec at h; simp only [storeSpec] at h ht
  cases hx : e a <;> simp only [hx] at h ht
  all_goals first | (cases ht; done) | skip
  repeat' (split at h)
  all_goals first | (cases h; trivial) | cases h
 case fieldAddr t a f =>
  unfold spec at h; simp only [fieldSpec] at h ht
  cases hx : e a <;> simp only [hx] at h ht
  all_goals first | (cases ht; done) | skip
  all_goals repeat' (split at h)
  all_goals first | (cases h; trivial) | cases h
 case binOp op t x y u =>
  unfold spec at h; simp only [binSpec] at h ht
  split at h
  ·rename_i k a k' b h1 h2
   split at h
   ·simp at ht
   ·simp at ht
   ·split at h
    ·split at h
     all_goals first | exact boolV_p h | exact intBd_p h | (simp at ht; done) | (cases h; trivial) | cases h
    ·cases h
  ·split at h
   ·rename_i a b h1 h2
    split at h
    all_goals first | exact boolV_p h | (simp [h1] at ht; done) | (cases h; trivial) | cases h
   ·split at h
    ·split at h
     all_goals first | exact boolV_p h | cases h
    ·exact nilSpec_p h
 case call c =>
  obtain ⟨callee, args, ts⟩ := c
  cases callee with
  | value f => simp at ht
  | invoke a b => simp at ht
  | builtin b =>
   cases b
   case len =>
    unfold spec at h; simp only [] at h
    split at h
    ·rename_i x t hx _
     simp only [hx] at ht
     unfold lenSpec at h
     split at h
     ·split at h
      ·cases h; trivial
      ·cases h
     ·split at h
      ·cases h; trivial
      ·cases h; trivial
      ·split at h
       ·cases h; trivial
       ·cases h; trivial
       ·cases h
      ·rename_i hex; rw [hex] at ht; cases ht
      ·cases h; trivial
      ·cases h
     ·cases h
    ·cases h
   case max =>
    unfold spec at h; simp only [] at h
    repeat' (split at h)
    all_goals first | (cases h; trivial) | cases h
   case min =>
    unfold spec at h; simp only [] at h
    repeat' (split at h)
    all_goals first | (cases h; trivial) | cases h
   all_goals (simp at ht)
 all_goals (simp at ht)
end
end Go.Ab
