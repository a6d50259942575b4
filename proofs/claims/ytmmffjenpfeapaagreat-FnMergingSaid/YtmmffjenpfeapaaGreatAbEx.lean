/- My own layer: a symbolic executor of operations, which the kernel runs; with hints where it cannot know. -/
import Derived.Test.YtmmffjenpfeapaaGreatAbPure
namespace Go.Ab
set_option linter.unusedVariables false
set_option linter.unusedSimpArgs false

structure X where
 A : List (Nat × AV)
 L : List (Nat × Option Obj')
 nx : Nat

def lkA : List (Nat × AV) -> Nat -> AV
 | [], _ => .unk
 | (k, v) :: r, t => bif Nat.beq t k then v else lkA r t
def obo : List (Nat × Option Obj') -> Objs
 | [], _ => none
 | (k, x) :: r, n => bif Nat.beq n k then x else obo r n
def envX (n : Nat) (A : List (Nat × AV)) : List AV := (List.range n).map (lkA A)
def X.st (n : Nat) (x : X) : St := ⟨envX n x.A, obo x.L, x.nx⟩

def evX (n : Nat) (A : List (Nat × AV)) : Operand -> AV
 | .tmp t => bif Nat.blt t n then lkA A t else .und
 | .const v => jem v
 | .global _ => .unk
 | .func f => .fn f []
def putX (A : List (Nat × AV)) (d : Option Tmp) (v : AV) : List (Nat × AV) :=
 match d with
 | some d => (d, v) :: A
 | none => A
def appX : jbg -> List (Nat × Option Obj') -> List (Nat × Option Obj')
 | [], L => L
 | (o, x) :: r, L => appX r ((o, x) :: L)

theorem jc8 (n : Nat) (A : List (Nat × AV)) (t : Nat) : (envX n A).getD t .und = bif Nat.blt t n then lkA A t else .und := by
 unfold envX
 rw [List.getD_eq_getElem?_getD, List.getElem?_map]
 by_cases h : t < n
 ·have : Nat.blt t n = true := by simpa [Nat.blt_eq] using h
  rw [List.getElem?_range h, this]; rfl
 ·have : Nat.blt t n = false := by
   cases hb : Nat.blt t n with
   | true => exact absurd (by simpa [Nat.blt_eq] using hb) h
   | false => rfl
  rw [List.getElem?_eq_none (by simpa using h), this]; rfl
theorem jnc (n : Nat) (A : List (Nat × AV)) : evX n A = jbb (envX n A) := by
 funext x
 cases x with
 | tmp t => exact (jc8 n A t).symm
 | const v => rfl
 | global g => rfl
 | func f => rfl
theorem jm3 (d : Nat) (v : AV) (A : List (Nat × AV)) (t : Nat) : lkA ((d, v) :: A) t = if t = d then v else lkA A t := by
 show (bif Nat.beq t d then v else lkA A t) = _
 by_cases h : t = d
 ·subst h; simp
 ·have : Nat.beq t d = false := by
   cases hb : Nat.beq t d with
   | true => exact absurd (Nat.eq_of_beq_eq_true hb) h
   | false => rfl
  rw [this, if_neg h]; rfl
theorem jej (n : Nat) (A : List (Nat × AV)) (d : Option Tmp) (v : AV) : putA (envX n A) d v = envX n (putX A d v) := by
 cases d with
 | none => rfl
 | some d =>
  simp only [putA, putX]
  unfold envX
  apply List.ext_getElem?
  intro t
  rw [List.getElem?_map]
  by_cases h : t < n
  ·rw [List.getElem?_range h, List.getElem?_set, List.length_map, List.length_range, List.getElem?_map, List.getElem?_range h]
   simp only [Option.map_some, jm3]
   by_cases hd : d = t
   ·subst hd; simp [h]
   ·rw [if_neg hd, if_neg (Ne.symm hd)]
  ·have h' : n <= t := by omega
   rw [List.getElem?_eq_none (by simpa using h'), List.getElem?_eq_none (by simpa using h')]; rfl
theorem jkh : ∀ (δ : jbg) (L : List (Nat × Option Obj')), app δ (obo L) = obo (appX δ L)
 | [], L => rfl
 | (o, x) :: r, L => by
  have : upd (obo L) o x = obo ((o, x) :: L) := rfl
  unfold app appX
  rw [this]
  exact jkh r _

inductive AllP : List Prop -> Prop where
 | nil : AllP []
 | cons {p : Prop} {r : List Prop} : p -> AllP r -> AllP (p :: r)
theorem AllP.app : ∀ {l r : List Prop}, AllP (l ++ r) -> AllP l /\ AllP r
 | [], r, h => ⟨.nil, h⟩
 | p :: l, r, h => by
  cases h with
  | cons h1 h2 =>
   obtain ⟨a, b⟩ := AllP.app (l := l) h2
   exact ⟨.cons h1 a, b⟩

inductive Md where
 | k
 | z (es : Nat)
 | o (n : Nat)
 | bd (E : TypeId)
 | t (mask : List (Option TypeId))
 | f

inductive Loc where
 | s (t : Nat)
 | c (b i : Nat)

inductive H where
 | n (m : Int)
 | b (t : Bool)
 | s (x : ByteArray)
 | l (x : List D)
 | d (x : D)
 | sd (x : D) (l : List D)
 | dn (x : D) (m : Int)
 | d2 (x y : D)
 | sd2 (x y : D) (r l : List D)
 | c (r : AV) (new ob : List Obj')
 | cf (r : AV) (new ob : List Obj')
 | fz (os : List Nat) (ms : List (Nat × List Md)) (rs : List (Nat × List Md))
 | st (lc : Loc) (x : D)

def norm (h : Option H) (av : AV) (δ : jbg) : Option (List Prop × AV × jbg) :=
 match h with
 | none => some ([], av, δ)
 | some (.n m) => match av with
  | .dat (.sc (.int k r)) => some ([r = m], .dat (.sc (.int k m)), δ)
  | _ => none
 | some (.b t) => match av with
  | .dat (.sc (.bool r)) => some ([r = t], .dat (.sc (.bool t)), δ)
  | _ => none
 | some (.s x) => match av with
  | .dat (.sc (.string r)) => some ([r = x], .dat (.sc (.string x)), δ)
  | _ => none
 | some (.l x) => match av with
  | .dat (.sl es r) => some ([r = x], .dat (.sl es x), δ)
  | .own o => match δ with
   | [(a, some (.arr e es r))] => some ([r = x], .own o, [(a, some (.arr e es x))])
   | [(a, some (.tab e es m r g hole))] => some ([r = x], .own o, [(a, some (.tab e es m x g hole))])
   | [p, (a, some (.arr e es r))] => some ([r = x], .own o, [p, (a, some (.arr e es x))])
   | [p, (a, some (.tab e es m r g hole))] => some ([r = x], .own o, [p, (a, some (.tab e es m x g hole))])
   | [p, q, (a, some (.tab e es m r g hole))] => some ([r = x], .own o, [p, q, (a, some (.tab e es m x g hole))])
   | _ => none
  | _ => none
 | _ => none

theorem jly {h : Option H} {av : AV} {δ : jbg} {ps : List Prop} {av' : AV} {δ' : jbg} (hn : norm h av δ = some (ps, av', δ')) (hp : AllP ps) : av' = av /\ δ' = δ := by
 unfold norm at hn
 split at hn
 ·cases hn; exact ⟨rfl, rfl⟩
 ·split at hn
  ·cases hn; cases hp with | cons h1 _ => subst h1; exact ⟨rfl, rfl⟩
  ·cases hn
 ·split at hn
  ·cases hn; cases hp with | cons h1 _ => subst h1; exact ⟨rfl, rfl⟩
  ·cases hn
 ·split at hn
  ·cases hn; cases hp with | cons h1 _ => subst h1; exact ⟨rfl, rfl⟩
  ·cases hn
 ·split at hn
  ·cases hn; cases hp with | cons h1 _ => subst h1; exact ⟨rfl, rfl⟩
  ·split at hn
   ·cases hn; cases hp with | cons h1 _ => subst h1; exact ⟨rfl, rfl⟩
   ·cases hn; cases hp with | cons h1 _ => subst h1; exact ⟨rfl, rfl⟩
   ·cases hn; cases hp with | cons h1 _ => subst h1; exact ⟨rfl, rfl⟩
   ·cases hn; cases hp with | cons h1 _ => subst h1; exact ⟨rfl, rfl⟩
   ·cases hn; cases hp with | cons h1 _ => subst h1; exact ⟨rfl, rfl⟩
   ·cases hn
  ·cases hn
 ·cases hn

def jgm (S : FnSpec) (ds : List D) (obs : List Obj') (r : AV) (new ob : List Obj') : Prop :=
 S.pre ds obs /\ ∀ r' new' ob', S.post ds obs r' new' ob' -> r' = r /\ new' = new /\ ob' = ob

mutual
def nbB (m : Nat) : AV -> Bool
 | .own o | .ref o _ | .eref o _ _ _ => Nat.blt o m
 | .row o g _ _ | .rref o g _ _ _ _ _ => Nat.blt o m && Nat.blt g m
 | .aggv l | .tup l | .fn _ l => nbsB m l
 | _ => true
def nbsB (m : Nat) : List AV -> Bool
 | [] => true
 | x :: l => nbB m x && nbsB m l
end
mutual
theorem jpm {m : Nat} : ∀ {x : AV}, nbB m x = true -> NB (· < m) x
 | .dat _, h => by unfold NB; trivial
 | .own o, h => by unfold nbB at h; unfold NB; simpa [Nat.blt_eq] using h
 | .ref o _, h => by unfold nbB at h; unfold NB; simpa [Nat.blt_eq] using h
 | .eref o _ _ _, h => by unfold nbB at h; unfold NB; simpa [Nat.blt_eq] using h
 | .row o g _ _, h => by unfold nbB at h; unfold NB; simpa [Nat.blt_eq] using h
 | .rref o g _ _ _ _ _, h => by unfold nbB at h; unfold NB; simpa [Nat.blt_eq] using h
 | .fp _, h => by unfold NB; trivial
 | .aggv l, h => by unfold nbB at h; unfold NB; exact jhp h
 | .tup l, h => by unfold nbB at h; unfold NB; exact jhp h
 | .fn _ l, h => by unfold nbB at h; unfold NB; exact jhp h
 | .und, h => by unfold NB; trivial
 | .unk, h => by unfold NB; trivial
theorem jhp {m : Nat} : ∀ {l : List AV}, nbsB m l = true -> NBs (· < m) l
 | [], _ => by unfold NBs; trivial
 | x :: l, h => by
  unfold nbsB at h; unfold NBs
  simp only [Bool.and_eq_true] at h
  exact ⟨jpm h.1, jhp h.2⟩
end
def nlB (L : Nat) : Obj' -> Bool
 | .box _ l => nbsB L l
 | _ => true
theorem jgh {L : Nat} {x : Obj'} (h : nlB L x = true) : NBl L x := by
 cases x with
 | box T l => exact jhp h
 | _ => trivial
def ju1 : D -> Bool
 | .sc _ => true
 | _ => false
def jsf : D -> Bool
 | .sc _ => true
 | .agg l => l.all ju1
 | .sl _ _ => false
theorem jdt {d : D} (h : jsf d = true) : jix d := by
 cases d with
 | sc v => trivial
 | sl es l => cases h
 | agg l =>
  intro d hd
  have := List.all_eq_true.1 h d hd
  cases d with
  | sc v => exact ⟨v, rfl⟩
  | _ => cases this
def jna : AV -> Bool
 | .dat d => jsf d
 | .own _ => true
 | _ => false
def jqf : AV -> Bool
 | .aggv l => l.all jna
 | x => jna x
def jqc : AV -> Bool
 | .tup l => l.all jqf
 | x => jqf x
theorem jh4 {x : AV} (h : jna x = true) : jok x := by
 cases x with
 | dat d => exact jdt h
 | own o => trivial
 | _ => cases h
theorem jqe {x : AV} (h : jqf x = true) : jrd x := by
 cases x with
 | aggv l => exact fun x hx => jh4 (List.all_eq_true.1 h x hx)
 | dat d => exact jdt h
 | own o => trivial
 | _ => cases h
theorem jk9 {x : AV} (h : jqc x = true) : jnu x := by
 cases x with
 | tup l => exact fun x hx => jqe (List.all_eq_true.1 h x hx)
 | aggv l => exact fun x hx => jh4 (List.all_eq_true.1 h x hx)
 | dat d => exact jdt h
 | own o => trivial
 | _ => cases h
def jqd : Obj' -> Bool
 | .box _ l => l.all jna
 | _ => false
theorem jla {x : Obj'} (h : jqd x = true) : jco x := by
 cases x with
 | box T l => exact fun x hx => jh4 (List.all_eq_true.1 h x hx)
 | arr e es l => cases h
 | bld T E l g => cases h
 | tab e es mask l g hole => cases h
def jmk (new ob : List Obj') : Prop := (∀ x ∈ new, jco x) /\ ∀ x ∈ ob, jco x
def memB (n : Nat) : List Nat -> Bool
 | [] => false
 | k :: l => Nat.beq n k || memB n l
theorem jf6 {n : Nat} : ∀ {l : List Nat}, memB n l = false -> n ∉ l
 | [], _ => by simp
 | k :: l, h => by
  unfold memB at h
  simp only [Bool.or_eq_false_iff] at h
  intro hm
  rcases List.mem_cons.1 hm with rfl | hm
  ·simp at h
  ·exact jf6 h.2 hm
theorem jpq {n : Nat} : ∀ {l : List Nat}, memB n l = true -> n ∈ l
 | [], h => by cases h
 | k :: l, h => by
  unfold memB at h
  simp only [Bool.or_eq_true] at h
  rcases h with h | h
  ·have := Nat.eq_of_beq_eq_true h; subst this; exact List.mem_cons_self ..
  ·exact List.mem_cons_of_mem _ (jpq h)
def jek : List Nat -> Bool
 | [] => true
 | k :: l => !memB k l && jek l
theorem jb8 : ∀ {l : List Nat}, jek l = true -> l.Nodup
 | [], _ => List.nodup_nil
 | k :: l, h => by
  unfold jek at h
  simp only [Bool.and_eq_true, Bool.not_eq_true'] at h
  exact List.nodup_cons.2 ⟨jf6 h.1, jb8 h.2⟩
def jja {α : Type} : List α -> Bool
 | [] => true
 | _ => false

def jjk (e : Operand -> AV) (o : Oper) : Bool :=
 match o.op with
 | .buildSlice _ _ parts => jja (jao (parts.toList.map fun p => e p.2))
 | .move _ | .assign _ | .alloc _ | .box _ _ | .nilCheck _ | .extract _ _ | .field _ _ _ | .build _ _ | .unOp _ _ _ | .makeFunc _ _ _ => true
 | .convert _ _ x => (jbu (e x)).isSome
 | .load _ a => match e a with
  | .ref _ _ => true
  | _ => false
 | .store _ a _ => match e a with
  | .ref _ _ => true
  | _ => false
 | .fieldAddr _ a _ => match e a with
  | .ref _ _ | .eref _ _ _ _ | .rref _ _ _ _ _ _ _ => true
  | _ => false
 | .binOp op _ x _ _ => match op with
  | .quo | .rem | .shl | .shr => false
  | .add => (jhv (e x)).isNone
  | _ => true
 | .call { callee := .builtin .len, args, .. } => match args.toList with
  | [x] => match e x with
   | .row _ _ _ _ => false
   | _ => true
  | _ => true
 | .call { callee := .builtin .max, .. } | .call { callee := .builtin .min, .. } => true
 | _ => false

section
variable {ty : TypeId -> Option TyE} {Γ : Nat -> Option FnSpec} {σ : Objs} {e : Operand -> AV} {nm : Nat}

theorem jgb {b : Bool} {p : Prop} {rd : List Nat} {av : AV} {δ : jbg} (h : jdl b = .det p rd av δ) : p := by
 unfold jdl at h; cases h; trivial
theorem jpy {k : IntKind} {b : Int} {p : Prop} {rd : List Nat} {av : AV} {δ : jbg} (h : jk5 k b = .det p rd av δ) : p := by
 unfold jk5 at h; cases h; trivial
theorem jpj {neg : Bool} {x : AV} {p : Prop} {rd : List Nat} {av : AV} {δ : jbg} (h : jiv neg x = .det p rd av δ) : p := by
 unfold jiv at h
 split at h <;> first | (cases h; trivial) | cases h
theorem jtr {op : BinOp} {t : TypeId} {x y : AV} {p : Prop} {rd : List Nat} {av : AV} {δ : jbg} (h : jmg ty op t x y = .det p rd av δ) : p := by
 unfold jmg at h
 split at h
 ·split at h
  ·split at h
   ·split at h
    ·exact jgb h
    ·exact jgb h
    ·cases h
   ·cases h
  ·cases h
 ·cases h
theorem jpi {op : BinOp} {t : TypeId} {x y : AV} {p : Prop} {rd : List Nat} {av : AV} {δ : jbg} (h : jho ty op t x y = .det p rd av δ) : p := by
 unfold jho at h
 split at h
 ·split at h
  ·exact jpj h
  ·exact jpj h
  ·cases h
 ·exact jtr h

theorem jpx {a : AV} (h : (jbu a).isSome = true) : jhv a = none := by
 unfold jbu at h
 split at h
 ·rfl
 ·cases h
theorem jrq {x : AV} {es : Nat} (h : (jbu x).isSome = true) : slOf σ es x = none := by
 unfold jbu at h
 split at h
 ·rfl
 ·cases h
theorem jr9 {o : Oper} (ht : jjk e o = true) {p : Prop} {rd : List Nat} {av : AV} {δ : jbg} (h : spec ty Γ σ e nm o = .det p rd av δ) : p := by
 obtain ⟨dst, op, type, pos, after, guard⟩ := o
 unfold jjk at ht
 cases op
 case move x => unfold spec at h; cases h; trivial
 case assign x => unfold spec at h; cases h; trivial
 case alloc t =>
  unfold spec at h; simp only [] at h
  repeat' (split at h)
  all_goals first | (cases h; trivial) | cases h
 case box t x =>
  unfold spec at h; simp only [] at h
  repeat' (split at h)
  all_goals first | (cases h; trivial) | cases h
 case makeFunc fn first caps =>
  cases fn <;> (unfold spec at h; simp only [] at h; repeat' (split at h)) <;> first | (cases h; trivial) | cases h
 case nilCheck x =>
  unfold spec at h; simp only [] at h
  repeat' (split at h)
  all_goals first | (cases h; trivial) | cases h
 case extract x i =>
  unfold spec at h; simp only [] at h
  repeat' (split at h)
  all_goals first | (cases h; trivial) | cases h
 case field s x f =>
  unfold spec at h; simp only [jld] at h
  repeat' (split at h)
  all_goals first | (cases h; trivial) | cases h
 case build t ps =>
  unfold spec at h; simp only [jen] at h
  repeat' (split at h)
  all_goals first | (cases h; trivial) | cases h
 case buildSlice t l ps =>
  unfold spec at h; simp only [jbc] at h
  simp only [] at ht
  split at h
  ·split at h
   ·split at h
    ·cases h; trivial
    ·split at h
     ·split at h
      ·rename_i ds ns hds
       have hm := jdk hds
       rw [List.map_map] at hm
       have hnil : jao (ps.toList.map fun p => e p.2) = [] := by
        cases hn : jao (ps.toList.map fun p => e p.2) with
        | nil => rfl
        | cons a l => rw [hn] at ht; cases ht
       have hnd : ns.Nodup := by
        cases ns with
        | nil => exact List.nodup_nil
        | cons a l =>
         have := hm a (List.mem_cons_self ..)
         have this' : a ∈ jao (ps.toList.map fun p => e p.2) := this
         rw [hnil] at this'; cases this'
       cases h
       exact hnd
      ·cases h
     ·cases h
   ·cases h
  ·cases h
 case convert s d x =>
  unfold spec at h; simp only [] at h
  simp only [] at ht
  split at h
  ·cases h; trivial
  ·unfold jex at h
   rw [jrq ht] at h
   split at h
   ·rename_i hsl; cases hsl
   ·rw [jpx ht] at h; cases h
   ·cases h
 case unOp u t x =>
  cases u <;> (unfold spec at h; simp only [] at h)
  all_goals first
   | (split at h; (first | exact jgb h | exact jpy h); cases h)
   | cases h
 case load t a =>
  unfold spec at h; simp only [jbo] at h ht
  cases hx : e a <;> simp only [hx] at h ht
  all_goals first | (cases ht; done) | skip
  repeat' (split at h)
  all_goals first | (cases h; trivial) | cases h
 case store t a x =>
  unfold spec at h; simp only [jby] at h ht
  cases hx : e a <;> simp only [hx] at h ht
  all_goals first | (cases ht; done) | skip
  repeat' (split at h)
  all_goals first | (cases h; trivial) | cases h
 case fieldAddr t a f =>
  unfold spec at h; simp only [jdu] at h ht
  cases hx : e a <;> simp only [hx] at h ht
  all_goals first | (cases ht; done) | skip
  all_goals repeat' (split at h)
  all_goals first | (cases h; trivial) | cases h
 case binOp op t x y u =>
  unfold spec at h; simp only [jgc] at h ht
  split at h
  ·rename_i k a k' b h1 h2
   split at h
   ·simp at ht
   ·simp at ht
   ·split at h
    ·split at h
     all_goals first | exact jgb h | exact jpy h | (simp at ht; done) | (cases h; trivial) | cases h
    ·cases h
  ·split at h
   ·rename_i a b h1 h2
    split at h
    all_goals first | exact jgb h | (simp [h1] at ht; done) | (cases h; trivial) | cases h
   ·split at h
    ·split at h
     all_goals first | exact jgb h | cases h
    ·exact jpi h
 case call c =>
  obtain ⟨callee, args, ts⟩ := c
  cases callee with
  | value f => simp at ht
  | invoke a b => simp at ht
  | builtin b =>
   cases b
   case len =>
    unfold spec at h; simp only [] at h
    split at h
    ·rename_i x t hx _
     simp only [hx] at ht
     unfold je7 at h
     split at h
     ·split at h
      ·cases h; trivial
      ·cases h
     ·split at h
      ·cases h; trivial
      ·cases h; trivial
      ·split at h
       ·cases h; trivial
       ·cases h; trivial
       ·cases h
      ·rename_i hex; rw [hex] at ht; cases ht
      ·cases h
     ·cases h
    ·cases h
   case max =>
    unfold spec at h; simp only [] at h
    repeat' (split at h)
    all_goals first | (cases h; trivial) | cases h
   case min =>
    unfold spec at h; simp only [] at h
    repeat' (split at h)
    all_goals first | (cases h; trivial) | cases h
   all_goals (simp at ht)
 all_goals (simp at ht)
end
end Go.Ab
