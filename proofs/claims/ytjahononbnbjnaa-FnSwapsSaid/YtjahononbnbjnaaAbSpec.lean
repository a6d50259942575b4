/- My own layer, second part: states, what one operation does to a state ('spec'), in terms of plain data. -/
import Derived.Test.YtjahononbnbjnaaAbBase
namespace Go.Ab
set_option linter.unusedVariables false
set_option linter.unusedSimpArgs false

structure TyE where
 desc : TypeDesc
 size : Nat
 bytes : Nat
 zero : Value
 eq : Bool

def TyOK (P : Program) (t : TypeId) (x : TyE) : Prop :=
 P.underlying t = some x.desc ∧ ∃ i, P.info? t = some i ∧ i.size = x.size ∧ i.bytes = x.bytes ∧ i.zero = some x.zero ∧
  (x.eq = true → P.stoodInHeld t = false ∧ P.eqGuardType P.depth t = false ∧ ∀ fs, x.desc = .struct fs → (fs.toList.all fun f => f.name != "_") = true)

def lookT (t : Nat) : List (Nat × TyE) → Option TyE
 | [] => none
 | (k, x) :: r => bif Nat.beq t k then some x else lookT t r
theorem allT_nil {P : Program} : ∀ p ∈ ([] : List (Nat × TyE)), TyOK P p.1 p.2 := by simp
theorem allT_cons {P : Program} {k : Nat} {x : TyE} {r : List (Nat × TyE)} (h : TyOK P k x) (h' : ∀ p ∈ r, TyOK P p.1 p.2) : ∀ p ∈ (k, x) :: r, TyOK P p.1 p.2 := by
 intro p hp
 rcases List.mem_cons.1 hp with rfl | hp
 ·exact h
 ·exact h' p hp
theorem lookT_ok {P : Program} : ∀ {l : List (Nat × TyE)}, (∀ p ∈ l, TyOK P p.1 p.2) → ∀ t x, lookT t l = some x → TyOK P t x
 | [], _, t, x, h => by simp [lookT] at h
 | (k, y) :: r, hl, t, x, h => by
  unfold lookT at h
  cases hb : Nat.beq t k with
  | true =>
   rw [hb] at h
   simp only [cond_true, Option.some.injEq] at h
   subst h
   have := Nat.eq_of_beq_eq_true hb
   subst this
   exact hl (t, y) (List.mem_cons_self ..)
  | false =>
   rw [hb] at h
   exact lookT_ok (fun p hp => hl p (List.mem_cons_of_mem _ hp)) t x h

def TyE.isAgg (x : TyE) : Bool :=
 match x.desc with
 | .struct _ | .array _ _ => true
 | _ => false

abbrev Objs := Nat → Option Obj'
abbrev Delta := List (Nat × Option Obj')

def upd (σ : Objs) (o : Nat) (x : Option Obj') : Objs := fun n => bif Nat.beq n o then x else σ n
def app (δ : Delta) (σ : Objs) : Objs :=
 match δ with
 | [] => σ
 | (o, x) :: r => app r (upd σ o x)

inductive Pt where
 | rd
 | zr
 | sl
 | bx
 | bo (k : Nat)
 | ag (l : List Pt)
 | fn (f : Nat) (l : List Pt)
mutual
def Pt.n : Pt → Nat
 | .rd => 0
 | .zr => 0
 | .sl => 1
 | .bx => 1
 | .bo k => 1 + k
 | .ag l => Pt.ns l
 | .fn _ l => Pt.ns l
def Pt.ns : List Pt → Nat
 | [] => 0
 | p :: l => p.n + Pt.ns l
end
structure FnSpec where
 lend : List Pt
 pre : List D → List Obj' → Prop
 post : List D → List Obj' → AV → List Obj' → List Obj' → Prop

inductive Spec where
 | fail
 | det (p : Prop) (rd : List Nat) (av : AV) (δ : Delta)
 | split (b : Bool) (s t : Spec)
 | call (p : Prop) (rd : List Nat) (R : AV → Delta → Prop)

def Spec.T (K : AV → Delta → Prop) : Spec → Prop
 | .fail => False
 | .det p _ av δ => p ∧ K av δ
 | .split b s t => bif b then s.T K else t.T K
 | .call p _ R => p ∧ ∀ av δ, R av δ → K av δ

def Spec.pre : Spec → Prop
 | .fail => False
 | .det p _ _ _ => p
 | .split b s t => bif b then s.pre else t.pre
 | .call p _ _ => p

def Spec.R : Spec → AV → Delta → Prop
 | .fail, _, _ => False
 | .det _ _ av δ, av', δ' => av' = av ∧ δ' = δ
 | .split b s t, av', δ' => bif b then s.R av' δ' else t.R av' δ'
 | .call _ _ R, av', δ' => R av' δ'

theorem Spec.T_iff {K : AV → Delta → Prop} : ∀ {s : Spec}, s.T K ↔ s.pre ∧ ∀ av δ, s.R av δ → K av δ
 | .fail => by simp [T, pre]
 | .det p rd av δ => by simp [T, pre, R]
 | .split b s t => by
  cases b
  ·simpa [T, pre, R] using T_iff (s := t)
  ·simpa [T, pre, R] using T_iff (s := s)
 | .call p rd R' => by simp [T, pre, R]

def isBool : AV → Option Bool
 | .dat (.sc (.bool b)) => some b
 | _ => none
def isInt : AV → Option (IntKind × Int)
 | .dat (.sc (.int k n)) => some (k, n)
 | _ => none
def isStr : AV → Option ByteArray
 | .dat (.sc (.string s)) => some s
 | _ => none

def constAV : Value → AV
 | .agg cs => if cs.toList.all one then .dat (.agg (cs.toList.map .sc)) else .unk
 | .tuple _ => .unk
 | v => .dat (.sc v)

def AV.cells : AV → Option (List AV)
 | .aggv l => some l
 | .dat (.agg l) => some (l.map .dat)
 | .tup _ | .und | .unk => none
 | x => some [x]

def AV.toD : AV → Option D
 | .dat d => some d
 | _ => none
def toDs : List AV → Option (List D)
 | [] => some []
 | x :: l => match x.toD, toDs l with
  | some d, some ds => some (d :: ds)
  | _, _ => none

def mkAgg (l : List AV) : AV := match toDs l with
 | some ds => .dat (.agg ds)
 | none => .aggv l

def mkD (agg : Bool) (l : List D) : Option D :=
 if agg then some (.agg l) else match l with | [d] => some d | _ => none

def Obj'.sl : Obj' → Option (Nat × List D)
 | .arr _ es l => some (es, l)
 | .tab _ es _ l _ none => some (es, l)
 | _ => none
def slO (σ : Objs) (o : Nat) : Option (Nat × List D) := match σ o with
 | some x => x.sl
 | none => none

def rdD (σ : Objs) : AV → Option (D × List Nat)
 | .dat d => some (d, [])
 | .own o => match slO σ o with
  | some (es, l) => some (.sl es l, [o])
  | _ => none
 | .aggv l => match go l with
  | some (ds, rd) => some (.agg ds, rd)
  | none => none
 | _ => none
 where
 go : List AV → Option (List D × List Nat)
  | [] => some ([], [])
  | .dat d :: l => match go l with
   | some (ds, rd) => some (d :: ds, rd)
   | none => none
  | .own o :: l => match slO σ o, go l with
   | some (es, x), some (ds, rd) => some (.sl es x :: ds, o :: rd)
   | _, _ => none
  | _ :: _ => none

def slOf (σ : Objs) (es : Nat) : AV → Option (List D × List Nat)
 | .dat (.sl es' l) => if es' = es then some (l, []) else none
 | .dat (.sc (.slice none 0 0)) => some ([], [])
 | .own o => match σ o with
  | some (.arr _ es' l) => if es' = es then some (l, [o]) else none
  | _ => none
 | _ => none

def intBd (k : IntKind) (r : Int) : Spec := .det True [] (.dat (.sc (.int k (k.wrap r)))) []

def boolV (b : Bool) : Spec := .det True [] (.dat (.sc (.bool b))) []

def nilEq (neg : Bool) : AV → Spec
 | .dat (.sl _ (_ :: _)) => .det True [] (.dat (.sc (.bool neg))) []
 | .dat (.sl _ l) => .call True [] fun av δ => δ = [] ∧ ∃ b : Bool, av = .dat (.sc (.bool (b != neg))) ∧ (l ≠ [] → b = false)
 | .dat (.sc (.slice none 0 0)) => .det True [] (.dat (.sc (.bool (!neg)))) []
 | _ => .fail
def eqF0 (ty : TypeId → Option TyE) (xs ys : List D) : List Field → Option Bool
 | [] => some true
 | f :: fs =>
  match ty f.type, xs[f.offset]?, ys[f.offset]? with
  | some { desc := .int _, .. }, some (.sc (.int k a)), some (.sc (.int k' b)) => if k = k' then (eqF0 ty xs ys fs).map fun r => a == b && r else none
  | some { desc := .bool, .. }, some (.sc (.bool a)), some (.sc (.bool b)) => (eqF0 ty xs ys fs).map fun r => a == b && r
  | some { desc := .string, .. }, some (.sc (.string a)), some (.sc (.string b)) => (eqF0 ty xs ys fs).map fun r => a.toList == b.toList && r
  | _, _, _ => none
def eqF (ty : TypeId → Option TyE) (xs ys : List D) : List Field → Option Bool
 | [] => some true
 | f :: fs =>
  match ty f.type, xs[f.offset]?, ys[f.offset]? with
  | some { desc := .int _, .. }, some (.sc (.int k a)), some (.sc (.int k' b)) => if k = k' then (eqF ty xs ys fs).map fun r => a == b && r else none
  | some { desc := .bool, .. }, some (.sc (.bool a)), some (.sc (.bool b)) => (eqF ty xs ys fs).map fun r => a == b && r
  | some { desc := .string, .. }, some (.sc (.string a)), some (.sc (.string b)) => (eqF ty xs ys fs).map fun r => a.toList == b.toList && r
  | some { desc := .struct gs, size := n, eq := true, .. }, _, _ =>
   match eqF0 ty ((xs.drop f.offset).take n) ((ys.drop f.offset).take n) gs.toList with
   | some q => (eqF ty xs ys fs).map fun r => q && r
   | none => none
  | _, _, _ => none
def eqA : List D → List D → Option Bool
 | [], [] => some true
 | .sc (.int k a) :: l, .sc (.int k' b) :: l' => if k = k' then (eqA l l').map fun r => a == b && r else none
 | _, _ => none
def eqAll (ty : TypeId → Option TyE) (l l' : List D) : TypeDesc → Option Bool
 | .struct fs => eqF ty l l' fs.toList
 | .array n el => match ty el with
  | some { desc := .int _, size := 1, .. } => if l.length = n then eqA l l' else none
  | _ => none
 | _ => none
def aggEq (ty : TypeId → Option TyE) (op : BinOp) (t : TypeId) : AV → AV → Spec
 | .dat (.agg l), .dat (.agg l') =>
  match ty t with
  | some { desc := d, eq := true, .. } =>
   match eqAll ty l l' d with
   | some b =>
    match op with
    | .eql => boolV b
    | .neq => boolV (!b)
    | _ => .fail
   | none => .fail
  | _ => .fail
 | _, _ => .fail
def nilSpec (ty : TypeId → Option TyE) (op : BinOp) (t : TypeId) (x y : AV) : Spec :=
 match ty t, y with
 | some { desc := .slice _, .. }, .dat (.sc (.slice none 0 0)) =>
  match op with
  | .eql => nilEq false x
  | .neq => nilEq true x
  | _ => .fail
 | _, _ => aggEq ty op t x y

def binSpec (ty : TypeId → Option TyE) (op : BinOp) (t : TypeId) (x y : AV) : Spec :=
 match isInt x, isInt y with
 | some (k, a), some (k', b) =>
  match op with
  | .shl => .det (0 ≤ b) [] (.dat (.sc (.int k (k.wrap (a * 2 ^ (min b.toNat k.bits)))))) []
  | .shr => .det (0 ≤ b) [] (.dat (.sc (.int k (a.fdiv (2 ^ (min b.toNat k.bits)))))) []
  | op =>
  if k = k' then
   match op with
   | .add => intBd k (a + b)
   | .sub => intBd k (a - b)
   | .mul => intBd k (a * b)
   | .quo => .det (b ≠ 0) [] (.dat (.sc (.int k (k.wrap (a.tdiv b))))) []
   | .rem => .det (b ≠ 0) [] (.dat (.sc (.int k (a.tmod b)))) []
   | .eql => boolV (a == b)
   | .neq => boolV (a != b)
   | .lss => boolV (a < b)
   | .leq => boolV (a ≤ b)
   | .gtr => boolV (b < a)
   | .geq => boolV (b ≤ a)
   | .and => .det True [] (.dat (.sc (.int k (k.wrap (BitVec.ofInt k.bits a &&& BitVec.ofInt k.bits b).toNat)))) []
   | .or => .det True [] (.dat (.sc (.int k (k.wrap (BitVec.ofInt k.bits a ||| BitVec.ofInt k.bits b).toNat)))) []
   | .xor => .det True [] (.dat (.sc (.int k (k.wrap (BitVec.ofInt k.bits a ^^^ BitVec.ofInt k.bits b).toNat)))) []
   | _ => .fail
  else .fail
 | _, _ =>
 match isStr x, isStr y with
 | some a, some b =>
  match op with
  | .add => .det (((a.size + b.size : Nat) : Int) ≤ 9223372036854775807) [] (.dat (.sc (.string (a ++ b)))) []
  | .eql => boolV (a.toList == b.toList)
  | .neq => boolV (!(a.toList == b.toList))
  | .lss => boolV (Op.bytesLess a.toList b.toList)
  | .leq => boolV (Op.bytesLess a.toList b.toList || a.toList == b.toList)
  | .gtr => boolV (!(Op.bytesLess a.toList b.toList || a.toList == b.toList))
  | .geq => boolV (!(Op.bytesLess a.toList b.toList))
  | _ => .fail
 | _, _ =>
 match isBool x, isBool y, ty t with
 | some a, some b, some { desc := .bool, .. } =>
  match op with
  | .eql => boolV (a == b)
  | .neq => boolV (!(a == b))
  | _ => .fail
 | _, _, _ => nilSpec ty op t x y

def spl {α : Type} (l : List α) (i : Nat) (xs : List α) : List α := l.take i ++ xs ++ l.drop (i + xs.length)

def maskAt (mask : List (Option TypeId)) (j : Nat) : Option TypeId := (mask[j]?).getD none
def holeOff (hole : Option (Nat × Nat)) (j n : Nat) : Bool := match hole with
 | none => true
 | some (_, j0) => Nat.blt j0 j || Nat.ble (j + n) j0
def rowD (d : D) (j : Nat) : Nat × List D := match d.cells.getD j (.sc undef) with
 | .sl es rows => (es, rows)
 | _ => (0, [])
def rowOf (l : List D) (k j : Nat) : Nat × List D := rowD (l.getD k (.sc undef)) j
def setCell (d : D) (j : Nat) (x : D) : D := match d with
 | .agg cs => .agg (cs.set j x)
 | _ => x
def tabCells (o g k : Nat) (mask : List (Option TypeId)) (d : D) (j n : Nat) : List AV := (List.range n).map fun i => match maskAt mask (j + i) with
 | some _ => .row o g k (j + i)
 | none => .dat (d.cells.getD (j + i) (.sc undef))
structure TabV where
 e : TypeId
 es : Nat
 mask : List (Option TypeId)
 l : List D
 hole : Option (Nat × Nat)
def tabAt (σ : Objs) (o g : Nat) : Option TabV := match σ o with
 | some (.tab e es mask l g' hole) => if g' = g then some ⟨e, es, mask, l, hole⟩ else none
 | _ => none
def tabPut (ty : TypeId → Option TyE) (σ : Objs) (o g : Nat) (mask : List (Option TypeId)) (hole : Option (Nat × Nat)) (d : D) : Nat → List AV → Option (List D × List Nat × List Nat)
 | _, [] => some ([], [], [])
 | j, x :: xs => match tabPut ty σ o g mask hole d (j + 1) xs with
  | none => none
  | some (ds, ns, ks) =>
   match maskAt mask j with
   | none => match x with
    | .dat d' => some (d' :: ds, ns, ks)
    | _ => none
   | some e' => match x with
    | .own n => match σ n with
     | some (.arr e'' es'' rows) => if e'' = e' then some (.sl es'' rows :: ds, n :: ns, ks) else none
     | _ => none
    | .row o' g' k' j' => if o' = o ∧ g' = g ∧ j' = j ∧ holeOff hole j 1 = true then some (d.cells.getD j (.sc undef) :: ds, ns, k' :: ks) else none
    | .vw o' g' k' j' es' lo n => if o' = o ∧ g' = g ∧ j' = j ∧ holeOff hole j 1 = true ∧ (rowD d j).1 = es' then some (.sl es' (((rowD d j).2.take (lo + n)).drop lo) :: ds, ns, k' :: ks) else none
    | .dat (.sc (.slice none 0 0)) => match ty e' with
     | some E => if 0 < E.size then some (.sl E.size [] :: ds, ns, ks) else none
     | none => none
    | _ => none
def holeUp (hole : Option (Nat × Nat)) (j n : Nat) : Option (Nat × Nat) := bif holeOff hole j n then hole else none
def goneD : List Nat → Delta
 | [] => []
 | n :: r => (n, none) :: goneD r

def tabLoad (σ : Objs) (T : TyE) (o es k j : Nat) : Spec := match σ o with
 | some (.tab _ es' mask l g hole) =>
  if es = es' then
   (if T.isAgg then (if holeOff hole j T.size = true then .det (k < l.length ∧ j + T.size ≤ es) [o] (mkAgg (tabCells o g k mask (l.getD k (.sc undef)) j T.size)) [] else .fail)
   else match maskAt mask j with
    | none => .det (k < l.length ∧ j < es) [o] (.dat ((l.getD k (.sc undef)).cells.getD j (.sc undef))) []
    | some _ => if holeOff hole j 1 = true then .det (k < l.length ∧ j < es) [o] (.row o g k j) [] else .fail)
  else .fail
 | _ => .fail

def rowLoad (σ : Objs) (T : TyE) (o g k j es i c : Nat) : Spec := match tabAt σ o g with
 | some t =>
  if holeOff t.hole j 1 = true ∧ (maskAt t.mask j).isSome = true then
   (if T.isAgg then .det (k < t.l.length ∧ (rowOf t.l k j).1 = es ∧ i < (rowOf t.l k j).2.length ∧ c + T.size ≤ es) [o] (.dat (.agg ((((rowOf t.l k j).2.getD i (.sc undef)).cells.drop c).take T.size))) []
   else .det (k < t.l.length ∧ (rowOf t.l k j).1 = es ∧ i < (rowOf t.l k j).2.length ∧ c < es) [o] (.dat (((rowOf t.l k j).2.getD i (.sc undef)).cells.getD c (.sc undef))) [])
  else .fail
 | none => .fail

def tabStore (ty : TypeId → Option TyE) (σ : Objs) (nm o es k j : Nat) (cs : List AV) : Spec := match σ o with
 | some (.tab e es' mask l g hole) =>
  match ty e, tabPut ty σ o g mask hole (l.getD k (.sc undef)) j cs with
  | some E, some (ds, ns, ks) =>
   if es = es' ∧ E.size = es then
    (if E.isAgg then .det (k < l.length ∧ j + ds.length ≤ es ∧ (∀ k' ∈ ks, k' = k) ∧ (∀ k0 j0, hole = some (k0, j0) → holeOff hole j ds.length = false → k0 = k) ∧ ns.Nodup) (o :: ns) .und
      (goneD ns ++ [(o, some (.tab e es mask (l.set k (.agg (spl (l.getD k (.sc undef)).cells j ds))) nm (holeUp hole j ds.length)))])
    else match ds with
     | [d] => if es = 1 then .det (k < l.length ∧ j = 0 ∧ (∀ k' ∈ ks, k' = k) ∧ (∀ k0 j0, hole = some (k0, j0) → holeOff hole j 1 = false → k0 = k) ∧ ns.Nodup) (o :: ns) .und (goneD ns ++ [(o, some (.tab e es mask (l.set k d) nm (holeUp hole j 1)))]) else .fail
     | _ => .fail)
   else .fail
  | _, _ => .fail
 | _ => .fail

def rowStore (ty : TypeId → Option TyE) (σ : Objs) (o g k j es i c : Nat) (ds : List D) : Spec := match tabAt σ o g with
 | some t =>
  match (maskAt t.mask j).bind ty with
  | some E =>
   if holeOff t.hole j 1 = true ∧ E.size = es then
    (if E.isAgg then .det (k < t.l.length ∧ (rowOf t.l k j).1 = es ∧ i < (rowOf t.l k j).2.length ∧ c + ds.length ≤ es) [o] .und
      [(o, some (.tab t.e t.es t.mask (t.l.set k (setCell (t.l.getD k (.sc undef)) j (.sl es ((rowOf t.l k j).2.set i (.agg (spl ((rowOf t.l k j).2.getD i (.sc undef)).cells c ds)))))) g t.hole))]
    else match ds with
     | [d] => if es = 1 then .det (k < t.l.length ∧ (rowOf t.l k j).1 = es ∧ i < (rowOf t.l k j).2.length ∧ c = 0) [o] .und
       [(o, some (.tab t.e t.es t.mask (t.l.set k (setCell (t.l.getD k (.sc undef)) j (.sl es ((rowOf t.l k j).2.set i d)))) g t.hole))] else .fail
     | _ => .fail)
   else .fail
  | none => .fail
 | none => .fail

def rowIndex (σ : Objs) (E : TyE) (o g k j : Nat) (n : Int) : Spec := match tabAt σ o g with
 | some t => if holeOff t.hole j 1 = true ∧ (maskAt t.mask j).isSome = true then .det (k < t.l.length ∧ (rowOf t.l k j).1 = E.size ∧ 0 ≤ n ∧ n < (rowOf t.l k j).2.length) [o] (.rref o g k j E.size n.toNat 0) [] else .fail
 | none => .fail
def rowSlice (σ : Objs) (E : TyE) (o g k j : Nat) (l h : Int) : Spec := match tabAt σ o g with
 | some t => if holeOff t.hole j 1 = true ∧ (maskAt t.mask j).isSome = true then .det (k < t.l.length ∧ (rowOf t.l k j).1 = E.size ∧ 0 ≤ l ∧ l ≤ h ∧ h ≤ (rowOf t.l k j).2.length) [o] (.vw o g k j E.size l.toNat (h - l).toNat) [] else .fail
 | none => .fail
def rowLen (σ : Objs) (o g k j : Nat) : Spec := match tabAt σ o g with
 | some t => if holeOff t.hole j 1 = true ∧ (maskAt t.mask j).isSome = true then .det (k < t.l.length) [o] (.dat (.sc (.int .i64 (rowOf t.l k j).2.length))) [] else .fail
 | none => .fail

def tabAppend (σ : Objs) (nm : Nat) (e : TypeId) (E : TyE) (s : AV) (o2 : Nat) : Spec := match σ o2 with
 | some (.tab e2 es2 mask2 l2 _ none) =>
  if e2 = e ∧ es2 = E.size then
   match s with
   | .dat (.sc (.slice none 0 0)) => .det ((l2.length : Int) ≤ 140737488355328 ∧ (l2.length : Int) * E.bytes ≤ 140737488355328) [o2] (.own nm) [(o2, none), (nm, some (.tab e E.size mask2 l2 nm none))]
   | .own o => match σ o with
    | some (.tab e1 es1 mask1 l1 _ none) =>
     if e1 = e ∧ es1 = E.size ∧ mask1 = mask2 ∧ o ≠ o2 then
      .det (((l1.length + l2.length : Nat) : Int) ≤ 140737488355328 ∧ ((l1.length + l2.length : Nat) : Int) * E.bytes ≤ 140737488355328) [o, o2] (.own nm) [(o, none), (o2, none), (nm, some (.tab e E.size mask1 (l1 ++ l2) nm none))]
     else .fail
    | _ => .fail
   | _ => .fail
  else .fail
 | _ => .fail

def rowAppend (σ : Objs) (nm : Nat) (e : TypeId) (E : TyE) (o g k j : Nat) (l2 : List D) (rd : List Nat) : Spec := match tabAt σ o g with
 | some t =>
  match t.hole with
  | none =>
   if maskAt t.mask j = some e then
    .det (k < t.l.length ∧ (rowOf t.l k j).1 = E.size ∧ (((rowOf t.l k j).2.length + l2.length : Nat) : Int) ≤ 140737488355328 ∧ (((rowOf t.l k j).2.length + l2.length : Nat) : Int) * E.bytes ≤ 140737488355328) (o :: rd) (.own nm)
     [(o, some (.tab t.e t.es t.mask t.l g (some (k, j)))), (nm, some (.arr e E.size ((rowOf t.l k j).2 ++ l2)))]
   else .fail
  | some _ => .fail
 | none => .fail

def maskOf (σ : Objs) : List AV → List (Option TypeId)
 | [] => []
 | .own n :: l => (match σ n with | some (.arr e _ _) => some e | _ => none) :: maskOf σ l
 | _ :: l => none :: maskOf σ l
def elemsTab (ty : TypeId → Option TyE) (σ : Objs) (nm : Nat) (mask : List (Option TypeId)) (agg : Bool) (es : Nat) : Nat → List (Nat × AV) → Option (List D × List Nat)
 | _, [] => some ([], [])
 | k, (i, x) :: rest =>
  if i = k then
   match x.cells with
   | some cs =>
    if cs.length = es then
     match tabPut ty σ nm nm mask none (.sc undef) 0 cs, elemsTab ty σ nm mask agg es (k + 1) rest with
     | some (ds, ns, []), some (r, ns') => match mkDD agg ds with
      | some d => some (d :: r, ns ++ ns')
      | none => none
     | _, _ => none
    else none
   | none => none
  else none
 where
 mkDD (agg : Bool) (l : List D) : Option D := if agg then some (.agg l) else match l with | [d] => some d | _ => none

def loadSpec (ty : TypeId → Option TyE) (σ : Objs) (t : TypeId) (x : AV) : Spec :=
 match ty t with
 | none => .fail
 | some T =>
  match x with
  | .ref o i =>
   match σ o with
   | some (.box _ l) =>
    if T.isAgg then (if i + T.size ≤ l.length then .det True [o] (mkAgg ((l.drop i).take T.size)) [] else .fail)
    else match l[i]? with
     | some v => .det True [o] v []
     | none => .fail
   | _ => .fail
  | .eref o es k j =>
   match σ o with
   | some (.arr _ es' l) =>
    if es = es' then
     (if T.isAgg then .det (k < l.length ∧ j + T.size ≤ es) [o] (.dat (.agg (((l.getD k (.sc undef)).cells.drop j).take T.size))) []
     else .det (k < l.length ∧ j < es) [o] (.dat ((l.getD k (.sc undef)).cells.getD j (.sc undef))) [])
    else .fail
   | some (.tab ..) => tabLoad σ T o es k j
   | _ => .fail
  | .rref o g k j es i c => rowLoad σ T o g k j es i c
  | .fp ds =>
   if T.isAgg then .det (T.size ≤ ds.length) [] (.dat (.agg (ds.take T.size))) []
   else match ds with
    | d :: _ => .det True [] (.dat d) []
    | [] => .fail
  | _ => .fail

def storeSpec (ty : TypeId → Option TyE) (σ : Objs) (nm : Nat) (t : TypeId) (a x : AV) : Spec :=
 match ty t, x.cells with
 | some T, some cs =>
  if cs.length = T.size then
   match a with
   | .ref o i =>
    match σ o with
    | some (.box T l) => if i + cs.length ≤ l.length then .det True [o] .und [(o, some (.box T (spl l i cs)))] else .fail
    | _ => .fail
   | .eref o es k j =>
    match σ o, toDs cs with
    | some (.arr e es' l), some ds =>
     if es = es' then
      match ty (e % 4294967296) with
      | some E =>
       if E.size = es then
        (if E.isAgg then .det (k < l.length ∧ j + ds.length ≤ es) [o] .und [(o, some (.arr e es (l.set k (.agg (spl (l.getD k (.sc undef)).cells j ds)))))]
        else match ds with
         | [d] => if es = 1 then .det (k < l.length ∧ j = 0) [o] .und [(o, some (.arr e es (l.set k d)))] else .fail
         | _ => .fail)
       else .fail
      | none => .fail
     else .fail
    | some (.tab ..), _ => tabStore ty σ nm o es k j cs
    | _, _ => .fail
   | .rref o g k j es i c => match toDs cs with
    | some ds => rowStore ty σ o g k j es i c ds
    | none => .fail
   | _ => .fail
  else .fail
 | _, _ => .fail

def fieldOf (ty : TypeId → Option TyE) (s : TypeId) (f : Nat) : Option Nat :=
 match ty s with
 | some { desc := .struct fs, .. } =>
  match fs[f]? with
  | some x => match ty x.type with
   | some T => if T.size = 0 then none else some x.offset
   | none => none
  | none => none
 | _ => none

def fieldSpec (ty : TypeId → Option TyE) (s : TypeId) (x : AV) (f : Nat) : Spec :=
 match fieldOf ty s f with
 | none => .fail
 | some off =>
  match x with
  | .ref o i => .det True [] (.ref o (i + off)) []
  | .eref o es k j => .det True [] (.eref o es k (j + off)) []
  | .rref o g k j es i c => .det True [] (.rref o g k j es i (c + off)) []
  | .fp ds => .det (off ≤ ds.length) [] (.fp (ds.drop off)) []
  | _ => .fail

def aggC : AV → Option (List AV)
 | .aggv l => some l
 | .dat (.agg l) => some (l.map .dat)
 | _ => none
def fieldV (ty : TypeId → Option TyE) (s : TypeId) (x : AV) (f : Nat) : Spec :=
 match ty s with
 | some { desc := .struct fs, .. } =>
  match fs[f]? with
  | some fl => match ty fl.type, aggC x with
   | some T, some l =>
    if T.isAgg then (if fl.offset + T.size ≤ l.length then .det True [] (mkAgg ((l.drop fl.offset).take T.size)) [] else .fail)
    else match l[fl.offset]? with
     | some v => .det True [] v []
     | none => .fail
   | _, _ => .fail
  | none => .fail
 | _ => .fail

def elemOf (ty : TypeId → Option TyE) (t : TypeId) : Option (TypeId × TyE) :=
 match ty t with
 | some { desc := .slice e, .. } => match ty e with
  | some E => some (e, E)
  | none => none
 | _ => none

def chunkD (agg : Bool) (es : Nat) : Nat → List Value → Option (List D)
 | 0, [] => some []
 | 0, _ :: _ => none
 | n + 1, l =>
  if (l.take es).length = es ∧ (l.take es).all one = true then
   match mkD agg ((l.take es).map .sc), chunkD agg es n (l.drop es) with
   | some d, some r => some (d :: r)
   | _, _ => none
  else none
def bigArr (ty : TypeId → Option TyE) (T : TyE) : Option (TypeId × Nat × List D) :=
 match T.desc with
 | .array n el =>
  if 4 < n ∧ n ≤ 100000 then
   match ty el with
   | some E => if 0 < E.size then (chunkD E.isAgg E.size n T.zero.cells.toList).map fun ds => (el, E.size, ds) else none
   | none => none
  else none
 | _ => none
def arrIndex (ty : TypeId → Option TyE) (t : TypeId) (x : AV) (n : Int) : Spec :=
 match ty t with
 | some { desc := .array len e, .. } =>
  match ty e with
  | some E =>
   match x with
   | .ref o i => .det (0 ≤ n ∧ n < len) [] (.ref o (i + n.toNat * E.size)) []
   | .eref o es k j => if E.size = es ∧ j = 0 then .det (0 ≤ n ∧ n < len) [] (.eref o es (n.toNat + k) 0) [] else .det (0 ≤ n ∧ n < len) [] (.eref o es k (j + n.toNat * E.size)) []
   | .rref o g k j es i c => .det (0 ≤ n ∧ n < len) [] (.rref o g k j es i (c + n.toNat * E.size)) []
   | .fp ds => .det (0 ≤ n ∧ n < len) [] (.fp (ds.drop (n.toNat * E.size))) []
   | _ => .fail
  | none => .fail
 | _ => .fail
def arrVal (ty : TypeId → Option TyE) (t : TypeId) (x i : AV) : Spec :=
 match ty t, isInt i with
 | some { desc := .array len e, .. }, some (_, n) =>
  match ty e, aggC x with
  | some E, some l =>
   if E.isAgg then (if n.toNat * E.size + E.size ≤ l.length then .det (0 ≤ n ∧ n < len) [] (mkAgg ((l.drop (n.toNat * E.size)).take E.size)) [] else .fail)
   else match l[n.toNat * E.size]? with
    | some v => .det (0 ≤ n ∧ n < len) [] v []
    | none => .fail
  | _, _ => .fail
 | _, _ => .fail
def indexSpec (ty : TypeId → Option TyE) (σ : Objs) (t : TypeId) (x i : AV) : Spec :=
 match elemOf ty t, isInt i with
 | some (_, E), some (_, n) =>
  match x with
  | .dat (.sl es l) => if es = E.size then .det (0 ≤ n ∧ n < l.length) [] (.fp (l.getD n.toNat (.sc undef)).cells) [] else .fail
  | .own o =>
   match σ o with
   | some (.arr _ es l) => if es = E.size then .det (0 ≤ n ∧ n < l.length) [o] (.eref o es n.toNat 0) [] else .fail
   | some (.tab _ es _ l _ _) => if es = E.size then .det (0 ≤ n ∧ n < l.length) [o] (.eref o es n.toNat 0) [] else .fail
   | _ => .fail
  | .row o g k j => rowIndex σ E o g k j n
  | .vw o g k j es lo m => if es = E.size then .det (0 ≤ n ∧ n < (m : Int)) [] (.rref o g k j es (lo + n.toNat) 0) [] else .fail
  | _ => .fail
 | none, some (_, n) => arrIndex ty t x n
 | _, _ => .fail

def lenSpec (ty : TypeId → Option TyE) (σ : Objs) (t : TypeId) (x : AV) : Spec :=
 match ty t with
 | some { desc := .string, .. } => match isStr x with
  | some s => .det True [] (.dat (.sc (.int .i64 s.size))) []
  | none => .fail
 | some { desc := .slice _, .. } => match x with
  | .dat (.sl _ l) => .det True [] (.dat (.sc (.int .i64 l.length))) []
  | .dat (.sc (.slice none 0 0)) => .det True [] (.dat (.sc (.int .i64 0))) []
  | .own o => match σ o with
   | some (.arr _ _ l) => .det True [o] (.dat (.sc (.int .i64 l.length))) []
   | some (.tab _ _ _ l _ _) => .det True [o] (.dat (.sc (.int .i64 l.length))) []
   | _ => .fail
  | .row o g k j => rowLen σ o g k j
  | .vw _ _ _ _ _ _ m => .det True [] (.dat (.sc (.int .i64 m))) []
  | _ => .fail
 | _ => .fail

def appendSpec (ty : TypeId → Option TyE) (σ : Objs) (nm : Nat) (t t' : TypeId) (s x : AV) : Spec :=
 match elemOf ty t, t = t' with
 | some (e, E), _ =>
  if t = t' ∧ 0 < E.size ∧ E.zero.cells.size = E.size then
   match slOf σ E.size x with
   | some (l2, rd) =>
    match s with
    | .dat (.sc (.slice none 0 0)) => .det ((l2.length : Int) ≤ 140737488355328 ∧ (l2.length : Int) * E.bytes ≤ 140737488355328) rd (.own nm) [(nm, some (.arr e E.size l2))]
    | .own o =>
     match σ o with
     | some (.arr e' es l) =>
      if e' = e ∧ es = E.size then
       .det (((l.length + l2.length : Nat) : Int) ≤ 140737488355328 ∧ ((l.length + l2.length : Nat) : Int) * E.bytes ≤ 140737488355328) (o :: rd) (.own nm) [(o, none), (nm, some (.arr e E.size (l ++ l2)))]
      else .fail
     | _ => .fail
    | .row o g k j => rowAppend σ nm e E o g k j l2 rd
    | _ => .fail
   | none => match x with
    | .own o2 => tabAppend σ nm e E s o2
    | _ => .fail
  else .fail
 | _, _ => .fail

def fillA (place : Nat → Option (Nat × Nat)) : List AV → List (Nat × AV) → Option (List AV)
 | cells, [] => some cells
 | cells, (i, x) :: rest =>
  match place i, x.cells with
  | some (off, size), some cs => if cs.length = size ∧ off + size ≤ cells.length then fillA place (spl cells off cs) rest else none
  | _, _ => none

def placeOf (ty : TypeId → Option TyE) (fs : Array Field) (i : Nat) : Option (Nat × Nat) :=
 match fs[i]? with
 | some f => match ty f.type with
  | some T => some (f.offset, T.size)
  | none => none
 | none => none

def buildSpec (ty : TypeId → Option TyE) (t : TypeId) (parts : List (Nat × AV)) : Spec :=
 match ty t with
 | some { desc := .struct fs, zero := z, .. } =>
  if fs.all (fun f => (ty f.type).isSome) ∧ z.cells.toList.all one then
   match fillA (placeOf ty fs) (z.cells.toList.map fun v => .dat (.sc v)) parts with
   | some cells => .det True [] (mkAgg cells) []
   | none => .fail
  else .fail
 | some { desc := .array _ e, zero := z, .. } =>
  match ty e with
  | some E =>
   if z.cells.toList.all one then
    match fillA (fun i => some (i * E.size, E.size)) (z.cells.toList.map fun v => .dat (.sc v)) parts with
    | some cells => .det True [] (mkAgg cells) []
    | none => .fail
   else .fail
  | none => .fail
 | _ => .fail

def elemsOf (agg : Bool) (es : Nat) : Nat → List (Nat × AV) → Option (List D)
 | _, [] => some []
 | k, (i, x) :: rest =>
  if i = k then
   match x.cells with
   | some cs =>
    if cs.length = es then
     match toDs cs with
     | some ds => match mkD agg ds, elemsOf agg es (k + 1) rest with
      | some d, some r => some (d :: r)
      | _, _ => none
     | none => none
    else none
   | none => none
  else none

def shp (ty : TypeId → Option TyE) : Nat → TypeId → List (Option Nat)
 | 0, _ => []
 | n + 1, t => match ty t with
  | some { desc := .slice e, .. } => match ty e with
   | some E => [some E.size]
   | none => [none]
  | some { desc := .struct fs, .. } => fs.toList.flatMap fun f => shp ty n f.type
  | some { desc := .array k e, .. } => (List.replicate k (shp ty n e)).flatten
  | _ => [none]
def hasSl (ty : TypeId → Option TyE) (t : TypeId) : Bool := (shp ty 6 t).any Option.isSome
def headCells : List (Nat × AV) → List AV
 | (_, x) :: _ => (x.cells).getD []
 | [] => []
def buildSliceSpec (ty : TypeId → Option TyE) (σ : Objs) (nm : Nat) (t : TypeId) (len : Nat) (parts : List (Nat × AV)) : Spec :=
 match elemOf ty t with
 | some (e, E) =>
  if parts.length = len ∧ len * E.size ≤ 16777216 ∧ 0 < E.size ∧ E.zero.cells.size = E.size then
   match elemsOf E.isAgg E.size 0 parts with
   | some ds => .det True [] (.own nm) [(nm, some (.arr e E.size ds))]
   | none => if hasSl ty e = true then match elemsTab ty σ nm (maskOf σ (headCells parts)) E.isAgg E.size 0 parts with
    | some (ds, ns) => .det ns.Nodup ns (.own nm) (goneD ns ++ [(nm, some (.tab e E.size (maskOf σ (headCells parts)) ds nm none))])
    | none => .fail
    else .fail
  else .fail
 | none => .fail

def nzC : List (Option Nat) → List D → List D
 | some es :: sh, .sc (.slice none 0 0) :: l => .sl es [] :: nzC sh l
 | _ :: sh, d :: l => d :: nzC sh l
 | _, l => l
def nzD (sh : List (Option Nat)) : D → D
 | .agg l => .agg (nzC sh l)
 | .sc (.slice none 0 0) => match sh with
  | [some es] => .sl es []
  | _ => .sc (.slice none 0 0)
 | d => d
def nzL (ty : TypeId → Option TyE) : List Pt → List TypeId → List D → List D
 | .rd :: ls, t :: ts, d :: ds => nzD (shp ty 6 t) d :: nzL ty ls ts ds
 | _ :: ls, _ :: ts, d :: ds => d :: nzL ty ls ts ds
 | _, _, ds => ds

def shT (ty : TypeId → Option TyE) : Nat → TypeId → List (Option TypeId)
 | 0, _ => []
 | n + 1, t => match ty t with
  | some { desc := .slice e, .. } => [some e]
  | some { desc := .struct fs, .. } => fs.toList.flatMap fun f => shT ty n f.type
  | some { desc := .array k e, .. } => (List.replicate k (shT ty n e)).flatten
  | _ => [none]
def mtMask : List (Option TypeId) → List Value → List D → List (Option TypeId)
 | some e :: ts, .slice none 0 0 :: vs, .sl (_ + 1) [] :: ds => some e :: mtMask ts vs ds
 | _ :: ts, _ :: vs, _ :: ds => none :: mtMask ts vs ds
 | _, _, _ => []
def makeSpec (ty : TypeId → Option TyE) (nm : Nat) (t : TypeId) (len cap : AV) : Spec :=
 match elemOf ty t, isInt len, isInt cap with
 | some (e, E), some (_, n), some (_, c) =>
  if 0 < E.size ∧ E.zero.cells.size = E.size ∧ E.zero.cells.toList.all one then
   match mkD E.isAgg (nzC (shp ty 6 e) (E.zero.cells.toList.map .sc)) with
   | some d => match (mtMask (shT ty 6 e) E.zero.cells.toList d.cells).any Option.isSome with
    | false => .det (0 ≤ n ∧ n = c ∧ n ≤ 140737488355328 ∧ n * E.bytes ≤ 140737488355328) [] (.own nm) [(nm, some (.arr e E.size (List.replicate n.toNat d)))]
    | true => .det (0 ≤ n ∧ n = c ∧ n ≤ 140737488355328 ∧ n * E.bytes ≤ 140737488355328) [] (.own nm) [(nm, some (.tab e E.size (mtMask (shT ty 6 e) E.zero.cells.toList d.cells) (List.replicate n.toNat d) nm none))]
   | none => .fail
  else .fail
 | _, _, _ => .fail

def getM (z : D) (k : Int × Int) : List ((Int × Int) × D) → D × Bool
 | [] => (z, false)
 | (k', d) :: r => if k' = k then (d, true) else getM z k r
def putM (k : Int × Int) (d : D) : List ((Int × Int) × D) → List ((Int × Int) × D)
 | [] => [(k, d)]
 | (k', d') :: r => if k' = k then (k, d) :: r else (k', d') :: putM k d r
def pairD : AV → Option (Int × Int)
 | .dat (.agg [.sc (.int .i64 a), .sc (.int .i64 b)]) => some (a, b)
 | _ => none
def scB : D → Bool
 | .sc _ => true
 | _ => false
def flB : D → Bool
 | .agg l => l.all scB
 | d => scB d
def mapOf (ty : TypeId → Option TyE) (t : TypeId) : Option TyE :=
 match ty t with
 | some { desc := .map k e, .. } => match ty k with
  | some { desc := .array 2 i, .. } => match ty i with
   | some { desc := .int .i64, size := 1, .. } => ty e
   | _ => none
  | _ => none
 | _ => none
def mpAt (σ : Objs) : AV → Option (Nat × TypeId × List ((Int × Int) × D))
 | .own o => match σ o with
  | some (.mp t l) => some (o, t, l)
  | _ => none
 | _ => none
def makeMapSpec (ty : TypeId → Option TyE) (nm : Nat) (t : TypeId) : Spec := match mapOf ty t with
 | some _ => .det True [] (.own nm) [(nm, some (.mp t []))]
 | none => .fail
def lookupSpec (ty : TypeId → Option TyE) (σ : Objs) (t : TypeId) (x i : AV) : Spec := match mapOf ty t, mpAt σ x, pairD i with
 | some E, some (o, _, l), some k => match (constAV E.zero).toD with
  | some z => .det True [o] (.tup [.dat (getM z k l).1, .dat (.sc (.bool (getM z k l).2))]) []
  | none => .fail
 | _, _, _ => .fail
def mapPutSpec (ty : TypeId → Option TyE) (σ : Objs) (t : TypeId) (x i v : AV) : Spec := match mapOf ty t, mpAt σ x, pairD i, v with
 | some _, some (o, t', l), some k, .dat d => if flB d = true then .det True [o] .und [(o, some (.mp t' (putM k d l)))] else .fail
 | _, _, _, _ => .fail

def lowOf : Option AV → Option Int
 | none => some 0
 | some x => match isInt x with | some (_, n) => some n | none => none

def scs : List AV → Option (List D)
 | [] => some []
 | .dat (.sc v) :: r => (scs r).map (.sc v :: ·)
 | _ :: _ => none
def arrAll (ty : TypeId → Option TyE) (σ : Objs) (n : Nat) (el : TypeId) : AV → Spec
 | .ref o 0 => match σ o with
  | some (.box _ cs) => match ty el, scs cs with
   | some E, some ds => if E.size = 1 ∧ ds.length = n ∧ n ≤ 8 then .det True [o] (.dat (.sl 1 ds)) [(o, none)] else .fail
   | _, _ => .fail
  | _ => .fail
 | _ => .fail

def sliceSpec (ty : TypeId → Option TyE) (σ : Objs) (nm : Nat) (t : TypeId) (x : AV) (lo hi : Option AV) : Spec :=
 match ty t, lowOf lo with
 | some { desc := .string, .. }, some l =>
  match isStr x with
  | some s =>
   match hi with
   | none => .det (0 ≤ l ∧ l ≤ s.size) [] (.dat (.sc (.string (s.extract l.toNat s.size)))) []
   | some h => match isInt h with
    | some (_, h) => .det (0 ≤ l ∧ l ≤ h ∧ h ≤ s.size) [] (.dat (.sc (.string (s.extract l.toNat h.toNat)))) []
    | none => .fail
  | none => .fail
 | some { desc := .array n el, .. }, some _ => match lo, hi with
  | none, none => arrAll ty σ n el x
  | _, _ => .fail
 | some { desc := .slice _, .. }, some l =>
  match elemOf ty t, x with
  | some (_, E), .dat (.sl es xs) =>
   if es = E.size then
    match hi with
    | none => .det (0 ≤ l ∧ l ≤ xs.length) [] (.dat (.sl es (xs.drop l.toNat))) []
    | some h => match isInt h with
     | some (_, h) => .det (0 ≤ l ∧ l ≤ h ∧ h ≤ xs.length) [] (.dat (.sl es ((xs.take h.toNat).drop l.toNat))) []
     | none => .fail
   else .fail
  | some (_, E), .own o => match σ o with
   | some (.arr el es xs) =>
    if es = E.size then
     match hi with
     | none => .det (0 ≤ l ∧ l ≤ xs.length) [o] (.own nm) [(o, none), (nm, some (.arr el es (xs.drop l.toNat)))]
     | some h => match isInt h with
      | some (_, h) => .det (0 ≤ l ∧ l ≤ h ∧ h ≤ xs.length) [o] (.own nm) [(o, none), (nm, some (.arr el es ((xs.take h.toNat).drop l.toNat)))]
      | none => .fail
    else .fail
   | _ => .fail
  | some (_, E), .row o g k j => match hi with
   | some h => match isInt h with
    | some (_, h) => rowSlice σ E o g k j l h
    | none => .fail
   | none => .fail
  | _, _ => .fail
 | _, _ => .fail

def rdV (σ : Objs) : AV → Option (D × List Nat)
 | .vw o g k j es lo n => match tabAt σ o g with
  | some t => some (.sl es (((rowOf t.l k j).2.drop lo).take n), [o])
  | none => none
 | x => rdD σ x
def ownsL : List AV → List Nat
 | [] => []
 | .own o :: l => o :: ownsL l
 | _ :: l => ownsL l
mutual
def argOf (σ : Objs) : Pt → AV → Option (D × List Nat × List Nat)
 | .rd, x => match rdV σ x with
  | some (d, rd) => some (d, [], rd)
  | none => none
 | .zr, .dat d => some (d, [], [])
 | .sl, .own o => some (.sc undef, [o], [])
 | .bx, .ref o 0 => some (.sc undef, [o], [])
 | .bo k, .ref o 0 => match σ o with
  | some (.box _ l) => bif Nat.beq (ownsL l).length k then some (.sc undef, o :: ownsL l, []) else none
  | _ => none
 | .ag l, .aggv xs => match argsOf σ l xs with
  | some (ds, ns, rd) => some (.agg ds, ns, rd)
  | none => none
 | .fn f l, .fn f' xs => match argsOf σ l xs with
  | some (ds, ns, rd) => bif Nat.beq f f' then some (.agg ds, ns, rd) else none
  | none => none
 | _, _ => none
def argsOf (σ : Objs) : List Pt → List AV → Option (List D × List Nat × List Nat)
 | [], [] => some ([], [], [])
 | p :: ls, x :: xs => match argOf σ p x, argsOf σ ls xs with
  | some (d, ns, rd), some (ds, ns', rd') => some (d :: ds, ns ++ ns', rd ++ rd')
  | _, _ => none
 | _, _ => none
end

mutual
def rowP (σ : Objs) : Pt → AV → Prop
 | .rd, .vw o g k j es lo n => match tabAt σ o g with
  | some t => holeOff t.hole j 1 = true ∧ (maskAt t.mask j).isSome = true ∧ k < t.l.length ∧ (rowOf t.l k j).1 = es ∧ lo + n ≤ (rowOf t.l k j).2.length
  | none => False
 | .ag l, .aggv xs => rowsP σ l xs
 | .fn _ l, .fn _ xs => rowsP σ l xs
 | _, _ => True
def rowsP (σ : Objs) : List Pt → List AV → Prop
 | p :: ls, x :: xs => rowP σ p x ∧ rowsP σ ls xs
 | _, _ => True
end
def Obj'.regen (g : Nat) : Obj' → Obj'
 | .tab e es mask l _ hole => .tab e es mask l g hole
 | .bld T E l _ => .bld T E l g
 | x => x
mutual
def AV.ren (f : Nat → Nat) : AV → AV
 | .own o => .own (f o)
 | .ref o i => .ref (f o) i
 | .eref o es k j => .eref (f o) es k j
 | .row _ _ _ _ | .rref _ _ _ _ _ _ _ | .vw _ _ _ _ _ _ _ => .unk
 | .aggv l => .aggv (rens f l)
 | .tup l => .tup (rens f l)
 | .fn g l => .fn g (rens f l)
 | .dat d => .dat d
 | .fp l => .fp l
 | .und => .und
 | .unk => .unk
def rens (f : Nat → Nat) : List AV → List AV
 | [] => []
 | x :: l => x.ren f :: rens f l
end
def Obj'.ren (f : Nat → Nat) : Obj' → Obj'
 | .box T l => .box T (rens f l)
 | x => x
def ixN : List Nat → Nat → Nat
 | [], _ => 0
 | a :: r, n => bif Nat.beq a n then 0 else ixN r n + 1
def objsF (σ : Objs) (f : Nat → Nat) : List Nat → Option (List Obj')
 | [] => some []
 | o :: r => match σ o, objsF σ f r with
  | some x, some l => some ((x.ren f).regen 0 :: l)
  | _, _ => none
def objsOf (σ : Objs) (ns : List Nat) : Option (List Obj') := objsF σ (ixN ns) ns

mutual
def AV.shift (nm : Nat) : AV → AV
 | .own o => .own (nm + o)
 | .ref o i => .ref (nm + o) i
 | .aggv l => .aggv (shifts nm l)
 | .tup l => .tup (shifts nm l)
 | .dat d => .dat d
 | _ => .unk
def shifts (nm : Nat) : List AV → List AV
 | [] => []
 | x :: l => x.shift nm :: shifts nm l
end
def newF (f : Nat → Nat) (nm : Nat) : List Obj' → Delta
 | [] => []
 | x :: r => (nm, some ((x.ren f).regen nm)) :: newF f (nm + 1) r
def newObjs (nm : Nat) (l : List Obj') : Delta := newF (fun j => nm + j) nm l
def lentF (f : Nat → Nat) (g : Nat) : List Nat → List Obj' → Delta
 | o :: os, x :: xs => (o, some ((x.ren f).regen g)) :: lentF f (g + 1) os xs
 | o :: os, [] => (o, none) :: lentF f (g + 1) os []
 | _, _ => []
def lentObjs (g : Nat) (ns : List Nat) (obs : List Obj') : Delta := lentF (fun j => ns.getD j 0) g ns obs

def FlatD : D → Prop
 | .sc _ => True
 | .agg l => ∀ d ∈ l, ∃ v, d = .sc v
 | .sl _ _ => False
def FlatC : AV → Prop
 | .dat d => FlatD d
 | .own _ => True
 | _ => False
def FlatE : AV → Prop
 | .aggv l => ∀ x ∈ l, FlatC x
 | x => FlatC x
def FlatAV : AV → Prop
 | .tup l => ∀ x ∈ l, FlatE x
 | x => FlatE x
def FlatT (mask : List (Option TypeId)) (d : D) : Prop := ∀ (j : Nat) (c : D), d.cells[j]? = some c → match maskAt mask j with
 | none => FlatD c
 | some _ => ∀ es rows, c = .sl es rows → ∀ r ∈ rows, FlatD r
def FlatObj : Obj' → Prop
 | .box _ l => ∀ x ∈ l, FlatC x
 | .arr _ _ l => ∀ d ∈ l, FlatD d
 | .bld _ _ _ _ => True
 | .mp _ _ => True
 | .tab _ _ mask l _ _ => ∀ d ∈ l, FlatT mask d

def NBo (U : Nat → Prop) : Obj' → Prop
 | .box _ l => NBs U l
 | .arr _ _ _ => True
 | .mp _ _ => True
 | .bld _ _ _ g => U g
 | .tab _ _ _ _ g _ => U g

def NBl (L : Nat) : Obj' → Prop
 | .box _ l => NBs (· < L) l
 | _ => True

structure ResOK (rd : List Nat) (obs : List Obj') (r : AV) (new obs' : List Obj') : Prop where
 few : new.length + obs.length ≤ 16
 nbr : NB (· < new.length) r
 nbo : (∀ x ∈ new, NBl new.length x) ∧ ∀ x ∈ obs', NBl obs'.length x
 same : obs'.length ≤ obs.length
 flat : rd = [] ∨ (FlatAV r ∧ (∀ x ∈ new, FlatObj x) ∧ ∀ x ∈ obs', FlatObj x)

def callSpec (ty : TypeId → Option TyE) (Γ : Nat → Option FnSpec) (σ : Objs) (nm : Nat) (f : Nat) (args : List AV) (ats : List TypeId) : Spec :=
 match Γ f with
 | none => .fail
 | some S =>
  match (argsOf σ S.lend args).map fun x => (nzL ty S.lend ats x.1, x.2.1, x.2.2) with
  | none => .fail
  | some (ds, ns, rd) =>
   match objsOf σ ns with
   | none => .fail
   | some obs => .call (rowsP σ S.lend args ∧ S.pre ds obs ∧ ns.Nodup ∧ (∀ n ∈ ns, n ∉ rd) ∧ (∀ x ∈ obs, NBl obs.length x) ∧ ∀ r new obs', S.post ds obs r new obs' → ResOK rd obs r new obs') (ns ++ rd) (fun av δ => ∃ r new obs', S.post ds obs r new obs' ∧ av = r.shift nm ∧ δ = lentObjs (nm + new.length) ns obs' ++ newObjs nm new)

def dU8 : D → UInt8
 | .sc (.int _ n) => UInt8.ofNat n.toNat
 | _ => 0
def bytesD (l : List D) : ByteArray := ⟨(l.map dU8).toArray⟩
def convSpec (ty : TypeId → Option TyE) (σ : Objs) (nm : Nat) (s d : TypeId) (x : AV) : Spec :=
 match ty s, ty d, slOf σ 1 x with
 | some { desc := .slice el, .. }, some { desc := .string, .. }, some (l, rd) => match ty el with
  | some { desc := .int .u8, .. } => .det (∀ d ∈ l, ∃ b : UInt8, d = .sc (.int .u8 b.toNat)) rd (.dat (.sc (.string (bytesD l)))) []
  | _ => .fail
 | some { desc := .string, .. }, some { desc := .slice el, .. }, _ => match isStr x, ty el with
  | some s, some { desc := .int .u8, .. } => .det (s.size ≤ 4294967296) [] (.own nm) [(nm, some (.arr (el + 4294967296) 1 (s.data.toList.map fun b => .sc (.int .u8 b.toNat))))]
  | _, _ => .fail
 | _, _, _ => .fail

def spec (ty : TypeId → Option TyE) (Γ : Nat → Option FnSpec) (σ : Objs) (e : Operand → AV) (nm : Nat) (o : Oper) : Spec :=
 match o.op with
 | .move x | .assign x => .det True [] (e x) []
 | .pick c a b => match isBool (e c) with
  | some t => .split t (.det True [] (e a) []) (.det True [] (e b) [])
  | none => .fail
 | .alloc t => match ty t with
  | some T => match bigArr ty T with
   | some (el, es, ds) => .det True [] (.eref nm es 0 0) [(nm, some (.arr el es ds))]
   | none => if T.zero.cells.toList.all one then .det True [] (.ref nm 0) [(nm, some (.box t (T.zero.cells.toList.map fun v => .dat (.sc v))))] else .fail
  | none => .fail
 | .box t x => match (e x).cells with
  | some cs => .det True [] (.ref nm 0) [(nm, some (.box t cs))]
  | none => .fail
 | .load t a => loadSpec ty σ t (e a)
 | .store t a x => storeSpec ty σ nm t (e a) (e x)
 | .nilCheck x => match e x with
  | .ref o i => .det True [] (.ref o i) []
  | .eref o es k j => .det True [] (.eref o es k j) []
  | .rref o g k j es i c => .det True [] (.rref o g k j es i c) []
  | .fp l => .det True [] (.fp l) []
  | _ => .fail
 | .binOp op t x y _ => binSpec ty op t (e x) (e y)
 | .unOp .not _ x => match isBool (e x) with
  | some b => boolV (!b)
  | none => .fail
 | .unOp .neg _ x => match isInt (e x) with
  | some (k, n) => intBd k (0 - n)
  | none => .fail
 | .convert s d x => match ty s, ty d, isInt (e x) with
  | some { desc := .int _, .. }, some { desc := .int k, .. }, some (_, n) => .det True [] (.dat (.sc (.int k (k.wrap n)))) []
  | _, _, _ => convSpec ty σ nm s d (e x)
 | .slice t x lo hi none => sliceSpec ty σ nm t (e x) (lo.map e) (hi.map e)
 | .fieldAddr s x f => fieldSpec ty s (e x) f
 | .field s x f => fieldV ty s (e x) f
 | .indexAddr t x i => indexSpec ty σ t (e x) (e i)
 | .index t x i => match ty t, isStr (e x), isInt (e i) with
  | some { desc := .string, .. }, some s, some (_, n) => .det (0 ≤ n ∧ n < s.size) [] (.dat (.sc (.int .u8 (s.data.toList.getD n.toNat 0).toNat))) []
  | _, _, _ => arrVal ty t (e x) (e i)
 | .extract x i => match e x with
  | .tup l => match l[i]? with
   | some v => .det True [] v []
   | none => .fail
  | _ => .fail
 | .build t parts => buildSpec ty t (parts.toList.map fun p => (p.1, e p.2))
 | .buildSlice t len parts => buildSliceSpec ty σ nm t len (parts.toList.map fun p => (p.1, e p.2))
 | .makeSlice t l c => makeSpec ty nm t (e l) (e c)
 | .makeMap t none => makeMapSpec ty nm t
 | .lookup t x i true => lookupSpec ty σ t (e x) (e i)
 | .mapUpdate t x i v => mapPutSpec ty σ t (e x) (e i) (e v)
 | .call { callee := .builtin .len, args, argTypes } => match args.toList, argTypes.toList with
  | [x], [t] => lenSpec ty σ t (e x)
  | _, _ => .fail
 | .call { callee := .builtin .append, args, argTypes } => match args.toList, argTypes.toList with
  | [x, y], [t, t'] => appendSpec ty σ nm t t' (e x) (e y)
  | _, _ => .fail
 | .call { callee := .builtin .max, args, .. } => match args.toList with
  | [x, y] => match isInt (e x), isInt (e y) with
   | some (k, a), some (_, b) => .det True [] (.dat (.sc (.int k (if b > a then b else a)))) []
   | _, _ => .fail
  | [x, y, z] => match isInt (e x), isInt (e y), isInt (e z) with
   | some (k, a), some (_, b), some (_, c) => .det True [] (.dat (.sc (.int k (if c > (if b > a then b else a) then c else (if b > a then b else a))))) []
   | _, _, _ => .fail
  | _ => .fail
 | .call { callee := .builtin .min, args, .. } => match args.toList with
  | [x, y] => match isInt (e x), isInt (e y) with
   | some (k, a), some (_, b) => .det True [] (.dat (.sc (.int k (if b < a then b else a)))) []
   | _, _ => .fail
  | _ => .fail
 | .call { callee := .value c, args, argTypes } => match e c with
  | .fn f l => callSpec ty Γ σ nm f (args.toList.map e ++ l) argTypes.toList
  | _ => .fail
 | .makeFunc (.func f) first caps => if first.toList = [] then .det True [] (.fn f (caps.toList.map e)) [] else .fail
 | _ => .fail

structure St where
 env : List AV
 ob : Objs
 nx : Nat

def evalA (env : List AV) : Operand → AV
 | .tmp t => env.getD t .und
 | .const v => constAV v
 | .global _ => .unk
 | .func f => .fn f []

def putA (env : List AV) (d : Option Tmp) (v : AV) : List AV :=
 match d with
 | some d => env.set d v
 | none => env

def skipS : Spec := .det True [] .und []

def gspec (ty : TypeId → Option TyE) (Γ : Nat → Option FnSpec) (ops : Array Oper) (σ : Objs) (env : List AV) (nm : Nat) (o : Oper) : Spec :=
 match o.guard with
 | none => spec ty Γ σ (evalA env) nm o
 | some (j, want) =>
  match (ops[j]?).bind (·.dst) with
  | none => .fail
  | some d =>
   match env.getD d .und with
   | .und => skipS
   | .dat (.sc (.bool b)) => bif want then .split b (spec ty Γ σ (evalA env) nm o) skipS else .split b skipS (spec ty Γ σ (evalA env) nm o)
   | _ => .fail

def runOps (ty : TypeId → Option TyE) (Γ : Nat → Option FnSpec) (ops : Array Oper) (K : List AV → Objs → Nat → Prop) : List Oper → Nat → List AV → Objs → Prop
 | [], nm, env, σ => K env σ nm
 | o :: r, nm, env, σ => (gspec ty Γ ops σ env nm o).T fun av δ => runOps ty Γ ops K r (nm + 16) (putA env o.dst av) (app δ σ)

end Go.Ab
