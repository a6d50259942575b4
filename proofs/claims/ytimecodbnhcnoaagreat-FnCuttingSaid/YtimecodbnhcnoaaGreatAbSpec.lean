/- My own layer, second part: states, what one operation does to a state ('spec'), in terms of plain data. -/
import Derived.Test.YtimecodbnhcnoaaGreatAbBase
namespace Go.Ab
set_option linter.unusedVariables false
set_option linter.unusedSimpArgs false

structure TyE where
 desc:TypeDesc
 size:Nat
 bytes:Nat
 zero:Value
 eq:Bool

def TyOK(P:Program)(t:TypeId)(x:TyE):Prop:=
 P.underlying t=some x.desc/\ ∃i,P.info? t=some i/\ i.size=x.size/\ i.bytes=x.bytes/\ i.zero=some x.zero/\
  (x.eq=true->P.stoodInHeld t=false/\ P.eqGuardType P.depth t=false/\ ∀a,x.desc=.struct a->(a.toList.all fun f=>f.name != "_")=true)

def jqf(t:Nat):List (Nat×TyE)->Option TyE
 |[]=>none
 |(k,x)::r=>bif Nat.beq t k then some x else jqf t r
theorem jsm{P:Program}:∀p∈([]:List (Nat×TyE)),TyOK P p.1 p.2:=by simp
theorem jac{P:Program}{k:Nat}{x:TyE}{r:List (Nat×TyE)}(h:TyOK P k x)(a:∀p∈r,TyOK P p.1 p.2):∀p∈(k,x)::r,TyOK P p.1 p.2:=by
 intro p hp;rcases List.mem_cons.1 hp with rfl|hp
 ·exact h
 ·exact a p hp
theorem jng{P:Program}:∀{l:List (Nat×TyE)},(∀p∈l,TyOK P p.1 p.2)->∀t x,jqf t l=some x->TyOK P t x
 |[],_,t,x,h=>by simp[jqf]at h
 |(k,y)::r,a,t,x,h=>by
  unfold jqf at h;cases hb:Nat.beq t k with
  |true=>
   rw[hb]at h;simp only[cond_true,Option.some.injEq]at h;subst h;have:=Nat.eq_of_beq_eq_true hb;subst this;exact a (t,y) (List.mem_cons_self ..)
  |false=>
   rw[hb]at h;exact jng (fun p b=>a p (List.mem_cons_of_mem _ b)) t x h

def TyE.isAgg(x:TyE):Bool:=
 match x.desc with
 | .struct _| .array _ _=>true
 |_=>false

abbrev Objs:=Nat->Option Obj'
abbrev jbd:=List (Nat×Option Obj')

def upd(σ:Objs)(o:Nat)(x:Option Obj'):Objs:=fun n=>bif Nat.beq n o then x else σ n
def app(δ:jbd)(σ:Objs):Objs:=
 match δ with
 |[]=>σ
 |(o,x)::r=>app r (upd σ o x)

inductive Pt where
 |rd
 |zr
 |sl
 |bx
 |bo (k:Nat)
 |ag (l:List Pt)
 |fn (f:Nat) (l:List Pt)
mutual
def Pt.n:Pt->Nat
 | .rd=>0
 | .zr=>0
 | .sl=>1
 | .bx=>1
 | .bo k=>1+k
 | .ag l=>Pt.ns l
 | .fn _ l=>Pt.ns l
def Pt.ns:List Pt->Nat
 |[]=>0
 |p::l=>p.n+Pt.ns l
end
structure FnSpec where
 lend:List Pt
 pre:List D->List Obj'->Prop
 post:List D->List Obj'->AV->List Obj'->List Obj'->Prop
 kp:List Nat:=[]
 kpok:∀ds obs r new obs',post ds obs r new obs'->(∀j∈kp,obs'[j]? =obs[j]?)/\ (kp≠[]->obs'.length=obs.length):=by
  intro _ _ _ _ _ _;exact⟨fun j h=>(by cases h),fun h=>absurd rfl h⟩
 kc:List (Nat×Nat):=[]
 kcok:∀ds obs r new obs',post ds obs r new obs'->∀p∈kc,∃T l l' d,obs[p.1]? =some (.box T l)/\ obs'[p.1]? =some (.box T l')/\ l'.length=l.length/\ l[p.2]? =some (.dat d)/\ l'[p.2]? =some (.dat d):=by
  intro _ _ _ _ _ _ p h;cases h

inductive Spec where
 |fail
 |det (p:Prop) (rd:List Nat) (av:AV) (δ:jbd)
 |split (b:Bool) (s t:Spec)
 |call (p:Prop) (rd:List Nat) (R:AV->jbd->Prop)

def Spec.T(K:AV->jbd->Prop):Spec->Prop
 | .fail=>False
 | .det p _ av δ=>p/\ K av δ
 | .split b s t=>bif b then s.T K else t.T K
 | .call p _ R=>p/\ ∀av δ,R av δ->K av δ

def Spec.pre:Spec->Prop
 | .fail=>False
 | .det p _ _ _=>p
 | .split b s t=>bif b then s.pre else t.pre
 | .call p _ _=>p

def Spec.R:Spec->AV->jbd->Prop
 | .fail,_,_=>False
 | .det _ _ av δ,a,c=>a=av/\ c=δ
 | .split b s t,a,c=>bif b then s.R a c else t.R a c
 | .call _ _ R,a,c=>R a c

theorem Spec.T_iff{K:AV->jbd->Prop}:∀{s:Spec},s.T K↔s.pre/\ ∀av δ,s.R av δ->K av δ
 | .fail=>by simp[T,pre]
 | .det p rd av δ=>by simp[T,pre,R]
 | .split b s t=>by
  cases b
  ·simpa[T,pre,R]using T_iff (s:=t)
  ·simpa[T,pre,R]using T_iff (s:=s)
 | .call p rd a=>by simp[T,pre,R]

def jft:AV->Option Bool
 | .dat (.sc (.bool b))=>some b
 |_=>none
def jbj:AV->Option (IntKind×Int)
 | .dat (.sc (.int k n))=>some (k,n)
 |_=>none
def jht:AV->Option ByteArray
 | .dat (.sc (.string s))=>some s
 |_=>none

def jcu:Value->AV
 | .agg cs=>if cs.toList.all one then .dat (.agg (cs.toList.map .sc))else .unk
 | .tuple _=>.unk
 |v=>.dat (.sc v)

def AV.cells:AV->Option (List AV)
 | .aggv l=>some l
 | .dat (.agg l)=>some (l.map .dat)
 | .tup _| .und| .unk=>none
 |x=>some [x]

def AV.toD:AV->Option D
 | .dat d=>some d
 |_=>none
def toDs:List AV->Option (List D)
 |[]=>some []
 |x::l=>match x.toD,toDs l with
  |some d,some ds=>some (d::ds)
  |_,_=>none

def jd3(l:List AV):AV:=match toDs l with
 |some ds=>.dat (.agg ds)
 |none=>.aggv l

def mkD(agg:Bool)(l:List D):Option D:=
 if agg then some (.agg l)else match l with|[d]=>some d|_=>none

def Obj'.sl:Obj'->Option (Nat×List D)
 | .arr _ es l=>some (es,l)
 | .tab _ es _ l _ none=>some (es,l)
 |_=>none
def slO(σ:Objs)(o:Nat):Option (Nat×List D):=match σ o with
 |some x=>x.sl
 |none=>none

def rdD(σ:Objs):AV->Option (D×List Nat)
 | .dat d=>some (d,[])
 | .own o=>match slO σ o with
  |some (es,l)=>some (.sl es l,[o])
  |_=>none
 | .aggv l=>match go l with
  |some (ds,rd)=>some (.agg ds,rd)
  |none=>none
 |_=>none
 where
 go:List AV->Option (List D×List Nat)
  |[]=>some ([],[])
  | .dat d::l=>match go l with
   |some (ds,rd)=>some (d::ds,rd)
   |none=>none
  | .own o::l=>match slO σ o,go l with
   |some (es,x),some (ds,rd)=>some (.sl es x::ds,o::rd)
   |_,_=>none
  |_::_=>none

def slOf(σ:Objs)(es:Nat):AV->Option (List D×List Nat)
 | .dat (.sl es' l)=>if es'=es then some (l,[])else none
 | .dat (.sc (.slice none 0 0))=>some ([],[])
 | .own o=>match σ o with
  |some (.arr _ es' l)=>if es'=es then some (l,[o])else none
  |_=>none
 |_=>none

def jli(k:IntKind)(r:Int):Spec:=.det True [] (.dat (.sc (.int k (k.wrap r)))) []

def jcv(b:Bool):Spec:=.det True [] (.dat (.sc (.bool b))) []

def jis(a:Bool):AV->Spec
 | .dat (.sl _ (_::_))=>.det True [] (.dat (.sc (.bool a))) []
 | .dat (.sl _ l)=>.call True [] fun av δ=>δ=[]/\ ∃b:Bool,av=.dat (.sc (.bool (b !=a)))/\ (l≠[]->b=false)
 | .dat (.sc (.slice none 0 0))=>.det True [] (.dat (.sc (.bool (!a)))) []
 |_=>.fail
def eqF0(ty:TypeId->Option TyE)(xs ys:List D):List Field->Option Bool
 |[]=>some true
 |f::c=>
  match ty f.type,xs[f.offset]?,ys[f.offset]? with
  |some {desc:=.int _,..},some (.sc (.int k a)),some (.sc (.int k' b))=>if k=k' then(eqF0 ty xs ys c).map fun r=>a==b&&r else none
  |some {desc:=.bool,..},some (.sc (.bool a)),some (.sc (.bool b))=>(eqF0 ty xs ys c).map fun r=>a==b&&r
  |some {desc:=.string,..},some (.sc (.string a)),some (.sc (.string b))=>(eqF0 ty xs ys c).map fun r=>a.toList==b.toList&&r
  |_,_,_=>none
def eqF(ty:TypeId->Option TyE)(xs ys:List D):List Field->Option Bool
 |[]=>some true
 |f::c=>
  match ty f.type,xs[f.offset]?,ys[f.offset]? with
  |some {desc:=.int _,..},some (.sc (.int k a)),some (.sc (.int k' b))=>if k=k' then(eqF ty xs ys c).map fun r=>a==b&&r else none
  |some {desc:=.bool,..},some (.sc (.bool a)),some (.sc (.bool b))=>(eqF ty xs ys c).map fun r=>a==b&&r
  |some {desc:=.string,..},some (.sc (.string a)),some (.sc (.string b))=>(eqF ty xs ys c).map fun r=>a.toList==b.toList&&r
  |some {desc:=.struct gs,size:=n,eq:=true,..},_,_=>
   match eqF0 ty ((xs.drop f.offset).take n) ((ys.drop f.offset).take n) gs.toList with
   |some q=>(eqF ty xs ys c).map fun r=>q&&r
   |none=>none
  |_,_,_=>none
def eqA:List D->List D->Option Bool
 |[],[]=>some true
 | .sc (.int k a)::l,.sc (.int k' b)::l'=>if k=k' then(eqA l l').map fun r=>a==b&&r else none
 |_,_=>none
def jt4(ty:TypeId->Option TyE)(l l':List D):TypeDesc->Option Bool
 | .struct a=>eqF ty l l' a.toList
 | .array n el=>match ty el with
  |some {desc:=.int _,size:=1,..}=>if l.length=n then eqA l l' else none
  |_=>none
 |_=>none
def jmy(ty:TypeId->Option TyE)(a:BinOp)(t:TypeId):AV->AV->Spec
 | .dat (.agg l),.dat (.agg l')=>
  match ty t with
  |some {desc:=d,eq:=true,..}=>
   match jt4 ty l l' d with
   |some b=>
    match a with
    | .eql=>jcv b
    | .neq=>jcv (!b)
    |_=>.fail
   |none=>.fail
  |_=>.fail
 |_,_=>.fail
def jhl(ty:TypeId->Option TyE)(a:BinOp)(t:TypeId)(x y:AV):Spec:=
 match ty t,y with
 |some {desc:=.slice _,..},.dat (.sc (.slice none 0 0))=>
  match a with
  | .eql=>jis false x
  | .neq=>jis true x
  |_=>.fail
 |some {desc:=.pointer _,..},.dat (.sc (.pointer none))=>
  match x,a with
  | .ref _ _,.eql=>jcv false
  | .ref _ _,.neq=>jcv true
  | .dat (.sc (.pointer none)),.eql=>jcv true
  | .dat (.sc (.pointer none)),.neq=>jcv false
  |_,_=>.fail
 |_,_=>jmy ty a t x y

def jge(ty:TypeId->Option TyE)(op:BinOp)(t:TypeId)(x y:AV):Spec:=
 match jbj x,jbj y with
 |some (k,a),some (k',b)=>
  match op with
  | .shl=>.det (0<=b) [] (.dat (.sc (.int k (k.wrap (a*2^(min b.toNat k.bits)))))) []
  | .shr=>.det (0<=b) [] (.dat (.sc (.int k (a.fdiv (2^(min b.toNat k.bits)))))) []
  |op=>
  if k=k' then
   match op with
   | .add=>jli k (a+b)
   | .sub=>jli k (a-b)
   | .mul=>jli k (a*b)
   | .quo=>.det (b≠0) [] (.dat (.sc (.int k (k.wrap (a.tdiv b))))) []
   | .rem=>.det (b≠0) [] (.dat (.sc (.int k (a.tmod b)))) []
   | .eql=>jcv (a==b)
   | .neq=>jcv (a !=b)
   | .lss=>jcv (a<b)
   | .leq=>jcv (a<=b)
   | .gtr=>jcv (b<a)
   | .geq=>jcv (b<=a)
   | .and=>.det True [] (.dat (.sc (.int k (k.wrap (BitVec.ofInt k.bits a&&&BitVec.ofInt k.bits b).toNat)))) []
   | .or=>.det True [] (.dat (.sc (.int k (k.wrap (BitVec.ofInt k.bits a|||BitVec.ofInt k.bits b).toNat)))) []
   | .xor=>.det True [] (.dat (.sc (.int k (k.wrap (BitVec.ofInt k.bits a^^^BitVec.ofInt k.bits b).toNat)))) []
   |_=>.fail
  else .fail
 |_,_=>
 match jht x,jht y with
 |some a,some b=>
  match op with
  | .add=>.det (((a.size+b.size:Nat):Int)<=9223372036854775807) [] (.dat (.sc (.string (a++b)))) []
  | .eql=>jcv (a.toList==b.toList)
  | .neq=>jcv (!(a.toList==b.toList))
  | .lss=>jcv (Op.bytesLess a.toList b.toList)
  | .leq=>jcv (Op.bytesLess a.toList b.toList||a.toList==b.toList)
  | .gtr=>jcv (!(Op.bytesLess a.toList b.toList||a.toList==b.toList))
  | .geq=>jcv (!(Op.bytesLess a.toList b.toList))
  |_=>.fail
 |_,_=>
 match jft x,jft y,ty t with
 |some a,some b,some {desc:=.bool,..}=>
  match op with
  | .eql=>jcv (a==b)
  | .neq=>jcv (!(a==b))
  |_=>.fail
 |_,_,_=>jhl ty op t x y

def spl{α:Type}(l:List α)(i:Nat)(xs:List α):List α:=l.take i++xs++l.drop (i+xs.length)

def jao(mask:List (Option TypeId))(j:Nat):Option TypeId:=(mask[j]?).getD none
def jav(hole:Option (Nat×Nat))(j n:Nat):Bool:=match hole with
 |none=>true
 |some (_,a)=>Nat.blt a j||Nat.ble (j+n) a
def rowD(d:D)(j:Nat):Nat×List D:=match d.cells.getD j (.sc undef)with
 | .sl es rows=>(es,rows)
 |_=>(0,[])
def ja0(l:List D)(k j:Nat):Nat×List D:=rowD (l.getD k (.sc undef)) j
def jdn(d:D)(j:Nat)(x:D):D:=match d with
 | .agg cs=>.agg (cs.set j x)
 |_=>x
def jdy(o g k:Nat)(mask:List (Option TypeId))(d:D)(j n:Nat):List AV:=(List.range n).map fun i=>match jao mask (j+i)with
 |some _=>.row o g k (j+i)
 |none=>.dat (d.cells.getD (j+i) (.sc undef))
structure TabV where
 e:TypeId
 es:Nat
 mask:List (Option TypeId)
 l:List D
 hole:Option (Nat×Nat)
def jb0(σ:Objs)(o g:Nat):Option TabV:=match σ o with
 |some (.tab e es mask l a hole)=>if a=g then some ⟨e,es,mask,l,hole⟩else none
 |_=>none
def jev(ty:TypeId->Option TyE)(σ:Objs)(o g:Nat)(mask:List (Option TypeId))(hole:Option (Nat×Nat))(d:D):Nat->List AV->Option (List D×List Nat×List Nat)
 |_,[]=>some ([],[],[])
 |j,x::xs=>match jev ty σ o g mask hole d (j+1) xs with
  |none=>none
  |some (ds,ns,b)=>
   match jao mask j with
   |none=>match x with
    | .dat d'=>some (d'::ds,ns,b)
    |_=>none
   |some e'=>match x with
    | .own n=>match σ n with
     |some (.arr c a rows)=>if c=e' then some (.sl a rows::ds,n::ns,b)else none
     |_=>none
    | .row o' e k' j'=>if o'=o/\ e=g/\ j'=j/\ jav hole j 1=true then some (d.cells.getD j (.sc undef)::ds,ns,k'::b)else none
    | .vw o' e k' j' es' lo n=>if o'=o/\ e=g/\ j'=j/\ jav hole j 1=true/\ (rowD d j).1=es' then some (.sl es' (((rowD d j).2.take (lo+n)).drop lo)::ds,ns,k'::b)else none
    | .dat (.sc (.slice none 0 0))=>match ty e' with
     |some E=>if 0<E.size then some (.sl E.size []::ds,ns,b)else none
     |none=>none
    |_=>none
def jdd(hole:Option (Nat×Nat))(j n:Nat):Option (Nat×Nat):=bif jav hole j n then hole else none
def jfu:List Nat->jbd
 |[]=>[]
 |n::r=>(n,none)::jfu r

def jct(σ:Objs)(T:TyE)(o es k j:Nat):Spec:=match σ o with
 |some (.tab _ es' mask l g hole)=>
  if es=es' then
   (if T.isAgg then(if jav hole j T.size=true then .det (k<l.length/\ j+T.size<=es) [o] (jd3 (jdy o g k mask (l.getD k (.sc undef)) j T.size)) []else .fail)
   else match jao mask j with
    |none=>.det (k<l.length/\ j<es) [o] (.dat ((l.getD k (.sc undef)).cells.getD j (.sc undef))) []
    |some _=>if jav hole j 1=true then .det (k<l.length/\ j<es) [o] (.row o g k j) []else .fail)
  else .fail
 |_=>.fail

def jda(σ:Objs)(T:TyE)(o g k j es i c:Nat):Spec:=match jb0 σ o g with
 |some t=>
  if jav t.hole j 1=true/\ (jao t.mask j).isSome=true then
   (if T.isAgg then .det (k<t.l.length/\ (ja0 t.l k j).1=es/\ i<(ja0 t.l k j).2.length/\ c+T.size<=es) [o] (.dat (.agg ((((ja0 t.l k j).2.getD i (.sc undef)).cells.drop c).take T.size))) []
   else .det (k<t.l.length/\ (ja0 t.l k j).1=es/\ i<(ja0 t.l k j).2.length/\ c<es) [o] (.dat (((ja0 t.l k j).2.getD i (.sc undef)).cells.getD c (.sc undef))) [])
  else .fail
 |none=>.fail

def jcd(ty:TypeId->Option TyE)(σ:Objs)(nm o es k j:Nat)(cs:List AV):Spec:=match σ o with
 |some (.tab e es' mask l g hole)=>
  match ty e,jev ty σ o g mask hole (l.getD k (.sc undef)) j cs with
  |some E,some (ds,ns,c)=>
   if es=es'/\ E.size=es then
    (if E.isAgg then .det (k<l.length/\ j+ds.length<=es/\ (∀k'∈c,k'=k)/\ (∀a b,hole=some (a,b)->jav hole j ds.length=false->a=k)/\ ns.Nodup) (o::ns) .und
      (jfu ns++[(o,some (.tab e es mask (l.set k (.agg (spl (l.getD k (.sc undef)).cells j ds))) nm (jdd hole j ds.length)))])
    else match ds with
     |[d]=>if es=1 then .det (k<l.length/\ j=0/\ (∀k'∈c,k'=k)/\ (∀a b,hole=some (a,b)->jav hole j 1=false->a=k)/\ ns.Nodup) (o::ns) .und (jfu ns++[(o,some (.tab e es mask (l.set k d) nm (jdd hole j 1)))])else .fail
     |_=>.fail)
   else .fail
  |_,_=>.fail
 |_=>.fail

def jch(ty:TypeId->Option TyE)(σ:Objs)(o g k j es i c:Nat)(ds:List D):Spec:=match jb0 σ o g with
 |some t=>
  match (jao t.mask j).bind ty with
  |some E=>
   if jav t.hole j 1=true/\ E.size=es then
    (if E.isAgg then .det (k<t.l.length/\ (ja0 t.l k j).1=es/\ i<(ja0 t.l k j).2.length/\ c+ds.length<=es) [o] .und
      [(o,some (.tab t.e t.es t.mask (t.l.set k (jdn (t.l.getD k (.sc undef)) j (.sl es ((ja0 t.l k j).2.set i (.agg (spl ((ja0 t.l k j).2.getD i (.sc undef)).cells c ds)))))) g t.hole))]
    else match ds with
     |[d]=>if es=1 then .det (k<t.l.length/\ (ja0 t.l k j).1=es/\ i<(ja0 t.l k j).2.length/\ c=0) [o] .und
       [(o,some (.tab t.e t.es t.mask (t.l.set k (jdn (t.l.getD k (.sc undef)) j (.sl es ((ja0 t.l k j).2.set i d)))) g t.hole))]else .fail
     |_=>.fail)
   else .fail
  |none=>.fail
 |none=>.fail

def jcz(σ:Objs)(E:TyE)(o g k j:Nat)(n:Int):Spec:=match jb0 σ o g with
 |some t=>if jav t.hole j 1=true/\ (jao t.mask j).isSome=true then .det (k<t.l.length/\ (ja0 t.l k j).1=E.size/\ 0<=n/\ n<(ja0 t.l k j).2.length) [o] (.rref o g k j E.size n.toNat 0) []else .fail
 |none=>.fail
def jdl(σ:Objs)(E:TyE)(o g k j:Nat)(l h:Int):Spec:=match jb0 σ o g with
 |some t=>if jav t.hole j 1=true/\ (jao t.mask j).isSome=true then .det (k<t.l.length/\ (ja0 t.l k j).1=E.size/\ 0<=l/\ l<=h/\ h<=(ja0 t.l k j).2.length) [o] (.vw o g k j E.size l.toNat (h-l).toNat) []else .fail
 |none=>.fail
def jfk(σ:Objs)(o g k j:Nat):Spec:=match jb0 σ o g with
 |some t=>if jav t.hole j 1=true/\ (jao t.mask j).isSome=true then .det (k<t.l.length) [o] (.dat (.sc (.int .i64 (ja0 t.l k j).2.length))) []else .fail
 |none=>.fail

def jce(σ:Objs)(nm:Nat)(e:TypeId)(E:TyE)(s:AV)(d:Nat):Spec:=match σ d with
 |some (.tab j g b c _ none)=>
  if j=e/\ g=E.size then
   match s with
   | .dat (.sc (.slice none 0 0))=>.det ((c.length:Int)<=140737488355328/\ (c.length:Int)*E.bytes<=140737488355328) [d] (.own nm) [(d,none),(nm,some (.tab e E.size b c nm none))]
   | .own o=>match σ o with
    |some (.tab i f a h _ none)=>
     if i=e/\ f=E.size/\ a=b/\ o≠d then
      .det (((h.length+c.length:Nat):Int)<=140737488355328/\ ((h.length+c.length:Nat):Int)*E.bytes<=140737488355328) [o,d] (.own nm) [(o,none),(d,none),(nm,some (.tab e E.size a (h++c) nm none))]
     else .fail
    |_=>.fail
   |_=>.fail
  else .fail
 |_=>.fail

def jb8(σ:Objs)(nm:Nat)(e:TypeId)(E:TyE)(o g k j:Nat)(a:List D)(rd:List Nat):Spec:=match jb0 σ o g with
 |some t=>
  match t.hole with
  |none=>
   if jao t.mask j=some e then
    .det (k<t.l.length/\ (ja0 t.l k j).1=E.size/\ (((ja0 t.l k j).2.length+a.length:Nat):Int)<=140737488355328/\ (((ja0 t.l k j).2.length+a.length:Nat):Int)*E.bytes<=140737488355328) (o::rd) (.own nm)
     [(o,some (.tab t.e t.es t.mask t.l g (some (k,j)))),(nm,some (.arr e E.size ((ja0 t.l k j).2++a)))]
   else .fail
  |some _=>.fail
 |none=>.fail

def jcc(σ:Objs):List AV->List (Option TypeId)
 |[]=>[]
 | .own n::l=>(match σ n with|some (.arr e _ _)=>some e|_=>none)::jcc σ l
 |_::l=>none::jcc σ l
def jbw(ty:TypeId->Option TyE)(σ:Objs)(nm:Nat)(mask:List (Option TypeId))(agg:Bool)(es:Nat):Nat->List (Nat×AV)->Option (List D×List Nat)
 |_,[]=>some ([],[])
 |k,(i,x)::a=>
  if i=k then
   match x.cells with
   |some cs=>
    if cs.length=es then
     match jev ty σ nm nm mask none (.sc undef) 0 cs,jbw ty σ nm mask agg es (k+1) a with
     |some (ds,ns,[]),some (r,b)=>match mkDD agg ds with
      |some d=>some (d::r,ns++b)
      |none=>none
     |_,_=>none
    else none
   |none=>none
  else none
 where
 mkDD (agg:Bool) (l:List D):Option D:=if agg then some (.agg l)else match l with|[d]=>some d|_=>none

def jbe(ty:TypeId->Option TyE)(σ:Objs)(t:TypeId)(x:AV):Spec:=
 match ty t with
 |none=>.fail
 |some T=>
  match x with
  | .ref o i=>
   match σ o with
   |some (.box _ l)=>
    if T.isAgg then(if i+T.size<=l.length then .det True [o] (jd3 ((l.drop i).take T.size)) []else .fail)
    else match l[i]? with
     |some v=>.det True [o] v []
     |none=>.fail
   |_=>.fail
  | .eref o es k j=>
   match σ o with
   |some (.arr _ es' l)=>
    if es=es' then
     (if T.isAgg then .det (k<l.length/\ j+T.size<=es) [o] (.dat (.agg (((l.getD k (.sc undef)).cells.drop j).take T.size))) []
     else .det (k<l.length/\ j<es) [o] (.dat ((l.getD k (.sc undef)).cells.getD j (.sc undef))) [])
    else .fail
   |some (.tab ..)=>jct σ T o es k j
   |_=>.fail
  | .rref o g k j es i c=>jda σ T o g k j es i c
  | .fp ds=>
   if T.isAgg then .det (T.size<=ds.length) [] (.dat (.agg (ds.take T.size))) []
   else match ds with
    |d::_=>.det True [] (.dat d) []
    |[]=>.fail
  |_=>.fail

def jb2(ty:TypeId->Option TyE)(σ:Objs)(nm:Nat)(t:TypeId)(a x:AV):Spec:=
 match ty t,x.cells with
 |some T,some cs=>
  if cs.length=T.size then
   match a with
   | .ref o i=>
    match σ o with
    |some (.box T l)=>if i+cs.length<=l.length then .det True [o] .und [(o,some (.box T (spl l i cs)))]else .fail
    |_=>.fail
   | .eref o es k j=>
    match σ o,toDs cs with
    |some (.arr e es' l),some ds=>
     if es=es' then
      match ty (e%4294967296)with
      |some E=>
       if E.size=es then
        (if E.isAgg then .det (k<l.length/\ j+ds.length<=es) [o] .und [(o,some (.arr e es (l.set k (.agg (spl (l.getD k (.sc undef)).cells j ds)))))]
        else match ds with
         |[d]=>if es=1 then .det (k<l.length/\ j=0) [o] .und [(o,some (.arr e es (l.set k d)))]else .fail
         |_=>.fail)
       else .fail
      |none=>.fail
     else .fail
    |some (.tab ..),_=>jcd ty σ nm o es k j cs
    |_,_=>.fail
   | .rref o g k j es i c=>match toDs cs with
    |some ds=>jch ty σ o g k j es i c ds
    |none=>.fail
   |_=>.fail
  else .fail
 |_,_=>.fail

def jkh(ty:TypeId->Option TyE)(s:TypeId)(f:Nat):Option Nat:=
 match ty s with
 |some {desc:=.struct fs,..}=>
  match fs[f]? with
  |some x=>match ty x.type with
   |some T=>if T.size=0 then none else some x.offset
   |none=>none
  |none=>none
 |_=>none

def jdw(ty:TypeId->Option TyE)(s:TypeId)(x:AV)(f:Nat):Spec:=
 match jkh ty s f with
 |none=>.fail
 |some a=>
  match x with
  | .ref o i=>.det True [] (.ref o (i+a)) []
  | .eref o es k j=>.det True [] (.eref o es k (j+a)) []
  | .rref o g k j es i c=>.det True [] (.rref o g k j es i (c+a)) []
  | .fp ds=>.det (a<=ds.length) [] (.fp (ds.drop a)) []
  |_=>.fail

def aggC:AV->Option (List AV)
 | .aggv l=>some l
 | .dat (.agg l)=>some (l.map .dat)
 |_=>none
def jlv(ty:TypeId->Option TyE)(s:TypeId)(x:AV)(f:Nat):Spec:=
 match ty s with
 |some {desc:=.struct fs,..}=>
  match fs[f]? with
  |some a=>match ty a.type,aggC x with
   |some T,some l=>
    if T.isAgg then(if a.offset+T.size<=l.length then .det True [] (jd3 ((l.drop a.offset).take T.size)) []else .fail)
    else match l[a.offset]? with
     |some v=>.det True [] v []
     |none=>.fail
   |_,_=>.fail
  |none=>.fail
 |_=>.fail

def jbs(ty:TypeId->Option TyE)(t:TypeId):Option (TypeId×TyE):=
 match ty t with
 |some {desc:=.slice e,..}=>match ty e with
  |some E=>some (e,E)
  |none=>none
 |_=>none

def jje(agg:Bool)(es:Nat):Nat->List Value->Option (List D)
 |0,[]=>some []
 |0,_::_=>none
 |n+1,l=>
  if(l.take es).length=es/\ (l.take es).all one=true then
   match mkD agg ((l.take es).map .sc),jje agg es n (l.drop es)with
   |some d,some r=>some (d::r)
   |_,_=>none
  else none
def jrf(ty:TypeId->Option TyE)(T:TyE):Option (TypeId×Nat×List D):=
 match T.desc with
 | .array n el=>
  if 4<n/\ n<=100000 then
   match ty el with
   |some E=>if 0<E.size then(jje E.isAgg E.size n T.zero.cells.toList).map fun ds=>(el,E.size,ds)else none
   |none=>none
  else none
 |_=>none
def jkm(ty:TypeId->Option TyE)(t:TypeId)(x:AV)(n:Int):Spec:=
 match ty t with
 |some {desc:=.array len e,..}=>
  match ty e with
  |some E=>
   match x with
   | .ref o i=>.det (0<=n/\ n<len) [] (.ref o (i+n.toNat*E.size)) []
   | .eref o es k j=>if E.size=es/\ j=0 then .det (0<=n/\ n<len) [] (.eref o es (n.toNat+k) 0) []else .det (0<=n/\ n<len) [] (.eref o es k (j+n.toNat*E.size)) []
   | .rref o g k j es i c=>.det (0<=n/\ n<len) [] (.rref o g k j es i (c+n.toNat*E.size)) []
   | .fp ds=>.det (0<=n/\ n<len) [] (.fp (ds.drop (n.toNat*E.size))) []
   |_=>.fail
  |none=>.fail
 |_=>.fail
def jnx(ty:TypeId->Option TyE)(t:TypeId)(x i:AV):Spec:=
 match ty t,jbj i with
 |some {desc:=.array len e,..},some (_,n)=>
  match ty e,aggC x with
  |some E,some l=>
   if E.isAgg then(if n.toNat*E.size+E.size<=l.length then .det (0<=n/\ n<len) [] (jd3 ((l.drop (n.toNat*E.size)).take E.size)) []else .fail)
   else match l[n.toNat*E.size]? with
    |some v=>.det (0<=n/\ n<len) [] v []
    |none=>.fail
  |_,_=>.fail
 |_,_=>.fail
def jcm(ty:TypeId->Option TyE)(σ:Objs)(t:TypeId)(x i:AV):Spec:=
 match jbs ty t,jbj i with
 |some (_,E),some (_,n)=>
  match x with
  | .dat (.sl es l)=>if es=E.size then .det (0<=n/\ n<l.length) [] (.fp (l.getD n.toNat (.sc undef)).cells) []else .fail
  | .own o=>
   match σ o with
   |some (.arr _ es l)=>if es=E.size then .det (0<=n/\ n<l.length) [o] (.eref o es n.toNat 0) []else .fail
   |some (.tab _ es _ l _ _)=>if es=E.size then .det (0<=n/\ n<l.length) [o] (.eref o es n.toNat 0) []else .fail
   |_=>.fail
  | .row o g k j=>jcz σ E o g k j n
  | .vw o g k j es lo m=>if es=E.size then .det (0<=n/\ n<(m:Int)) [] (.rref o g k j es (lo+n.toNat) 0) []else .fail
  |_=>.fail
 |none,some (_,n)=>jkm ty t x n
 |_,_=>.fail

def je4(ty:TypeId->Option TyE)(σ:Objs)(t:TypeId)(x:AV):Spec:=
 match ty t with
 |some {desc:=.string,..}=>match jht x with
  |some s=>.det True [] (.dat (.sc (.int .i64 s.size))) []
  |none=>.fail
 |some {desc:=.slice _,..}=>match x with
  | .dat (.sl _ l)=>.det True [] (.dat (.sc (.int .i64 l.length))) []
  | .dat (.sc (.slice none 0 0))=>.det True [] (.dat (.sc (.int .i64 0))) []
  | .own o=>match σ o with
   |some (.arr _ _ l)=>.det True [o] (.dat (.sc (.int .i64 l.length))) []
   |some (.tab _ _ _ l _ _)=>.det True [o] (.dat (.sc (.int .i64 l.length))) []
   |_=>.fail
  | .row o g k j=>jfk σ o g k j
  | .vw _ _ _ _ _ _ m=>.det True [] (.dat (.sc (.int .i64 m))) []
  |_=>.fail
 |_=>.fail

def jc7(ty:TypeId->Option TyE)(σ:Objs)(nm:Nat)(t b:TypeId)(s x:AV):Spec:=
 match jbs ty t,t=b with
 |some (e,E),_=>
  if t=b/\ 0<E.size/\ E.zero.cells.size=E.size then
   match slOf σ E.size x with
   |some (a,rd)=>
    match s with
    | .dat (.sc (.slice none 0 0))=>.det ((a.length:Int)<=140737488355328/\ (a.length:Int)*E.bytes<=140737488355328) rd (.own nm) [(nm,some (.arr e E.size a))]
    | .own o=>
     match σ o with
     |some (.arr e' es l)=>
      if e'=e/\ es=E.size then
       .det (((l.length+a.length:Nat):Int)<=140737488355328/\ ((l.length+a.length:Nat):Int)*E.bytes<=140737488355328) (o::rd) (.own nm) [(o,none),(nm,some (.arr e E.size (l++a)))]
      else .fail
     |_=>.fail
    | .row o g k j=>jb8 σ nm e E o g k j a rd
    |_=>.fail
   |none=>match x with
    | .own c=>jce σ nm e E s c
    |_=>.fail
  else .fail
 |_,_=>.fail

def jkg(a:Nat->Option (Nat×Nat)):List AV->List (Nat×AV)->Option (List AV)
 |cells,[]=>some cells
 |cells,(i,x)::c=>
  match a i,x.cells with
  |some (b,size),some cs=>if cs.length=size/\ b+size<=cells.length then jkg a (spl cells b cs) c else none
  |_,_=>none

def jmd(ty:TypeId->Option TyE)(a:Array Field)(i:Nat):Option (Nat×Nat):=
 match a[i]? with
 |some f=>match ty f.type with
  |some T=>some (f.offset,T.size)
  |none=>none
 |none=>none

def jeh(ty:TypeId->Option TyE)(t:TypeId)(a:List (Nat×AV)):Spec:=
 match ty t with
 |some {desc:=.struct fs,zero:=z,..}=>
  if fs.all (fun f=>(ty f.type).isSome)/\ z.cells.toList.all one then
   match jkg (jmd ty fs) (z.cells.toList.map fun v=>.dat (.sc v)) a with
   |some cells=>.det True [] (jd3 cells) []
   |none=>.fail
  else .fail
 |some {desc:=.array _ e,zero:=z,..}=>
  match ty e with
  |some E=>
   if z.cells.toList.all one then
    match jkg (fun i=>some (i*E.size,E.size)) (z.cells.toList.map fun v=>.dat (.sc v)) a with
    |some cells=>.det True [] (jd3 cells) []
    |none=>.fail
   else .fail
  |none=>.fail
 |_=>.fail

def jeg(agg:Bool)(es:Nat):Nat->List (Nat×AV)->Option (List D)
 |_,[]=>some []
 |k,(i,x)::a=>
  if i=k then
   match x.cells with
   |some cs=>
    if cs.length=es then
     match toDs cs with
     |some ds=>match mkD agg ds,jeg agg es (k+1) a with
      |some d,some r=>some (d::r)
      |_,_=>none
     |none=>none
    else none
   |none=>none
  else none

def shp(ty:TypeId->Option TyE):Nat->TypeId->List (Option Nat)
 |0,_=>[]
 |n+1,t=>match ty t with
  |some {desc:=.slice e,..}=>match ty e with
   |some E=>[some E.size]
   |none=>[none]
  |some {desc:=.struct fs,..}=>fs.toList.flatMap fun f=>shp ty n f.type
  |some {desc:=.array k e,..}=>(List.replicate k (shp ty n e)).flatten
  |_=>[none]
def jur(ty:TypeId->Option TyE)(t:TypeId):Bool:=(shp ty 6 t).any Option.isSome
def jby:List (Nat×AV)->List AV
 |(_,x)::_=>(x.cells).getD []
 |[]=>[]
def jbg(ty:TypeId->Option TyE)(σ:Objs)(nm:Nat)(t:TypeId)(len:Nat)(a:List (Nat×AV)):Spec:=
 match jbs ty t with
 |some (e,E)=>
  if a.length=len/\ len*E.size<=16777216/\ 0<E.size/\ E.zero.cells.size=E.size then
   match jeg E.isAgg E.size 0 a with
   |some ds=>.det True [] (.own nm) [(nm,some (.arr e E.size ds))]
   |none=>if jur ty e=true then match jbw ty σ nm (jcc σ (jby a)) E.isAgg E.size 0 a with
    |some (ds,ns)=>.det ns.Nodup ns (.own nm) (jfu ns++[(nm,some (.tab e E.size (jcc σ (jby a)) ds nm none))])
    |none=>.fail
    else .fail
  else .fail
 |none=>.fail

def nzC:List (Option Nat)->List D->List D
 |some es::a,.sc (.slice none 0 0)::l=>.sl es []::nzC a l
 |_::a,d::l=>d::nzC a l
 |_,l=>l
def nzD(a:List (Option Nat)):D->D
 | .agg l=>.agg (nzC a l)
 | .sc (.slice none 0 0)=>match a with
  |[some es]=>.sl es []
  |_=>.sc (.slice none 0 0)
 |d=>d
def nzL(ty:TypeId->Option TyE):List Pt->List TypeId->List D->List D
 | .rd::ls,t::a,d::ds=>nzD (shp ty 6 t) d::nzL ty ls a ds
 |_::ls,_::a,d::ds=>d::nzL ty ls a ds
 |_,_,ds=>ds

def shT(ty:TypeId->Option TyE):Nat->TypeId->List (Option TypeId)
 |0,_=>[]
 |n+1,t=>match ty t with
  |some {desc:=.slice e,..}=>[some e]
  |some {desc:=.struct fs,..}=>fs.toList.flatMap fun f=>shT ty n f.type
  |some {desc:=.array k e,..}=>(List.replicate k (shT ty n e)).flatten
  |_=>[none]
def jck:List (Option TypeId)->List Value->List D->List (Option TypeId)
 |some e::a,.slice none 0 0::vs,.sl (_+1) []::ds=>some e::jck a vs ds
 |_::a,_::vs,_::ds=>none::jck a vs ds
 |_,_,_=>[]
def jgy(ty:TypeId->Option TyE)(nm:Nat)(t:TypeId)(len a:AV):Spec:=
 match jbs ty t,jbj len,jbj a with
 |some (e,E),some (_,n),some (_,c)=>
  if 0<E.size/\ E.zero.cells.size=E.size/\ E.zero.cells.toList.all one then
   match mkD E.isAgg (nzC (shp ty 6 e) (E.zero.cells.toList.map .sc))with
   |some d=>match (jck (shT ty 6 e) E.zero.cells.toList d.cells).any Option.isSome with
    |false=>.det (0<=n/\ n=c/\ n<=140737488355328/\ n*E.bytes<=140737488355328) [] (.own nm) [(nm,some (.arr e E.size (List.replicate n.toNat d)))]
    |true=>.det (0<=n/\ n=c/\ n<=140737488355328/\ n*E.bytes<=140737488355328) [] (.own nm) [(nm,some (.tab e E.size (jck (shT ty 6 e) E.zero.cells.toList d.cells) (List.replicate n.toNat d) nm none))]
   |none=>.fail
  else .fail
 |_,_,_=>.fail

def getM(z:D)(k:Int×Int):List ((Int×Int)×D)->D×Bool
 |[]=>(z,false)
 |(k',d)::r=>if k'=k then(d,true)else getM z k r
def putM(k:Int×Int)(d:D):List ((Int×Int)×D)->List ((Int×Int)×D)
 |[]=>[(k,d)]
 |(k',d')::r=>if k'=k then(k,d)::r else(k',d')::putM k d r
def jr5:AV->Option (Int×Int)
 | .dat (.agg [.sc (.int .i64 a),.sc (.int .i64 b)])=>some (a,b)
 |_=>none
def scB:D->Bool
 | .sc _=>true
 |_=>false
def flB:D->Bool
 | .agg l=>l.all scB
 |d=>scB d
def jqd(ty:TypeId->Option TyE)(t:TypeId):Option TyE:=
 match ty t with
 |some {desc:=.map k e,..}=>match ty k with
  |some {desc:=.array 2 i,..}=>match ty i with
   |some {desc:=.int .i64,size:=1,..}=>ty e
   |_=>none
  |_=>none
 |_=>none
def mpAt(σ:Objs):AV->Option (Nat×TypeId×List ((Int×Int)×D))
 | .own o=>match σ o with
  |some (.mp t l)=>some (o,t,l)
  |_=>none
 |_=>none
def jdc(ty:TypeId->Option TyE)(nm:Nat)(t:TypeId):Spec:=match jqd ty t with
 |some _=>.det True [] (.own nm) [(nm,some (.mp t []))]
 |none=>.fail
def jc4(ty:TypeId->Option TyE)(σ:Objs)(t:TypeId)(x i:AV):Spec:=match jqd ty t,mpAt σ x,jr5 i with
 |some E,some (o,_,l),some k=>match (jcu E.zero).toD with
  |some z=>.det True [o] (.tup [.dat (getM z k l).1,.dat (.sc (.bool (getM z k l).2))]) []
  |none=>.fail
 |_,_,_=>.fail
def jc3(ty:TypeId->Option TyE)(σ:Objs)(t:TypeId)(x i v:AV):Spec:=match jqd ty t,mpAt σ x,jr5 i,v with
 |some _,some (o,a,l),some k,.dat d=>if flB d=true then .det True [o] .und [(o,some (.mp a (putM k d l)))]else .fail
 |_,_,_,_=>.fail

def jj9:Option AV->Option Int
 |none=>some 0
 |some x=>match jbj x with|some (_,n)=>some n|none=>none

def scs:List AV->Option (List D)
 |[]=>some []
 | .dat (.sc v)::r=>(scs r).map (.sc v:: ·)
 |_::_=>none
def jlx(ty:TypeId->Option TyE)(σ:Objs)(n:Nat)(el:TypeId):AV->Spec
 | .ref o 0=>match σ o with
  |some (.box _ cs)=>match ty el,scs cs with
   |some E,some ds=>if E.size=1/\ ds.length=n/\ n<=8 then .det True [o] (.dat (.sl 1 ds)) [(o,none)]else .fail
   |_,_=>.fail
  |_=>.fail
 |_=>.fail

def jed(ty:TypeId->Option TyE)(σ:Objs)(nm:Nat)(t:TypeId)(x:AV)(lo hi:Option AV):Spec:=
 match ty t,jj9 lo with
 |some {desc:=.string,..},some l=>
  match jht x with
  |some s=>
   match hi with
   |none=>.det (0<=l/\ l<=s.size) [] (.dat (.sc (.string (s.extract l.toNat s.size)))) []
   |some h=>match jbj h with
    |some (_,h)=>.det (0<=l/\ l<=h/\ h<=s.size) [] (.dat (.sc (.string (s.extract l.toNat h.toNat)))) []
    |none=>.fail
  |none=>.fail
 |some {desc:=.array n el,..},some _=>match lo,hi with
  |none,none=>jlx ty σ n el x
  |_,_=>.fail
 |some {desc:=.slice _,..},some l=>
  match jbs ty t,x with
  |some (_,E),.dat (.sl es xs)=>
   if es=E.size then
    match hi with
    |none=>.det (0<=l/\ l<=xs.length) [] (.dat (.sl es (xs.drop l.toNat))) []
    |some h=>match jbj h with
     |some (_,h)=>.det (0<=l/\ l<=h/\ h<=xs.length) [] (.dat (.sl es ((xs.take h.toNat).drop l.toNat))) []
     |none=>.fail
   else .fail
  |some (_,E),.own o=>match σ o with
   |some (.arr el es xs)=>
    if es=E.size then
     match hi with
     |none=>.det (0<=l/\ l<=xs.length) [o] (.own nm) [(o,none),(nm,some (.arr el es (xs.drop l.toNat)))]
     |some h=>match jbj h with
      |some (_,h)=>.det (0<=l/\ l<=h/\ h<=xs.length) [o] (.own nm) [(o,none),(nm,some (.arr el es ((xs.take h.toNat).drop l.toNat)))]
      |none=>.fail
    else .fail
   |_=>.fail
  |some (_,E),.row o g k j=>match hi with
   |some h=>match jbj h with
    |some (_,h)=>jdl σ E o g k j l h
    |none=>.fail
   |none=>.fail
  |_,_=>.fail
 |_,_=>.fail

def rdV(σ:Objs):AV->Option (D×List Nat)
 | .vw o g k j es lo n=>match jb0 σ o g with
  |some t=>some (.sl es (((ja0 t.l k j).2.drop lo).take n),[o])
  |none=>none
 |x=>rdD σ x
def jgo:List AV->List Nat
 |[]=>[]
 | .own o::l=>o::jgo l
 |_::l=>jgo l
mutual
def ja2(σ:Objs):Pt->AV->Option (D×List Nat×List Nat)
 | .rd,x=>match rdV σ x with
  |some (d,rd)=>some (d,[],rd)
  |none=>none
 | .zr,.dat d=>some (d,[],[])
 | .sl,.own o=>some (.sc undef,[o],[])
 | .bx,.ref o 0=>some (.sc undef,[o],[])
 | .bo k,.ref o 0=>match σ o with
  |some (.box _ l)=>bif Nat.beq (jgo l).length k then some (.sc undef,o::jgo l,[])else none
  |_=>none
 | .ag l,.aggv xs=>match ja8 σ l xs with
  |some (ds,ns,rd)=>some (.agg ds,ns,rd)
  |none=>none
 | .fn f l,.fn a xs=>match ja8 σ l xs with
  |some (ds,ns,rd)=>bif Nat.beq f a then some (.agg ds,ns,rd)else none
  |none=>none
 |_,_=>none
def ja8(σ:Objs):List Pt->List AV->Option (List D×List Nat×List Nat)
 |[],[]=>some ([],[],[])
 |p::ls,x::xs=>match ja2 σ p x,ja8 σ ls xs with
  |some (d,ns,rd),some (ds,a,b)=>some (d::ds,ns++a,rd++b)
  |_,_=>none
 |_,_=>none
end

mutual
def rowP(σ:Objs):Pt->AV->Prop
 | .rd,.vw o g k j es lo n=>match jb0 σ o g with
  |some t=>jav t.hole j 1=true/\ (jao t.mask j).isSome=true/\ k<t.l.length/\ (ja0 t.l k j).1=es/\ lo+n<=(ja0 t.l k j).2.length
  |none=>False
 | .ag l,.aggv xs=>jds σ l xs
 | .fn _ l,.fn _ xs=>jds σ l xs
 |_,_=>True
def jds(σ:Objs):List Pt->List AV->Prop
 |p::ls,x::xs=>rowP σ p x/\ jds σ ls xs
 |_,_=>True
end
def Obj'.regen(g:Nat):Obj'->Obj'
 | .tab e es mask l _ hole=>.tab e es mask l g hole
 | .bld T E l _=>.bld T E l g
 |x=>x
mutual
def AV.ren(f:Nat->Nat):AV->AV
 | .own o=>.own (f o)
 | .ref o i=>.ref (f o) i
 | .eref o es k j=>.eref (f o) es k j
 | .row _ _ _ _| .rref _ _ _ _ _ _ _| .vw _ _ _ _ _ _ _=>.unk
 | .aggv l=>.aggv (rens f l)
 | .tup l=>.tup (rens f l)
 | .fn g l=>.fn g (rens f l)
 | .dat d=>.dat d
 | .fp l=>.fp l
 | .und=>.und
 | .unk=>.unk
def rens(f:Nat->Nat):List AV->List AV
 |[]=>[]
 |x::l=>x.ren f::rens f l
end
def Obj'.ren(f:Nat->Nat):Obj'->Obj'
 | .box T l=>.box T (rens f l)
 |x=>x
def ixN:List Nat->Nat->Nat
 |[],_=>0
 |a::r,n=>bif Nat.beq a n then 0 else ixN r n+1
def jir(σ:Objs)(f:Nat->Nat):List Nat->Option (List Obj')
 |[]=>some []
 |o::r=>match σ o,jir σ f r with
  |some x,some l=>some ((x.ren f).regen 0::l)
  |_,_=>none
def jex(σ:Objs)(ns:List Nat):Option (List Obj'):=jir σ (ixN ns) ns

mutual
def AV.shift(nm:Nat):AV->AV
 | .own o=>.own (nm+o)
 | .ref o i=>.ref (nm+o) i
 | .aggv l=>.aggv (jd8 nm l)
 | .tup l=>.tup (jd8 nm l)
 | .dat d=>.dat d
 |_=>.unk
def jd8(nm:Nat):List AV->List AV
 |[]=>[]
 |x::l=>x.shift nm::jd8 nm l
end
def newF(f:Nat->Nat)(nm:Nat):List Obj'->jbd
 |[]=>[]
 |x::r=>(nm,some ((x.ren f).regen nm))::newF f (nm+1) r
def jdo(nm:Nat)(l:List Obj'):jbd:=newF (fun j=>nm+j) nm l
def jgq(f:Nat->Nat)(g:Nat):List Nat->List Obj'->jbd
 |o::os,x::xs=>(o,some ((x.ren f).regen g))::jgq f (g+1) os xs
 |o::os,[]=>(o,none)::jgq f (g+1) os []
 |_,_=>[]
def jgp(nm:Nat)(ns:List Nat)(m j:Nat):Nat:=bif Nat.blt j m then ns.getD j 0 else nm+(j-m)
def jcl(nm k:Nat)(ns:List Nat)(obs:List Obj'):jbd:=jgq (jgp nm ns obs.length) (nm+k) ns obs

def jf3:D->Prop
 | .sc _=>True
 | .agg l=>∀d∈l,∃v,d=.sc v
 | .sl _ _=>False
def jo0:AV->Prop
 | .dat d=>jf3 d
 | .own _=>True
 |_=>False
def jrt:AV->Prop
 | .aggv l=>∀x∈l,jo0 x
 |x=>jo0 x
def jn9:AV->Prop
 | .tup l=>∀x∈l,jrt x
 |x=>jrt x
def jsr(mask:List (Option TypeId))(d:D):Prop:=∀(j:Nat)(c:D),d.cells[j]? =some c->match jao mask j with
 |none=>jf3 c
 |some _=>∀es rows,c=.sl es rows->∀r∈rows,jf3 r
def jcn:Obj'->Prop
 | .box _ l=>∀x∈l,jo0 x
 | .arr _ _ l=>∀d∈l,jf3 d
 | .bld _ _ _ _=>True
 | .mp _ _=>True
 | .tab _ _ mask l _ _=>∀d∈l,jsr mask d

def NBo(U:Nat->Prop):Obj'->Prop
 | .box _ l=>NBs U l
 | .arr _ _ _=>True
 | .mp _ _=>True
 | .bld _ _ _ g=>U g
 | .tab _ _ _ _ g _=>U g

def NBl(L:Nat):Obj'->Prop
 | .box _ l=>NBs (· <L) l
 |_=>True

structure ResOK(rd:List Nat)(obs:List Obj')(r:AV)(new obs':List Obj'):Prop where
 few:new.length+obs.length<=16
 nbr:NB (· <new.length) r
 nbo:(∀x∈new,NBl new.length x)/\ ∀x∈obs',NBl (obs'.length+new.length) x
 same:obs'.length<=obs.length
 flat:rd=[] \/(jn9 r/\ (∀x∈new,jcn x)/\ ∀x∈obs',jcn x)

def jbi(ty:TypeId->Option TyE)(Γ:Nat->Option FnSpec)(σ:Objs)(nm:Nat)(f:Nat)(args:List AV)(a:List TypeId):Spec:=
 match Γ f with
 |none=>.fail
 |some S=>
  match (ja8 σ S.lend args).map fun x=>(nzL ty S.lend a x.1,x.2.1,x.2.2)with
  |none=>.fail
  |some (ds,ns,rd)=>
   match jex σ ns with
   |none=>.fail
   |some obs=>.call (jds σ S.lend args/\ S.pre ds obs/\ ns.Nodup/\ (∀n∈ns,n∉rd)/\ (∀x∈obs,NBl obs.length x)/\ ∀r new obs',S.post ds obs r new obs'->ResOK rd obs r new obs') (ns++rd) (fun av δ=>∃r new obs',S.post ds obs r new obs'/\ av=r.shift nm/\ δ=jcl nm new.length ns obs'++jdo nm new)

def dU8:D->UInt8
 | .sc (.int _ n)=>UInt8.ofNat n.toNat
 |_=>0
def jrb(l:List D):ByteArray:=⟨(l.map dU8).toArray⟩
def jeu(ty:TypeId->Option TyE)(σ:Objs)(nm:Nat)(s d:TypeId)(x:AV):Spec:=
 match ty s,ty d,slOf σ 1 x with
 |some {desc:=.slice el,..},some {desc:=.string,..},some (l,rd)=>match ty el with
  |some {desc:=.int .u8,..}=>.det (∀d∈l,∃b:UInt8,d=.sc (.int .u8 b.toNat)) rd (.dat (.sc (.string (jrb l)))) []
  |_=>.fail
 |some {desc:=.string,..},some {desc:=.slice el,..},_=>match jht x,ty el with
  |some s,some {desc:=.int .u8,..}=>.det (s.size<=4294967296) [] (.own nm) [(nm,some (.arr (el+4294967296) 1 (s.data.toList.map fun b=>.sc (.int .u8 b.toNat))))]
  |_,_=>.fail
 |_,_,_=>.fail

def spec(ty:TypeId->Option TyE)(Γ:Nat->Option FnSpec)(σ:Objs)(e:Operand->AV)(nm:Nat)(o:Oper):Spec:=
 match o.op with
 | .move x| .assign x=>.det True [] (e x) []
 | .pick c a b=>match jft (e c)with
  |some t=>.split t (.det True [] (e a) []) (.det True [] (e b) [])
  |none=>.fail
 | .alloc t=>match ty t with
  |some T=>match jrf ty T with
   |some (el,es,ds)=>.det True [] (.eref nm es 0 0) [(nm,some (.arr el es ds))]
   |none=>if T.zero.cells.toList.all one then .det True [] (.ref nm 0) [(nm,some (.box t (T.zero.cells.toList.map fun v=>.dat (.sc v))))]else .fail
  |none=>.fail
 | .box t x=>match (e x).cells with
  |some cs=>.det True [] (.ref nm 0) [(nm,some (.box t cs))]
  |none=>.fail
 | .load t a=>jbe ty σ t (e a)
 | .store t a x=>jb2 ty σ nm t (e a) (e x)
 | .nilCheck x=>match e x with
  | .ref o i=>.det True [] (.ref o i) []
  | .eref o es k j=>.det True [] (.eref o es k j) []
  | .rref o g k j es i c=>.det True [] (.rref o g k j es i c) []
  | .fp l=>.det True [] (.fp l) []
  |_=>.fail
 | .binOp q t x y _=>jge ty q t (e x) (e y)
 | .unOp .not _ x=>match jft (e x)with
  |some b=>jcv (!b)
  |none=>.fail
 | .unOp .neg _ x=>match jbj (e x)with
  |some (k,n)=>jli k (0-n)
  |none=>.fail
 | .convert s d x=>match ty s,ty d,jbj (e x)with
  |some {desc:=.int _,..},some {desc:=.int k,..},some (_,n)=>.det True [] (.dat (.sc (.int k (k.wrap n)))) []
  |_,_,_=>jeu ty σ nm s d (e x)
 | .slice t x lo hi none=>jed ty σ nm t (e x) (lo.map e) (hi.map e)
 | .fieldAddr s x f=>jdw ty s (e x) f
 | .field s x f=>jlv ty s (e x) f
 | .indexAddr t x i=>jcm ty σ t (e x) (e i)
 | .index t x i=>match ty t,jht (e x),jbj (e i)with
  |some {desc:=.string,..},some s,some (_,n)=>.det (0<=n/\ n<s.size) [] (.dat (.sc (.int .u8 (s.data.toList.getD n.toNat 0).toNat))) []
  |_,_,_=>jnx ty t (e x) (e i)
 | .extract x i=>match e x with
  | .tup l=>match l[i]? with
   |some v=>.det True [] v []
   |none=>.fail
  |_=>.fail
 | .build t h=>jeh ty t (h.toList.map fun p=>(p.1,e p.2))
 | .buildSlice t len h=>jbg ty σ nm t len (h.toList.map fun p=>(p.1,e p.2))
 | .makeSlice t l c=>jgy ty nm t (e l) (e c)
 | .makeMap t none=>jdc ty nm t
 | .lookup t x i true=>jc4 ty σ t (e x) (e i)
 | .mapUpdate t x i v=>jc3 ty σ t (e x) (e i) (e v)
 | .call {callee:=.builtin .len,args,argTypes}=>match args.toList,argTypes.toList with
  |[x],[t]=>je4 ty σ t (e x)
  |_,_=>.fail
 | .call {callee:=.builtin .append,args,argTypes}=>match args.toList,argTypes.toList with
  |[x,y],[t,r]=>jc7 ty σ nm t r (e x) (e y)
  |_,_=>.fail
 | .call {callee:=.builtin .max,args,..}=>match args.toList with
  |[x,y]=>match jbj (e x),jbj (e y)with
   |some (k,a),some (_,b)=>.det True [] (.dat (.sc (.int k (if b>a then b else a)))) []
   |_,_=>.fail
  |[x,y,z]=>match jbj (e x),jbj (e y),jbj (e z)with
   |some (k,a),some (_,b),some (_,c)=>.det True [] (.dat (.sc (.int k (if c>(if b>a then b else a)then c else(if b>a then b else a))))) []
   |_,_,_=>.fail
  |_=>.fail
 | .call {callee:=.builtin .min,args,..}=>match args.toList with
  |[x,y]=>match jbj (e x),jbj (e y)with
   |some (k,a),some (_,b)=>.det True [] (.dat (.sc (.int k (if b<a then b else a)))) []
   |_,_=>.fail
  |_=>.fail
 | .call {callee:=.value c,args,argTypes}=>match e c with
  | .fn f l=>jbi ty Γ σ nm f (args.toList.map e++l) argTypes.toList
  |_=>.fail
 | .makeFunc (.func f) first m=>if first.toList=[]then .det True [] (.fn f (m.toList.map e)) []else .fail
 |_=>.fail

structure St where
 env:List AV
 ob:Objs
 nx:Nat

def jau(env:List AV):Operand->AV
 | .tmp t=>env.getD t .und
 | .const v=>jcu v
 | .global _=>.unk
 | .func f=>.fn f []

def putA(env:List AV)(d:Option Tmp)(v:AV):List AV:=
 match d with
 |some d=>env.set d v
 |none=>env

def jk3:Spec:=.det True [] .und []

def jb1(ty:TypeId->Option TyE)(Γ:Nat->Option FnSpec)(ops:Array Oper)(σ:Objs)(env:List AV)(nm:Nat)(o:Oper):Spec:=
 match o.guard with
 |none=>spec ty Γ σ (jau env) nm o
 |some (j,a)=>
  match (ops[j]?).bind (·.dst)with
  |none=>.fail
  |some d=>
   match env.getD d .und with
   | .und=>jk3
   | .dat (.sc (.bool b))=>bif a then .split b (spec ty Γ σ (jau env) nm o) jk3 else .split b jk3 (spec ty Γ σ (jau env) nm o)
   |_=>.fail

def ji3(ty:TypeId->Option TyE)(Γ:Nat->Option FnSpec)(ops:Array Oper)(K:List AV->Objs->Nat->Prop):List Oper->Nat->List AV->Objs->Prop
 |[],nm,env,σ=>K env σ nm
 |o::r,nm,env,σ=>(jb1 ty Γ ops σ env nm o).T fun av δ=>ji3 ty Γ ops K r (nm+16) (putA env o.dst av) (app δ σ)

end Go.Ab
