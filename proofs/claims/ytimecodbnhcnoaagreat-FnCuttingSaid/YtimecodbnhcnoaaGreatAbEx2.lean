/- My own layer: the executor's step, regions. -/
import Derived.Test.YtimecodbnhcnoaaGreatAbEx
namespace Go.Ab
set_option linter.unusedVariables false
set_option linter.unusedSimpArgs false

def jf9(ns rd:List Nat)(obs:List Obj')(r:AV)(new ob:List Obj'):Bool:=
 Nat.ble (new.length+obs.length) 16&&nbB new.length r&&new.all (nlB new.length)&&ob.all (nlB (ob.length+new.length))&&Nat.ble ob.length obs.length&&jef ns&&ns.all (fun n=> !memB n rd)&&obs.all (nlB obs.length)&&
  (ji9 rd||(jqv r&&new.all jqx&&ob.all jqx))
def jmf(ns rd:List Nat)(obs:List Obj')(r:AV)(new ob:List Obj'):Bool:=
 Nat.ble (new.length+obs.length) 16&&nbB new.length r&&new.all (nlB new.length)&&ob.all (nlB (ob.length+new.length))&&Nat.ble ob.length obs.length&&jef ns&&ns.all (fun n=> !memB n rd)&&obs.all (nlB obs.length)&&jqv r

def genX(ty:TypeId->Option TyE)(Γ:Nat->Option FnSpec)(σ:Objs)(e:Operand->AV)(nm:Nat)(o:Oper)(h:Option H):Option (List Prop×AV×jbd):=
 match spec ty Γ σ e nm o with
 | .det p _ av δ=>
  match norm h av δ with
  |some (ps,a,b)=>some (bif jjj e o then ps else p::ps,a,b)
  |none=>none
 |_=>none

def jsb(hole:Option (Nat×Nat))(j n k:Nat):List Prop:=match hole with
 |none=>[]
 |some (a,b)=>bif jav (some (a,b)) j n then[]else[a=k]
def eqP(k:Nat):List Nat->List Prop
 |[]=>[]
 |k'::r=>(k'=k)::eqP k r

mutual
def hasV:AV->Bool
 | .vw _ _ _ _ _ _ _=>true
 | .aggv l| .tup l| .fn _ l=>jot l
 |_=>false
def jot:List AV->Bool
 |[]=>false
 |x::l=>hasV x||jot l
end
mutual
theorem jpr{σ:Objs}:∀(p:Pt)(x:AV),hasV x=false->rowP σ p x
 | .rd,x,h=>by
  cases x with
  |vw o g k j es lo n=>unfold hasV at h;cases h
  |_=>unfold rowP;trivial
 | .zr,x,h=>by cases x<;>(unfold rowP;trivial)
 | .sl,x,h=>by cases x<;>(unfold rowP;trivial)
 | .bx,x,h=>by cases x<;>(unfold rowP;trivial)
 | .bo k,x,h=>by cases x<;>(unfold rowP;trivial)
 | .ag l,x,h=>by
  cases x with
  |aggv xs=>unfold hasV at h;unfold rowP;exact jgv l xs h
  |_=>unfold rowP;trivial
 | .fn f l,x,h=>by
  cases x with
  |fn a xs=>unfold hasV at h;unfold rowP;exact jgv l xs h
  |_=>unfold rowP;trivial
theorem jgv{σ:Objs}:∀(ls:List Pt)(xs:List AV),jot xs=false->jds σ ls xs
 |[],_,_=>by unfold jds;trivial
 |_::_,[],_=>by unfold jds;trivial
 |p::ls,x::xs,h=>by
  unfold jot at h;simp only[Bool.or_eq_false_iff]at h;unfold jds;exact⟨jpr p x h.1,jgv ls xs h.2⟩
end
def argV(σ:Objs)(a:D)(p:Pt)(x:AV):Option (D×List Nat×List Nat×List Prop):=
 match p,x with
 | .rd,.vw o g k j es lo n=>match jb0 σ o g with
  |some t=>bif jav t.hole j 1&&(jao t.mask j).isSome&&Nat.beq (rowD a j).1 es then some (.sl es (((rowD a j).2.drop lo).take n),[],[o],[t.l[k]? =some a,lo+n<=(rowD a j).2.length])else none
  |none=>none
 |p,x=>bif hasV x then none else match ja2 σ p x with
  |some (d,ns,rd)=>some (d,ns,rd,[])
  |none=>none
def jmv(σ:Objs)(f:D):List Pt->List AV->Option (List D×List Nat×List Nat×List Prop)
 |[],[]=>some ([],[],[],[])
 |p::ls,x::xs=>match argV σ f p x,jmv σ f ls xs with
  |some (d,ns,rd,ps),some (ds,a,c,b)=>some (d::ds,ns++a,rd++c,ps++b)
  |_,_=>none
 |_,_=>none
theorem jt9{σ:Objs}{a:D}{p:Pt}{x:AV}{d:D}{ns rd:List Nat}{ps:List Prop}(h:argV σ a p x=some (d,ns,rd,ps))(b:AllP ps):ja2 σ p x=some (d,ns,rd)/\ rowP σ p x:=by
 unfold argV at h;split at h
 ·rename_i o g k j es lo n;split at h
  ·rename_i t i;cases hb:(jav t.hole j 1&&(jao t.mask j).isSome&&Nat.beq (rowD a j).1 es)with
   |false=>rw[hb]at h;cases h
   |true=>
    rw[hb]at h;cases h;simp only[Bool.and_eq_true]at hb;cases b with
    |cons f b=>cases b with
     |cons m _=>
      have e:ja0 t.l k j=rowD a j:=by unfold ja0;rw[List.getD_eq_getElem?_getD,f];rfl
      refine⟨?_,?_⟩
      ·unfold ja2 rdV;simp only[i,e]
      ·unfold rowP;simp only[i,e];exact⟨hb.1.1,hb.1.2,(List.getElem?_eq_some_iff.1 f).1,Nat.eq_of_beq_eq_true hb.2,m⟩
  ·cases h
 ·cases c:hasV x with
  |true=>rw[c]at h;cases h
  |false=>
   rw[c]at h;simp only[cond_false]at h;split at h
   ·rename_i d' r s q;cases h;exact⟨q,jpr _ _ c⟩
   ·cases h
theorem jnz{σ:Objs}{g:D}:∀{ls:List Pt}{xs:List AV}{ds:List D}{ns rd:List Nat}{ps:List Prop},jmv σ g ls xs=some (ds,ns,rd,ps)->AllP ps->ja8 σ ls xs=some (ds,ns,rd)/\ jds σ ls xs
 |[],[],ds,ns,rd,ps,h,_=>by
  unfold jmv at h;cases h;exact⟨by unfold ja8;rfl,by unfold jds;trivial⟩
 |[],x::xs,ds,ns,rd,ps,h,_=>by unfold jmv at h;cases h
 |p::ls,[],ds,ns,rd,ps,h,_=>by unfold jmv at h;cases h
 |p::ls,x::xs,ds,ns,rd,ps,h,k=>by
  unfold jmv at h;split at h
  ·rename_i t l r n f m s o i j;cases h;obtain⟨q1,q⟩:=k.app;obtain⟨a,b⟩:=jt9 i q1;obtain⟨c,d⟩:=jnz j q;exact⟨by unfold ja8;rw[a,c],by unfold jds;exact⟨b,d⟩⟩
  ·cases h
def juz(ty:TypeId->Option TyE)(σ:Objs)(nm:Nat)(S:FnSpec)(b:D)(r:AV)(new ob:List Obj')(xs:List AV)(a:List TypeId):Option (List Prop×AV×jbd):=
 match jmv σ b S.lend xs with
 |some (ds,ns,rd,ps)=>
  match jex σ ns with
  |some obs=>bif jf9 ns rd obs r new ob then some (jd9 S (nzL ty S.lend a ds) obs r new ob::ps,r.shift nm,jcl nm new.length ns ob++jdo nm new)else none
  |none=>none
 |none=>none

def jtc(ty:TypeId->Option TyE)(Γ:Nat->Option FnSpec)(σ:Objs)(e:Operand->AV)(nm:Nat)(o:Oper)(h:Option H):Option (List Prop×AV×jbd):=
 match o.op with
 | .indexAddr t x i=>
  match h with
  |some (.d p)=>
   match jbs ty t,jbj (e i)with
   |some (_,E),some (_,n)=>
    match e x with
    | .dat (.sl es l)=>bif Nat.beq es E.size then some ([0<=n/\ l[n.toNat]? =some p],.fp p.cells,[])else none
    | .own o=>
     match σ o with
     |some (.arr _ es l)=>bif Nat.beq es E.size then some ([0<=n/\ l[n.toNat]? =some p],.eref o es n.toNat 0,[])else none
     |some (.tab _ es _ l _ _)=>bif Nat.beq es E.size then some ([0<=n/\ l[n.toNat]? =some p],.eref o es n.toNat 0,[])else none
     |_=>none
    | .row o g k j=>
     match jb0 σ o g with
     |some q=>bif jav q.hole j 1&&(jao q.mask j).isSome&&Nat.beq (rowD p j).1 E.size then some ([q.l[k]? =some p,0<=n/\ n<(rowD p j).2.length],.rref o g k j E.size n.toNat 0,[])else none
     |none=>none
    |_=>none
   |_,_=>none
  |none=>genX ty Γ σ e nm o h
  |_=>none
 | .load t a=>
  match e a with
  | .fp ds=>
   match ty t with
   |some T=>
    bif T.isAgg then(bif Nat.ble T.size ds.length then some ([],.dat (.agg (ds.take T.size)),[])else none)
    else match ds with
     |d::_=>some ([],.dat d,[])
     |[]=>none
   |none=>none
  | .eref o es k j=>
   match h with
   |some (.d p)=>
    match σ o,ty t with
    |some (.arr _ es' l),some T=>
     bif Nat.beq es es' then
      (bif T.isAgg then(bif Nat.ble (j+T.size) es then some ([l[k]? =some p],.dat (.agg ((p.cells.drop j).take T.size)),[])else none)
      else(bif Nat.blt j es then some ([l[k]? =some p],.dat (p.cells.getD j (.sc undef)),[])else none))
     else none
    |some (.tab _ es' mask l g hole),some T=>
     bif Nat.beq es es' then
      (bif T.isAgg then(bif Nat.ble (j+T.size) es&&jav hole j T.size then some ([l[k]? =some p],jd3 (jdy o g k mask p j T.size),[])else none)
      else match jao mask j with
       |none=>bif Nat.blt j es then some ([l[k]? =some p],.dat (p.cells.getD j (.sc undef)),[])else none
       |some _=>bif Nat.blt j es&&jav hole j 1 then some ([l[k]? =some p],.row o g k j,[])else none)
     else none
    |_,_=>none
   |_=>none
  | .rref o g k j es i c=>
   match h with
   |some (.d2 p w)=>
    match jb0 σ o g,ty t with
    |some q,some T=>
     bif jav q.hole j 1&&(jao q.mask j).isSome&&Nat.beq (rowD p j).1 es then
      (bif T.isAgg then(bif Nat.ble (c+T.size) es then some ([q.l[k]? =some p,(rowD p j).2[i]? =some w],.dat (.agg ((w.cells.drop c).take T.size)),[])else none)
      else(bif Nat.blt c es then some ([q.l[k]? =some p,(rowD p j).2[i]? =some w],.dat (w.cells.getD c (.sc undef)),[])else none))
     else none
    |_,_=>none
   |_=>none
  |_=>match spec ty Γ σ e nm o with
   | .det _ _ av δ=>bif jjj e o then norm h av δ else none
   |_=>none
 | .store t a x=>
  match e a with
  | .eref o es k j=>
   match h with
   |some (.sd p l')=>
    match ty t,(e x).cells with
    |some T,some cs=>
     match σ o,toDs cs with
     |some (.arr e es' l),some ds=>
      match ty (e%4294967296)with
      |some E=>
       bif Nat.beq cs.length T.size&&Nat.beq es es'&&Nat.beq E.size es then
        bif E.isAgg then(bif Nat.ble (j+ds.length) es then some ([l[k]? =some p,l.set k (.agg (spl p.cells j ds))=l'],.und,[(o,some (.arr e es l'))])else none)
        else match ds with
         |[d]=>bif Nat.beq es 1&&Nat.beq j 0 then some ([l[k]? =some p,l.set k d=l'],.und,[(o,some (.arr e es l'))])else none
         |_=>none
       else none
      |none=>none
     |some (.tab e es' mask l g hole),_=>
      match ty e,jev ty σ o g mask hole p j cs with
      |some E,some (ds,ns,B)=>
       bif Nat.beq cs.length T.size&&Nat.beq es es'&&Nat.beq E.size es&&jef ns then
        bif E.isAgg then(bif Nat.ble (j+ds.length) es then some ((l[k]? =some p)::(l.set k (.agg (spl p.cells j ds))=l')::(jsb hole j ds.length k++eqP k B),.und,jfu ns++[(o,some (.tab e es mask l' nm (jdd hole j ds.length)))])else none)
        else match ds with
         |[d]=>bif Nat.beq es 1&&Nat.beq j 0 then some ((l[k]? =some p)::(l.set k d=l')::(jsb hole j 1 k++eqP k B),.und,jfu ns++[(o,some (.tab e es mask l' nm (jdd hole j 1)))])else none
         |_=>none
       else none
      |_,_=>none
     |_,_=>none
    |_,_=>none
   |_=>none
  | .rref o g k j es i c=>
   match h with
   |some (.sd2 p w u l')=>
    match ty t,(e x).cells with
    |some T,some cs=>
     match jb0 σ o g,toDs cs with
     |some q,some ds=>
      match (jao q.mask j).bind ty with
      |some E=>
       bif Nat.beq cs.length T.size&&jav q.hole j 1&&Nat.beq (rowD p j).1 es&&Nat.beq E.size es then
        bif E.isAgg then(bif Nat.ble (c+ds.length) es then some ([q.l[k]? =some p,(rowD p j).2[i]? =some w,(rowD p j).2.set i (.agg (spl w.cells c ds))=u,q.l.set k (jdn p j (.sl es u))=l'],.und,[(o,some (.tab q.e q.es q.mask l' g q.hole))])else none)
        else match ds with
         |[d]=>bif Nat.beq es 1&&Nat.beq c 0 then some ([q.l[k]? =some p,(rowD p j).2[i]? =some w,(rowD p j).2.set i d=u,q.l.set k (jdn p j (.sl es u))=l'],.und,[(o,some (.tab q.e q.es q.mask l' g q.hole))])else none
         |_=>none
       else none
      |none=>none
     |_,_=>none
    |_,_=>none
   |_=>none
  |_=>match spec ty Γ σ e nm o with
   | .det _ _ av δ=>bif jjj e o then norm h av δ else none
   |_=>none
 | .fieldAddr s x f=>
  match e x with
  | .fp ds=>
   match jkh ty s f with
   |some z=>bif Nat.ble z ds.length then some ([],.fp (ds.drop z),[])else none
   |none=>none
  |_=>match spec ty Γ σ e nm o with
   | .det _ _ av δ=>bif jjj e o then norm h av δ else none
   |_=>none
 | .pick c a b=>
  match e c with
  | .dat (.sc (.bool t))=>some ([],bif t then e a else e b,[])
  |_=>none
 | .call {callee:=.value c,args,argTypes}=>
  match e c with
  | .fn f v=>
   match Γ f with
   |some S=>
    bif jot (args.toList.map e++v)then(match h with
     |some (.cv p r new ob)=>juz ty σ nm S p r new ob (args.toList.map e++v) argTypes.toList
     |_=>none)
    else
    match ja8 σ S.lend (args.toList.map e++v)with
    |some (ds,ns,rd)=>
     match jex σ ns with
     |some obs=>
      match h with
      |some (.c r new ob)=>bif jf9 ns rd obs r new ob then some ([jd9 S (nzL ty S.lend argTypes.toList ds) obs r new ob],r.shift nm,jcl nm new.length ns ob++jdo nm new)else none
      |some (.cf r new ob)=>bif jmf ns rd obs r new ob then some ([jd9 S (nzL ty S.lend argTypes.toList ds) obs r new ob,jm2 new ob],r.shift nm,jcl nm new.length ns ob++jdo nm new)else none
      |_=>none
     |none=>none
    |none=>none
   |none=>none
  |_=>none
 | .call {callee:=.builtin .len,args,argTypes}=>
  match args.toList,argTypes.toList with
  |[x],[t]=>
   match e x with
   | .row o' g k j=>
    match h with
    |some (.dn p m)=>
     match ty t,jb0 σ o' g with
     |some {desc:=.slice _,..},some q=>bif jav q.hole j 1&&(jao q.mask j).isSome then some ([q.l[k]? =some p,((rowD p j).2.length:Int)=m],.dat (.sc (.int .i64 m)),[])else none
     |_,_=>none
    |_=>none
   |_=>genX ty Γ σ e nm o h
  |_,_=>none
 | .call {callee:=.builtin .append,args,argTypes}=>
  match args.toList,argTypes.toList with
  |[x,y],[t,C]=>
   match e x with
   | .row o' g k j=>
    match h with
    |some (.sd p l')=>
     match jbs ty t,jb0 σ o' g with
     |some (el,E),some q=>
      match q.hole,jao q.mask j,slOf σ E.size (e y)with
      |none,some e',some (A,_)=>
       bif Nat.beq t C&&Nat.blt 0 E.size&&Nat.beq E.zero.cells.size E.size&&Nat.beq e' el&&Nat.beq (rowD p j).1 E.size then
        some ([q.l[k]? =some p,(((rowD p j).2.length+A.length:Nat):Int)<=140737488355328/\ (((rowD p j).2.length+A.length:Nat):Int)*E.bytes<=140737488355328,(rowD p j).2++A=l'],.own nm,
         [(o',some (.tab q.e q.es q.mask q.l g (some (k,j)))),(nm,some (.arr el E.size l'))])
       else none
      |_,_,_=>none
     |_,_=>none
    |_=>none
   |_=>genX ty Γ σ e nm o h
  |_,_=>none
 |_=>genX ty Γ σ e nm o h

section
variable{ty:TypeId->Option TyE}{Γ:Nat->Option FnSpec}{σ:Objs}{e:Operand->AV}{nm:Nat}

theorem jjp{o:Oper}{h:Option H}{ps:List Prop}{av:AV}{δ:jbd}
  (hs:(match spec ty Γ σ e nm o with
   | .det _ _ av δ=>bif jjj e o then norm h av δ else none
   |_=>none)=some (ps,av,δ)) (d:AllP ps) {K:AV->jbd->Prop} (hK:K av δ):(spec ty Γ σ e nm o).T K:=by
 split at hs
 ·rename_i p rd c f a;cases b:jjj e o with
  |false=>rw[b]at hs;cases hs
  |true=>
   rw[b]at hs;obtain⟨rfl,rfl⟩:=jmg hs d;rw[a];exact⟨jst b a,hK⟩
 ·cases hs

theorem jer{o:Oper}{h:Option H}{ps:List Prop}{av:AV}{δ:jbd}(hs:genX ty Γ σ e nm o h=some (ps,av,δ))(a:AllP ps){K:AV->jbd->Prop}(hK:K av δ):(spec ty Γ σ e nm o).T K:=by
 unfold genX at hs;split at hs
 ·rename_i p rd f k b;split at hs
  ·rename_i j g l d;cases hs;rw[b];cases c:jjj e o with
   |true=>
    rw[c]at a;obtain⟨rfl,rfl⟩:=jmg d a;exact⟨jst c b,hK⟩
   |false=>
    rw[c]at a;simp only[cond_false]at a;cases a with
    |cons i a=>
     obtain⟨rfl,rfl⟩:=jmg d a;exact⟨i,hK⟩
  ·cases hs
 ·cases hs

theorem jnl{hole:Option (Nat×Nat)}{j n k:Nat}(h:AllP (jsb hole j n k)):∀a b,hole=some (a,b)->jav hole j n=false->a=k:=by
 rintro a b rfl d;unfold jsb at h;simp only[d,cond_false]at h;cases h with
 |cons c _=>exact c
theorem jq5{k:Nat}:∀{b:List Nat},AllP (eqP k b)->∀k'∈b,k'=k
 |[],_,k',hk=>by cases hk
 |a::r,h,k',hk=>by
  unfold eqP at h;cases h with
  |cons c d=>
   rcases List.mem_cons.1 hk with rfl|hk
   ·exact c
   ·exact jq5 d k' hk

theorem getD_some{α:Type}{l:List α}{k:Nat}{x y:α}(h:l[k]? =some x):l.getD k y=x:=by
 rw[List.getD_eq_getElem?_getD,h];rfl

theorem jfp{ns rd:List Nat}{obs new ob:List Obj'}{r:AV}{S:FnSpec}{ds:List D}{R:Prop}{nm:Nat}{K:AV->jbd->Prop}(hb:jf9 ns rd obs r new ob=true)(t:jd9 S ds obs r new ob)(f:R)(hK:K (r.shift nm) (jcl nm new.length ns ob++jdo nm new)):
  (R/\ S.pre ds obs/\ ns.Nodup/\ (∀n∈ns,n∉rd)/\ (∀x∈obs,NBl obs.length x)/\ ∀r new obs',S.post ds obs r new obs'->ResOK rd obs r new obs')/\ ∀av δ,(∃r new obs',S.post ds obs r new obs'/\ av=r.shift nm/\ δ=jcl nm new.length ns obs'++jdo nm new)->K av δ:=by
 obtain⟨h,a⟩:=t;unfold jf9 at hb;simp only[Bool.and_eq_true,Bool.or_eq_true]at hb;obtain⟨⟨⟨⟨⟨⟨⟨⟨j,k⟩,l⟩,m⟩,o⟩,p⟩,q⟩,s⟩,b9⟩:=hb;refine⟨⟨f,h,jbn p,fun n u=>?_,fun x c=>jgf (List.all_eq_true.1 s x c),?_⟩,?_⟩
 ·have:=List.all_eq_true.1 q n u;simp only[Bool.not_eq_true']at this;exact je3 this
 ·intro i b g d;obtain⟨rfl,rfl,rfl⟩:=a i b g d;refine⟨Nat.le_of_ble_eq_true j,jp8 k,⟨fun x c=>jgf (List.all_eq_true.1 l x c),fun x c=>jgf (List.all_eq_true.1 m x c)⟩,Nat.le_of_ble_eq_true o,?_⟩;rcases b9 with b9|b9
  ·cases rd with
   |nil=>exact .inl rfl
   |cons _ _=>cases b9
  ·exact .inr ⟨jlo b9.1.1,fun x c=>jlq (List.all_eq_true.1 b9.1.2 x c),fun x c=>jlq (List.all_eq_true.1 b9.2 x c)⟩
 ·rintro av δ ⟨i,b,g,d,rfl,rfl⟩;obtain⟨rfl,rfl,rfl⟩:=a i b g d;exact hK
theorem je0{o:Oper}{h:Option H}{ps:List Prop}{av:AV}{δ:jbd}(hs:jtc ty Γ σ e nm o h=some (ps,av,δ))(u:AllP ps){K:AV->jbd->Prop}(hK:K av δ):(spec ty Γ σ e nm o).T K:=by
 obtain⟨az,op,ay,pos,am,ap⟩:=o;unfold jtc at hs;simp only[]at hs;split at hs
 ·
  rename_i t x i;split at hs
  ·rename_i J;split at hs
   ·rename_i el E k n M hi;split at hs
    ·rename_i es l F;cases hb:Nat.beq es E.size with
     |false=>rw[hb]at hs;cases hs
     |true=>
      rw[hb]at hs;cases hs;cases u with
      |cons v _=>
       have w:n.toNat<l.length:=(List.getElem?_eq_some_iff.1 v.2).1;unfold spec;simp only[jcm,M,hi,F,Nat.eq_of_beq_eq_true hb,if_true];rw[getD_some v.2];exact⟨⟨v.1,by omega⟩,hK⟩
    ·rename_i ob F;split at hs
     ·rename_i ao es l G;cases hb:Nat.beq es E.size with
      |false=>rw[hb]at hs;cases hs
      |true=>
       rw[hb]at hs;cases hs;cases u with
       |cons v _=>
        have w:n.toNat<l.length:=(List.getElem?_eq_some_iff.1 v.2).1;unfold spec;simp only[jcm,M,hi,F,G,if_pos (Nat.eq_of_beq_eq_true hb)];exact⟨⟨v.1,by omega⟩,hK⟩
     ·rename_i ao es mask l g' hole G;cases hb:Nat.beq es E.size with
      |false=>rw[hb]at hs;cases hs
      |true=>
       rw[hb]at hs;cases hs;cases u with
       |cons v _=>
        have w:n.toNat<l.length:=(List.getElem?_eq_some_iff.1 v.2).1;unfold spec;simp only[jcm,M,hi,F,G,if_pos (Nat.eq_of_beq_eq_true hb)];exact⟨⟨v.1,by omega⟩,hK⟩
     ·cases hs
    ·rename_i o' g k' j F;split at hs
     ·rename_i N A;cases hb:(jav N.hole j 1&&(jao N.mask j).isSome&&Nat.beq (rowD J j).1 E.size)with
      |false=>rw[hb]at hs;cases hs
      |true=>
       rw[hb]at hs;cases hs;simp only[Bool.and_eq_true]at hb;cases u with
       |cons v u=>
        cases u with
        |cons w _=>
         unfold spec;simp only[jcm,M,hi,F,jcz,A,if_pos hb.1,ja0];rw[getD_some v];exact⟨⟨(List.getElem?_eq_some_iff.1 v).1,Nat.eq_of_beq_eq_true hb.2,w⟩,hK⟩
     ·cases hs
    ·cases hs
   ·cases hs
  ·exact jer hs u hK
  ·cases hs
 ·
  rename_i t a;split at hs
  ·rename_i ds B;split at hs
   ·rename_i T C;cases hA:T.isAgg with
    |true=>
     rw[hA]at hs;simp only[cond_true]at hs;cases hb:Nat.ble T.size ds.length with
     |false=>rw[hb]at hs;cases hs
     |true=>
      rw[hb]at hs;cases hs;unfold spec;simp only[jbe,C,B,hA,if_true];exact⟨Nat.le_of_ble_eq_true hb,hK⟩
    |false=>
     rw[hA]at hs;simp only[cond_false]at hs;split at hs
     ·cases hs;unfold spec;simp only[jbe,C,B,hA,Bool.false_eq_true,if_false];exact⟨trivial,hK⟩
     ·cases hs
   ·cases hs
  ·rename_i ob es k j B;split at hs
   ·rename_i J;split at hs
    ·rename_i el es' l T G C;cases hb:Nat.beq es es' with
     |false=>rw[hb]at hs;cases hs
     |true=>
      rw[hb]at hs;have he:=Nat.eq_of_beq_eq_true hb;subst he;simp only[cond_true]at hs;cases hA:T.isAgg with
      |true=>
       rw[hA]at hs;simp only[cond_true]at hs;cases p:Nat.ble (j+T.size) es with
       |false=>rw[p]at hs;cases hs
       |true=>
        rw[p]at hs;cases hs;cases u with
        |cons v _=>
         unfold spec;simp only[jbe,C,B,hA,G,if_true];rw[getD_some v];exact⟨⟨(List.getElem?_eq_some_iff.1 v).1,Nat.le_of_ble_eq_true p⟩,hK⟩
      |false=>
       rw[hA]at hs;simp only[cond_false]at hs;cases p:Nat.blt j es with
       |false=>rw[p]at hs;cases hs
       |true=>
        rw[p]at hs;cases hs;cases u with
        |cons v _=>
         unfold spec;simp only[jbe,C,B,hA,G,if_true,Bool.false_eq_true,if_false];rw[getD_some v];exact⟨⟨(List.getElem?_eq_some_iff.1 v).1,by simpa[Nat.blt_eq]using p⟩,hK⟩
    ·rename_i el es' mask l g hole T G C;cases hb:Nat.beq es es' with
     |false=>rw[hb]at hs;cases hs
     |true=>
      rw[hb]at hs;have he:=Nat.eq_of_beq_eq_true hb;subst he;simp only[cond_true]at hs;cases hA:T.isAgg with
      |true=>
       rw[hA]at hs;simp only[cond_true]at hs;cases p:(Nat.ble (j+T.size) es&&jav hole j T.size)with
       |false=>rw[p]at hs;cases hs
       |true=>
        rw[p]at hs;cases hs;simp only[Bool.and_eq_true]at p;cases u with
        |cons v _=>
         unfold spec;simp only[jbe,C,B,G,jct,hA,if_true,p.2];rw[getD_some v];exact⟨⟨(List.getElem?_eq_some_iff.1 v).1,Nat.le_of_ble_eq_true p.1⟩,hK⟩
      |false=>
       rw[hA]at hs;simp only[cond_false]at hs;split at hs
       ·rename_i hm;cases p:Nat.blt j es with
        |false=>rw[p]at hs;cases hs
        |true=>
         rw[p]at hs;cases hs;cases u with
         |cons v _=>
          unfold spec;simp only[jbe,C,B,G,jct,hA,if_true,Bool.false_eq_true,if_false,hm];rw[getD_some v];exact⟨⟨(List.getElem?_eq_some_iff.1 v).1,by simpa[Nat.blt_eq]using p⟩,hK⟩
       ·rename_i e' hm;cases p:(Nat.blt j es&&jav hole j 1)with
        |false=>rw[p]at hs;cases hs
        |true=>
         rw[p]at hs;cases hs;simp only[Bool.and_eq_true]at p;cases u with
         |cons v _=>
          unfold spec;simp only[jbe,C,B,G,jct,hA,if_true,Bool.false_eq_true,if_false,hm,p.2];exact⟨⟨(List.getElem?_eq_some_iff.1 v).1,by simpa[Nat.blt_eq]using p.1⟩,hK⟩
    ·cases hs
   ·cases hs
  ·rename_i o' g k j es i c B;split at hs
   ·rename_i J dy;split at hs
    ·rename_i N T A C;cases hb:(jav N.hole j 1&&(jao N.mask j).isSome&&Nat.beq (rowD J j).1 es)with
     |false=>rw[hb]at hs;cases hs
     |true=>
      rw[hb]at hs;simp only[Bool.and_eq_true]at hb;simp only[cond_true]at hs;cases hA:T.isAgg with
      |true=>
       rw[hA]at hs;simp only[cond_true]at hs;cases p:Nat.ble (c+T.size) es with
       |false=>rw[p]at hs;cases hs
       |true=>
        rw[p]at hs;cases hs;cases u with
        |cons v u=>
         cases u with
         |cons w _=>
          unfold spec;simp only[jbe,C,B,jda,A,if_pos hb.1,hA,if_true,ja0];rw[getD_some v,getD_some w];exact⟨⟨(List.getElem?_eq_some_iff.1 v).1,Nat.eq_of_beq_eq_true hb.2,(List.getElem?_eq_some_iff.1 w).1,Nat.le_of_ble_eq_true p⟩,hK⟩
      |false=>
       rw[hA]at hs;simp only[cond_false]at hs;cases p:Nat.blt c es with
       |false=>rw[p]at hs;cases hs
       |true=>
        rw[p]at hs;cases hs;cases u with
        |cons v u=>
         cases u with
         |cons w _=>
          unfold spec;simp only[jbe,C,B,jda,A,if_pos hb.1,hA,Bool.false_eq_true,if_false,ja0];rw[getD_some v,getD_some w];exact⟨⟨(List.getElem?_eq_some_iff.1 v).1,Nat.eq_of_beq_eq_true hb.2,(List.getElem?_eq_some_iff.1 w).1,by simpa[Nat.blt_eq]using p⟩,hK⟩
    ·cases hs
   ·cases hs
  ·exact jjp hs u hK
 ·
  rename_i t a x;split at hs
  ·rename_i ob es k j B;split at hs
   ·rename_i J l';split at hs
    ·rename_i T cs C L;split at hs
     ·rename_i el es' l ds G R;split at hs
      ·rename_i E hE;cases hb:(Nat.beq cs.length T.size&&Nat.beq es es'&&Nat.beq E.size es)with
       |false=>rw[hb]at hs;cases hs
       |true=>
        rw[hb]at hs;simp only[Bool.and_eq_true]at hb;have W:=Nat.eq_of_beq_eq_true hb.1.1;have e2:=Nat.eq_of_beq_eq_true hb.1.2;have e3:=Nat.eq_of_beq_eq_true hb.2;subst e2;simp only[cond_true]at hs;unfold spec;simp only[jb2,C,L,if_pos W,B,G,R,if_true,hE,if_pos e3];cases hA:E.isAgg with
        |true=>
         rw[hA]at hs;simp only[cond_true]at hs;cases p:Nat.ble (j+ds.length) es with
         |false=>rw[p]at hs;cases hs
         |true=>
          rw[p]at hs;cases hs;cases u with
          |cons v u=>
           cases u with
           |cons w _=>
            simp only[if_true];rw[getD_some v,w];exact⟨⟨(List.getElem?_eq_some_iff.1 v).1,Nat.le_of_ble_eq_true p⟩,hK⟩
        |false=>
         rw[hA]at hs;simp only[cond_false]at hs;simp only[Bool.false_eq_true,if_false];split at hs
         ·rename_i d;cases p:(Nat.beq es 1&&Nat.beq j 0)with
          |false=>rw[p]at hs;cases hs
          |true=>
           rw[p]at hs;cases hs;simp only[Bool.and_eq_true]at p;cases u with
           |cons v u=>
            cases u with
            |cons w _=>
             simp only[if_pos (Nat.eq_of_beq_eq_true p.1)];rw[w];exact⟨⟨(List.getElem?_eq_some_iff.1 v).1,Nat.eq_of_beq_eq_true p.2⟩,hK⟩
         ·cases hs
      ·cases hs
     ·rename_i el es' mask l g hole G;split at hs
      ·rename_i E ds ns ks hE V;cases hb:(Nat.beq cs.length T.size&&Nat.beq es es'&&Nat.beq E.size es&&jef ns)with
       |false=>rw[hb]at hs;cases hs
       |true=>
        rw[hb]at hs;simp only[Bool.and_eq_true]at hb;have W:=Nat.eq_of_beq_eq_true hb.1.1.1;have e2:=Nat.eq_of_beq_eq_true hb.1.1.2;have e3:=Nat.eq_of_beq_eq_true hb.1.2;have ah:=jbn hb.2;subst e2;simp only[cond_true]at hs;have U:∀{ak:List Prop}{q:Prop},AllP ((l[k]? =some J)::q::ak)->l[k]? =some J:=fun u=>by cases u with|cons v _=>exact v
        cases hA:E.isAgg with
        |true=>
         rw[hA]at hs;simp only[cond_true]at hs;cases p:Nat.ble (j+ds.length) es with
         |false=>rw[p]at hs;cases hs
         |true=>
          rw[p]at hs;cases hs;have v:=U u;cases u with
          |cons _ u=>
           cases u with
           |cons w u=>
            obtain⟨Q,X⟩:=u.app;unfold spec;simp only[jb2,C,L,if_pos W,B,G,jcd,hE,getD_some v,V,e3,and_self,if_true,hA,w];exact⟨⟨(List.getElem?_eq_some_iff.1 v).1,Nat.le_of_ble_eq_true p,jq5 X,jnl Q,ah⟩,hK⟩
        |false=>
         rw[hA]at hs;simp only[cond_false]at hs;split at hs
         ·rename_i d;cases p:(Nat.beq es 1&&Nat.beq j 0)with
          |false=>rw[p]at hs;cases hs
          |true=>
           rw[p]at hs;cases hs;simp only[Bool.and_eq_true]at p;have v:=U u;cases u with
           |cons _ u=>
            cases u with
            |cons w u=>
             obtain⟨Q,X⟩:=u.app;unfold spec;simp only[jb2,C,L,if_pos W,B,G,jcd,hE,getD_some v,V,e3,and_self,if_true,hA,Bool.false_eq_true,if_false,if_pos (Nat.eq_of_beq_eq_true p.1),w];exact⟨⟨(List.getElem?_eq_some_iff.1 v).1,Nat.eq_of_beq_eq_true p.2,jq5 X,jnl Q,ah⟩,hK⟩
         ·cases hs
      ·cases hs
     ·cases hs
    ·cases hs
   ·cases hs
  ·rename_i o' g k j es i c B;split at hs
   ·rename_i J dy ax l';split at hs
    ·rename_i T cs C L;split at hs
     ·rename_i N ds A R;split at hs
      ·rename_i E hE;cases hb:(Nat.beq cs.length T.size&&jav N.hole j 1&&Nat.beq (rowD J j).1 es&&Nat.beq E.size es)with
       |false=>rw[hb]at hs;cases hs
       |true=>
        rw[hb]at hs;simp only[Bool.and_eq_true]at hb;have W:=Nat.eq_of_beq_eq_true hb.1.1.1;have e2:=Nat.eq_of_beq_eq_true hb.1.2;have e3:=Nat.eq_of_beq_eq_true hb.2;have hc:jav N.hole j 1=true/\ E.size=es:=⟨hb.1.1.2,e3⟩;simp only[cond_true]at hs;cases hA:E.isAgg with
        |true=>
         rw[hA]at hs;simp only[cond_true]at hs;cases p:Nat.ble (c+ds.length) es with
         |false=>rw[p]at hs;cases hs
         |true=>
          rw[p]at hs;cases hs;cases u with
          |cons v u=>
           cases u with
           |cons w u=>
            cases u with
            |cons Q u=>
             cases u with
             |cons X _=>
              unfold spec;simp only[jb2,C,L,if_pos W,B,R,jch,A,hE,if_pos hc,hA,if_true,ja0,getD_some v,getD_some w,Q,X];exact⟨⟨(List.getElem?_eq_some_iff.1 v).1,e2,(List.getElem?_eq_some_iff.1 w).1,Nat.le_of_ble_eq_true p⟩,hK⟩
        |false=>
         rw[hA]at hs;simp only[cond_false]at hs;split at hs
         ·rename_i d;cases p:(Nat.beq es 1&&Nat.beq c 0)with
          |false=>rw[p]at hs;cases hs
          |true=>
           rw[p]at hs;cases hs;simp only[Bool.and_eq_true]at p;cases u with
           |cons v u=>
            cases u with
            |cons w u=>
             cases u with
             |cons Q u=>
              cases u with
              |cons X _=>
               unfold spec;simp only[jb2,C,L,if_pos W,B,R,jch,A,hE,if_pos hc,hA,Bool.false_eq_true,if_false,if_pos (Nat.eq_of_beq_eq_true p.1),ja0,getD_some v,getD_some w,Q,X];exact⟨⟨(List.getElem?_eq_some_iff.1 v).1,e2,(List.getElem?_eq_some_iff.1 w).1,Nat.eq_of_beq_eq_true p.2⟩,hK⟩
         ·cases hs
      ·cases hs
     ·cases hs
    ·cases hs
   ·cases hs
  ·exact jjp hs u hK
 ·
  rename_i s x f;split at hs
  ·rename_i ds B;split at hs
   ·rename_i aw ai;cases hb:Nat.ble aw ds.length with
    |false=>rw[hb]at hs;cases hs
    |true=>
     rw[hb]at hs;cases hs;unfold spec;simp only[jdw,B,ai];exact⟨Nat.le_of_ble_eq_true hb,hK⟩
   ·cases hs
  ·exact jjp hs u hK
 ·
  rename_i c a b;split at hs
  ·rename_i t hc;cases hs;unfold spec;simp only[hc,jft];cases t
   ·exact⟨trivial,hK⟩
   ·exact⟨trivial,hK⟩
  ·cases hs
 ·
  rename_i c args ad;split at hs
  ·rename_i f ae Y;split at hs
   ·rename_i S hS;cases hv:jot (List.map e args.toList++ae)with
    |true=>
     rw[hv]at hs;simp only[cond_true]at hs;split at hs
     ·rename_i J r new ob;unfold juz at hs;split at hs
      ·rename_i ds ns rd ak z;split at hs
       ·rename_i obs I;cases hb:jf9 ns rd obs r new ob with
        |false=>rw[hb]at hs;cases hs
        |true=>
         rw[hb]at hs;cases hs;cases u with
         |cons v aq=>
          obtain⟨z,D⟩:=jnz z aq;unfold spec;simp only[Y,jbi,hS,z,Option.map_some,I];exact jfp hb v D hK
       ·cases hs
      ·cases hs
     ·cases hs
    |false=>
     have D:=jgv (σ:=σ) S.lend _ hv;rw[hv]at hs;simp only[cond_false]at hs;split at hs
     ·rename_i ds ns rd z;split at hs
      ·rename_i obs I;split at hs
       ·rename_i r new ob;cases hb:jf9 ns rd obs r new ob with
        |false=>rw[hb]at hs;cases hs
        |true=>
         rw[hb]at hs;cases hs;cases u with
         |cons v _=>
          unfold spec;simp only[Y,jbi,hS,z,Option.map_some,I];exact jfp hb v D hK
       ·rename_i r new ob;cases hb:jmf ns rd obs r new ob with
        |false=>rw[hb]at hs;cases hs
        |true=>
         rw[hb]at hs;cases hs;cases u with
         |cons v u=>
          cases u with
          |cons af _=>
           obtain⟨aj,O⟩:=v;unfold spec;simp only[Y,jbi,hS,z,Option.map_some,I];unfold jmf at hb;simp only[Bool.and_eq_true]at hb;obtain⟨⟨⟨⟨⟨⟨⟨⟨b1,b2⟩,b3⟩,b4⟩,b5⟩,b6⟩,b7⟩,b8⟩,b9⟩:=hb;refine⟨⟨D,aj,jbn b6,fun n hn=>?_,fun x F=>jgf (List.all_eq_true.1 b8 x F),?_⟩,?_⟩
           ·have:=List.all_eq_true.1 b7 n hn;simp only[Bool.not_eq_true']at this;exact je3 this
           ·intro r' P ac ab;obtain⟨rfl,rfl,rfl⟩:=O r' P ac ab;exact⟨Nat.le_of_ble_eq_true b1,jp8 b2,⟨fun x F=>jgf (List.all_eq_true.1 b3 x F),fun x F=>jgf (List.all_eq_true.1 b4 x F)⟩,Nat.le_of_ble_eq_true b5,.inr ⟨jlo b9,af.1,af.2⟩⟩
           ·rintro av δ ⟨r',P,ac,ab,rfl,rfl⟩;obtain⟨rfl,rfl,rfl⟩:=O r' P ac ab;exact hK
       ·cases hs
      ·cases hs
     ·cases hs
   ·cases hs
  ·cases hs
 ·
  rename_i args ad;split at hs
  ·rename_i x t F ht;split at hs
   ·rename_i o' g k j Z;split at hs
    ·rename_i J m;split at hs
     ·rename_i N au A;cases hb:(jav N.hole j 1&&(jao N.mask j).isSome)with
      |false=>rw[hb]at hs;cases hs
      |true=>
       rw[hb]at hs;cases hs;simp only[Bool.and_eq_true]at hb;cases u with
       |cons v u=>
        cases u with
        |cons w _=>
         unfold spec;simp only[F,ht,je4,au,Z,jfk,A,if_pos hb,ja0];rw[getD_some v,w];exact⟨(List.getElem?_eq_some_iff.1 v).1,hK⟩
     ·cases hs
    ·cases hs
   ·exact jer hs u hK
  ·cases hs
 ·
  rename_i args ad;split at hs
  ·rename_i x y t t' F ht;split at hs
   ·rename_i o' g k j Z;split at hs
    ·rename_i J l';split at hs
     ·rename_i el E N M A;split at hs
      ·rename_i e' l2 rd aa hm ar;cases hb:(Nat.beq t t'&&Nat.blt 0 E.size&&Nat.beq E.zero.cells.size E.size&&Nat.beq e' el&&Nat.beq (rowD J j).1 E.size)with
       |false=>rw[hb]at hs;cases hs
       |true=>
        rw[hb]at hs;cases hs;simp only[Bool.and_eq_true]at hb;have b1:=Nat.eq_of_beq_eq_true hb.1.1.1.1;have b2:0<E.size:=by simpa[Nat.blt_eq]using hb.1.1.1.2
        have b3:=Nat.eq_of_beq_eq_true hb.1.1.2;have b4:=Nat.eq_of_beq_eq_true hb.1.2;have b5:=Nat.eq_of_beq_eq_true hb.2;subst b1;subst b4;cases u with
        |cons v u=>
         cases u with
         |cons w u=>
          cases u with
          |cons Q _=>
           unfold spec;simp only[F,ht,jc7,M,b2,b3,and_self,if_true,ar,Z,jb8,A,aa,if_pos hm,ja0];rw[getD_some v,Q];exact⟨⟨(List.getElem?_eq_some_iff.1 v).1,b5,w⟩,hK⟩
      ·cases hs
     ·cases hs
    ·cases hs
   ·exact jer hs u hK
  ·cases hs
 ·exact jer hs u hK

def popH(i:Nat):List (Nat×H)->Option H×List (Nat×H)
 |(k,h)::r=>bif Nat.beq k i then(some h,r)else(none,(k,h)::r)
 |[]=>(none,[])

def jhy(ops:List Oper)(n:Nat)(A:List (Nat×AV))(g:Option (Nat×Bool)):Option Bool:=
 match g with
 |none=>some true
 |some (j,a)=>
  match (ops[j]?).bind (·.dst)with
  |none=>none
  |some d=>
   match evX n A (.tmp d)with
   | .und=>some false
   | .dat (.sc (.bool b))=>some (bif a then b else !b)
   |_=>none

theorem jhz{ops:List Oper}{n:Nat}{A:List (Nat×AV)}{o:Oper}{K:AV->jbd->Prop}{b:Bool}(a:jhy ops n A o.guard=some b)(h:b=true->(spec ty Γ σ (evX n A) nm o).T K)(g:b=false->K .und []):(jb1 ty Γ ops.toArray σ (envX n A) nm o).T K:=by
 unfold jb1;unfold jhy at a;cases c:o.guard with
 |none=>
  simp only[c]at a ⊢;cases a;rw[<-jlw];exact h rfl
 |some p=>
  obtain⟨j,f⟩:=p;simp only[c]at a ⊢;have i:(ops.toArray)[j]? =ops[j]?:=by simp
  rw[i];cases hd:(ops[j]?).bind (·.dst)with
  |none=>rw[hd]at a;cases a
  |some d=>
   simp only[hd]at a ⊢;rw[jdg];have k:evX n A (.tmp d)=bif Nat.blt d n then lkA A d else .und:=rfl;rw[k]at a;split at a
   ·rename_i m;cases a;rw[m];exact⟨trivial,g rfl⟩
   ·rename_i t l;cases a;rw[l];simp only[];rw[<-jlw];cases f<;>cases t
    ·exact h rfl
    ·exact⟨trivial,g rfl⟩
    ·exact⟨trivial,g rfl⟩
    ·exact h rfl
   ·cases a

end
end Go.Ab
