/- My own layer, some of its parts together. -/
import Derived.Test.YtimecodbnhcnoaaGreatAbEx2
import Derived.KernelRfl
import Derived.Laws.BitsLemmas
import Derived.Below
import Derived.DataReads
import GoSem.Claim
import Derived.Shelf.Spec.SlicesInsertGrow
import Derived.Deep.WholeRow
import Derived.Shelf.Slices.CompactI
set_option linter.unusedVariables false
set_option linter.unusedSimpArgs false
namespace Go.Ab
section

def mQ(ren:List (Nat×Nat))(o:Nat):Option Nat:=
 match ren with
 |[]=>none
 |(a,b)::r=>bif Nat.beq b o then some a else mQ r o

def wo(ren:List (Nat×Nat)):AV->AV
 | .ref o i=>match mQ ren o with
  |some a=>.ref a i
  |none=>.unk
 |_=>.unk
def vZ(k:Nat)(σ:bJ)(ren:List (Nat×Nat))(bV:List Nat)(m:Md):AV->AV
 | .dat d=>match m with
  | .k=>.dat d
  | .z es=>(match d with
   | .sc (.slice none 0 0)=>.dat (.sl es [])
   |d=>.dat d)
  | .o n=>(match d with
   | .sc (.slice none 0 0)=>bif ko n bV then .own n else .unk
   |d=>.dat d)
  |_=>(match d with
   | .sc (.slice none 0 0)=>.unk
   |d=>.dat d)
 | .own o=>match mQ ren o with
  |some a=>.own a
  |none=>match mP σ o with
   |some (es,l)=>bif Nat.ble k o then .dat (.sl es l)else .unk
   |none=>.unk
 | .row o g i j=>match mQ ren o with
  |some a=>match gM σ o g with
   |some _=>.row a a i j
   |none=>.unk
  |none=>.unk
 | .fH o g q j es i c=>match mQ ren o with
  |some a=>match gM σ o g with
   |some _=>.fH a a q j es i c
   |none=>.unk
  |none=>.unk
 | .vw o g q j es lo m=>match mQ ren o with
  |some a=>match gM σ o g with
   |some _=>.vw a a q j es lo m
   |none=>.unk
  |none=>.unk
 | .ref o i=>match mQ ren o with
  |some a=>.ref a i
  |none=>.unk
 | .eref o es i j=>match mQ ren o with
  |some a=>.eref a es i j
  |none=>.unk
 | .fp l=>.fp l
 | .und=>.und
 | .fn f l=>.fn f (l.map (wo ren))
 |_=>.unk
def kW(k:Nat)(σ:bJ)(ren:List (Nat×Nat))(bV:List Nat):List Md->List AV->List AV
 |m::ms,x::l=>vZ k σ ren bV m x::kW k σ ren bV ms l
 |[],x::l=>vZ k σ ren bV .k x::kW k σ ren bV [] l
 |_,[]=>[]
def Bh(k:Nat)(σ:bJ)(ren:List (Nat×Nat))(bV:List Nat)(ms:List Md):AV->AV
 | .aggv l=>jZ (kW k σ ren bV ms l)
 | .dat (.agg l)=>match ms with
  |[]=>.dat (.agg l)
  |m::a=>jZ (kW k σ ren bV (m::a) (l.map .dat))
 | .tup l=>.tup (kW k σ ren bV ms l)
 | .fn f l=>.fn f (kW k σ ren bV [] l)
 |x=>vZ k σ ren bV (ms.headD .k) x

structure WP where
 keep:List (Nat×List Md)
 objs:List (Nat×Nat×List Md)
 bV:List (Nat×TypeId×Nat×List (Option TypeId))
 nx:Nat

def rV(k:Nat)(σ:bJ)(ren:List (Nat×Nat))(bV:List Nat)(ms:List Md)(n:Nat):Option bH->Option bH
 |some (.box T l)=>match ms with
  | .bd E::_=>match l with
   |[.dat (.sc (.pointer none)),.dat (.sc (.slice none 0 0))]=>some (.gF T E [] n)
   |_=>none
  |_=>some (.box T (kW k σ ren bV ms l))
 |some (.gF T E l _)=>match ms with
  | .f::_=>none
  |_=>some (.gF T E l n)
 |some (.mp t l)=>match ms with
  | .f::_=>none
  |_=>some (.mp t l)
 |some (.arr e es l)=>match ms with
  | .t mask::_=>match l with
   |[]=>bif Nat.ble mask.length es then some (.tab e es mask [] n none)else none
   |_=>none
  |_=>some (.arr e es l)
 |some (.tab e es mask l g hole)=>match ms with
  | .f::_=>match hole with
   |none=>some (.arr e es l)
   |some _=>none
  |_=>some (.tab e es mask l n hole)
 |none=>none
def F5(q:Nat×TypeId×Nat×List (Option TypeId)):bH:=match q.2.2.2 with
 |[]=>.arr q.2.1 q.2.2.1 []
 |m::ms=>.tab q.2.1 q.2.2.1 (m::ms) [] q.1 none
def JH:List Md->Bool
 | .f::_=>true
 |_=>false
def Ac(os:List (Nat×Nat×List Md)):List Nat:=(os.filter fun q=>JH q.2.2).map fun q=>q.2.1
def F4(k:Nat)(ren:List (Nat×Nat))(bV:List (Nat×TypeId×Nat×List (Option TypeId)))(nx:Nat):Bool:=
 nQ (ren.map (·.1))&&nQ (ren.map (·.2))&&bV.all (fun n=> !ko n.1 (ren.map (·.1))&&Nat.blt n.1 nx&&(Nat.blt 0 n.2.2.1&&Nat.ble n.2.2.2.length n.2.2.1))&&ren.all (fun p=>Nat.blt p.1 nx)&&
  (List.range k).all (fun j=>ren.any fun p=>Nat.beq p.1 j&&Nat.beq p.2 j)

def kU(n k:Nat)(p:WP)(x:X):X:=
 let ren:=p.objs.map fun q=>(q.1,q.2.1)
 let nl:=p.bV.map (·.1)
 ⟨p.keep.map fun q=>(q.1,Bh k (dS x.L) ren nl q.2 (bif Nat.blt q.1 n then jN x.A q.1 else .und)),(p.objs.map fun q=>(q.1,rV k (dS x.L) ren nl q.2.2 q.1 (dS x.L q.2.1)))++p.bV.map fun q=>(q.1,some (F5 q)),p.nx⟩
def Es(k:Nat)(p:WP):Bool:=F4 k (p.objs.map fun q=>(q.1,q.2.1)) p.bV p.nx

section
variable{k:Nat}{σ:bJ}{ren:List (Nat×Nat)}{bV:List Nat}

theorem qV:∀{ren:List (Nat×Nat)}{o a:Nat},mQ ren o=some a->(a,o)∈ren
 |[],o,a,h=>by cases h
 |(x,y)::r,o,a,h=>by
  unfold mQ at h;cases hb:Nat.beq y o with
  |true=>
   rw[hb]at h;cases h;have:=eG hb;subst this;exact dU ..
  |false=>rw[hb]at h;exact dZ _ (qV h)
theorem IW:∀{ren:List (Nat×Nat)}{o:Nat},mQ ren o=none->o∉ren.map Prod.snd
 |[],o,h=>by simp
 |(x,y)::r,o,h=>by
  unfold mQ at h;cases hb:Nat.beq y o with
  |true=>rw[hb]at h;cases h
  |false=>
   rw[hb]at h;have a:=IW (o:=o) h;simp only[dX,dY,not_or];refine⟨fun e=>?_,a⟩;subst e;simp at hb

theorem OM{L:Nat}:∀{x:AV},dK L σ ren bV x (wo ren x):=by
 intro x;unfold wo;split
 ·split
  ·rename_i a h;exact Ho (qV h)
  ·exact kY _
 ·exact kY _
theorem Im{L:Nat}:∀{l:List AV},fu L σ ren bV l (l.map (wo ren))
 |[]=>zy
 |_::_=>zM OM Im
theorem yZ{m:Md}:∀{x:AV},dK k σ ren bV x (vZ k σ ren bV m x):=by
 intro x;unfold vZ;split
 ·split
  ·exact zh rfl
  ·split
   ·exact P9
   ·exact zh rfl
  ·rename_i n;split
   ·cases h:ko n bV with
    |true=>exact OW (wV h)
    |false=>exact kY _
   ·exact zh rfl
  ·split
   ·exact kY _
   ·exact zh rfl
 ·rename_i o;split
  ·rename_i a h;exact OX (qV h)
  ·rename_i h;split
   ·rename_i es l e;cases d:Nat.ble k o with
    |true=>exact OV e (IW h) (iQ d) rfl
    |false=>exact kY _
   ·exact kY _
 ·rename_i o g i j;split
  ·rename_i a h;split
   ·rename_i t b;unfold dK;exact .inr ⟨a,rfl,qV h,t,b⟩
   ·exact kY _
  ·exact kY _
 ·rename_i o g q j es i c;split
  ·rename_i a h;split
   ·rename_i t b;unfold dK;exact .inr ⟨a,rfl,qV h,t,b⟩
   ·exact kY _
  ·exact kY _
 ·rename_i o g q j es lo m;split
  ·rename_i a h;split
   ·rename_i t b;unfold dK;exact .inr ⟨a,rfl,qV h,t,b⟩
   ·exact kY _
  ·exact kY _
 ·split
  ·rename_i a h;exact Ho (qV h)
  ·exact kY _
 ·split
  ·rename_i a h;unfold dK;exact .inr ⟨a,rfl,qV h⟩
  ·exact kY _
 ·unfold dK;exact .inr rfl
 ·exact jta
 ·rename_i f l;unfold dK;exact .inr ⟨l.map (wo ren),rfl,Im⟩
 ·exact kY _
theorem sU:∀{ms:List Md}{l:List AV},fu k σ ren bV l (kW k σ ren bV ms l)
 |m::ms,x::l=>by unfold kW;exact zM yZ sU
 |[],x::l=>by unfold kW;exact zM yZ sU
 |[],[]=>by unfold kW;exact zy
 |m::ms,[]=>by unfold kW;exact zy

theorem vg:∀{l:List AV}{ds:List D},jG l=some ds->l=ds.map .dat
 |[],ds,h=>by simp only[jG,bU]at h;subst h;rfl
 |x::l,ds,h=>by
  simp only[jG]at h;split at h
  ·rename_i d r a b;cases h;have:=vg b;cases x with
   |dat d'=>simp only[AV.oF,bU]at a;subst a;rw[this];rfl
   |_=>simp[AV.oF]at a
  ·cases h
theorem Hq:∀{l:List AV}{ds:List D},fu k σ ren bV l (ds.map .dat)->oq k σ ren bV l ds
 |[],ds,h=>by
  unfold fu at h;unfold oq;cases ds with
  |nil=>rfl
  |cons=>cases h
 |x::l,ds,h=>by
  unfold fu at h;unfold oq;obtain⟨y,r,a,b,c⟩:=h;cases ds with
  |nil=>cases a
  |cons d ds=>
   simp only[dX,ig]at a;obtain⟨rfl,rfl⟩:=a;exact⟨d,ds,rfl,b,Hq c⟩
theorem OU{l l':List AV}(h:fu k σ ren bV l l'):dK k σ ren bV (.aggv l) (jZ l'):=by
 unfold jZ;split
 ·rename_i ds hd;unfold dK;refine .inr (.inr ⟨ds,rfl,Hq ?_⟩);rw[<-vg hd];exact h
 ·unfold dK;exact .inr (.inl ⟨l',rfl,h⟩)
theorem OB{d d':D}{L:Nat}(h:dK L σ ren bV (.dat d) (.dat d')):lF d d':=by
 unfold dK at h;rcases h with h|⟨d2,h,a⟩|⟨_,o,h,_⟩
 ·cases h
 ·cases h;exact a
 ·cases h
theorem GJ:∀{l:List D}{ds:List D},fu k σ ren bV (l.map .dat) (ds.map .dat)->mE l ds
 |[],ds,h=>by
  simp only[jv]at h;unfold fu at h;unfold mE;cases ds with
  |nil=>rfl
  |cons=>cases h
 |x::l,ds,h=>by
  simp only[dX]at h;unfold fu at h;unfold mE;obtain⟨y,r,a,b,c⟩:=h;cases ds with
  |nil=>cases a
  |cons d ds=>
   simp only[dX,ig]at a;obtain⟨rfl,rfl⟩:=a;exact⟨d,ds,rfl,OB b,GJ c⟩
theorem Oj{ms:List Md}:∀{x:AV},dK k σ ren bV x (Bh k σ ren bV ms x) \/∃l m a,ms=m::a/\ x=.dat (.agg l)/\ jG (kW k σ ren bV (m::a) (l.map .dat))=none:=by
 intro x;unfold Bh;split
 ·exact .inl (OU sU)
 ·rename_i l;cases ms with
  |nil=>exact .inl (yZ (m:=.k) (x:=.dat (.agg l)))
  |cons m a=>
   show dK k σ ren bV _ (jZ (kW k σ ren bV (m::a) (l.map .dat))) \/_;cases hd:jG (kW k σ ren bV (m::a) (l.map .dat))with
   |none=>exact .inr ⟨l,m,a,rfl,rfl,hd⟩
   |some ds=>
    left;unfold jZ;rw[hd];unfold dK;refine .inr (.inl ⟨_,rfl,?_⟩);unfold lF;refine⟨ds,rfl,GJ (k:=k) (σ:=σ) (ren:=ren) (bV:=bV) ?_⟩;rw[<-vg hd];exact sU
 ·left;unfold dK;exact .inr ⟨_,rfl,sU⟩
 ·left;unfold dK;exact .inr ⟨_,rfl,sU⟩
 ·exact .inl yZ
end

def Gc(k:Nat)(σ:bJ)(ren:List (Nat×Nat))(bV:List Nat)(ms:List Md):AV->Bool
 | .dat (.agg l)=>match ms with
  |[]=>true
  |m::a=>(jG (kW k σ ren bV (m::a) (l.map .dat))).isSome
 |_=>true
def mZ(n k:Nat)(p:WP)(x:X):Bool:=
 Es k p&&p.keep.all (fun q=>Gc k (dS x.L) (p.objs.map fun q=>(q.1,q.2.1)) (p.bV.map (·.1)) q.2 (bif Nat.blt q.1 n then jN x.A q.1 else .und))&&p.objs.all (fun q=>(rV k (dS x.L) (p.objs.map fun q=>(q.1,q.2.1)) (p.bV.map (·.1)) q.2.2 q.1 (dS x.L q.2.1)).isSome)

section
variable{cx:Cx}{n:Nat}

theorem GN{f:Nat×List Md->AV}:∀{l:List (Nat×List Md)}{t:Nat}{v:AV},jN (l.map fun q=>(q.1,f q)) t=v->v=.unk \/∃q∈l,q.1=t/\ v=f q
 |[],t,v,h=>.inl h.symm
 |q::l,t,v,h=>by
  simp only[dX,jN]at h;cases hb:Nat.beq t q.1 with
  |true=>
   rw[hb]at h;exact .inr ⟨q,dU ..,(eG hb).symm,h.symm⟩
  |false=>
   rw[hb]at h;rcases GN h with h|⟨c,a,b⟩
   ·exact .inl h
   ·exact .inr ⟨c,dZ _ a,b⟩

theorem Jg{L:Nat}{σ:bJ}{ren:List (Nat×Nat)}{bV:List Nat}{f g:Nat->AV}:∀{l:List Nat},(∀t∈l,dK L σ ren bV (f t) (g t))->fu L σ ren bV (l.map f) (l.map g)
 |[],_=>zy
 |t::l,h=>zM (h t (dU ..)) (Jg fun u a=>h u (dZ _ a))

theorem Hf:∀{L:List (Nat×Option bH)},(∀p∈L,p.2.isSome)->∃os:List (Nat×bH),dS L=obs os/\ ∀p∈os,(p.1,some p.2)∈L
 |[],_=>⟨[],rfl,by simp⟩
 |(a,none)::r,h=>by have:=h _ (dU ..);cases this
 |(a,some y)::r,h=>by
  obtain⟨os,b,c⟩:=Hf (L:=r) fun p hp=>h p (dZ _ hp);refine⟨(a,y)::os,?_,?_⟩
  ·funext t;show(bif Nat.beq t a then some y else dS r t)=(bif Nat.beq t a then some y else obs os t);rw[b]
  ·intro p hp;rcases dY.1 hp with rfl|hp
   ·exact dU ..
   ·exact dZ _ (c p hp)

theorem JU{x:X}{k:Nat}(S:cx.L=k)(p:WP)(h:mZ n k p x=true):Wk cx (x.st n) ((kU n k p x).st n):=by
 unfold mZ Es F4 at h;simp only[fP]at h;obtain⟨⟨⟨⟨⟨⟨U,R⟩,K⟩,V⟩,W⟩,Y⟩,Z⟩:=h;have G:∀q∈(kU n k p x).L,q.2.isSome=true:=by
  intro q s;unfold kU at s;simp only[fA,jE]at s;rcases s with⟨d,o,rfl⟩|⟨d,o,rfl⟩
  ·exact iA.1 Z d o
  ·rfl
 obtain⟨os,M,N⟩:=Hf G;show Wk cx ⟨iC n x.A,dS x.L,x.nx⟩ ⟨iC n (kU n k p x).A,dS (kU n k p x).L,p.nx⟩;rw[M];refine NU (p.objs.map fun q=>(q.1,q.2.1)) (p.bV.map (·.1)) (Ac p.objs) os ⟨jbn U,jbn R,?_,?_⟩ ?_ ?_ ?_ ?_
 ·intro m B;obtain⟨q,s,rfl⟩:=jE.1 B;have:=iA.1 K q s;simp only[fP,mO]at this;exact tC this.1.1
 ·intro j hj;have:=iA.1 W j (jo.2 (by omega));obtain⟨q,s,w⟩:=uo.1 this;simp only[fP]at w;have u:=eG w.1;have c:=eG w.2;obtain⟨a,b⟩:=q;simp only at u c;subst u;subst c;exact s
 ·rw[S];refine Jg fun t ht=>?_;have O:t<n:=jo.1 ht;have hb:Nat.blt t n=true:=by simpa[iW]using O
  rcases GN (v:=jN (kU n k p x).A t) rfl with hu|⟨q,s,rfl,hv⟩
  ·rw[hu];exact kY _
  ·rw[hv,hb];simp only[cond_true];rcases Oj (k:=k) (σ:=dS x.L) (ren:=p.objs.map fun q=>(q.1,q.2.1)) (bV:=p.bV.map (·.1)) (ms:=q.2) (x:=jN x.A q.1)with hw|⟨l,m_,aa,i,hl,hd⟩
   ·exact hw
   ·have:=iA.1 Y q s;rw[hb]at this;simp only[cond_true,hl,i,Gc,hd]at this;cases this
 ·intro q s;have B:=N q s;unfold kU at B;simp only[fA,jE]at B;rcases B with⟨d,o,e⟩|⟨d,o,e⟩
  ·left;simp only[eY]at e;obtain⟨u,c⟩:=e;cases P:dS x.L d.2.1 with
   |none=>
    rw[P]at c;cases c
   |some y=>
    rw[P]at c;refine⟨d.2.1,y,jE.2 ⟨d,o,by rw[<-u]⟩,P,?_⟩;rw[S];have D:JH d.2.2=false->d.2.1∉Ac p.objs:=fun hf H=>by
     unfold Ac at H;obtain⟨J,w,Q⟩:=jE.1 H;obtain⟨I,C⟩:=D7.1 w;have r:=jbn R;rw[uf]at r;have:J=d:=by
      have key:∀{l:List (Nat×Nat×List Md)},(l.map ((fun p:Nat×Nat=>p.2)∘fun q=>(q.1,q.2.1))).Nodup->J∈l->d∈l->J=d:=by
       intro l
       induction l with
       |nil=>intro _ h _;cases h
       |cons z l ih=>
        intro r ha hb;simp only[dX,jW]at r;rcases dY.1 ha with ha|ha
        ·rcases dY.1 hb with hb|hb
         ·rw[ha,hb]
         ·exact absurd (jE.2 ⟨d,hb,by simp only[Function.comp];rw[<-Q,ha]⟩) r.1
        ·rcases dY.1 hb with hb|hb
         ·exact absurd (jE.2 ⟨J,ha,by simp only[Function.comp];rw[Q,hb]⟩) r.1
         ·exact ih r.2 ha hb
      exact key r I o
     subst this;rw[hf]at C;cases C
    cases y with
    |box T l=>
     simp only[rV]at c;split at c
     ·rename_i E _ i;split at c
      ·simp only[bU]at c;exact .inr ⟨rfl,⟨E,by rw[<-c,u]⟩,D (by rw[i];rfl)⟩
      ·cases c
     ·simp only[bU]at c;rw[<-c];exact .inl ⟨_,rfl,sU⟩
    |gF T E l g=>
     simp only[rV]at c;split at c
     ·cases c
     ·rename_i i;simp only[bU]at c;refine⟨by rw[<-c,u],D ?_⟩;cases F:d.2.2 with
      |nil=>rfl
      |cons m ms=>
       cases m
       case f=>exact absurd F (i ms)
       all_goals rfl
    |mp t l=>
     simp only[rV]at c;split at c
     ·cases c
     ·simp only[bU]at c;exact c.symm
    |arr e es l=>
     simp only[rV]at c;split at c
     ·rename_i mask _ _;split at c
      ·cases hb:Nat.ble mask.length es with
       |false=>rw[hb]at c;cases c
       |true=>
        rw[hb]at c;simp only[cond_true,bU]at c;exact .inr ⟨rfl,mask,by rw[<-c,u],iQ hb⟩
      ·cases c
     ·simp only[bU]at c;exact .inl c.symm
    |tab e es mask l g hole=>
     simp only[rV]at c;split at c
     ·rename_i i;split at c
      ·simp only[bU]at c;refine .inr ⟨rfl,c.symm,?_⟩;unfold Ac;exact jE.2 ⟨d,D7.2 ⟨o,by rw[i];rfl⟩,rfl⟩
      ·cases c
     ·rename_i i;simp only[bU]at c;refine .inl ⟨by rw[<-c,u],D ?_⟩;cases F:d.2.2 with
      |nil=>rfl
      |cons m ms=>
       cases m
       case f=>exact absurd F (i ms)
       all_goals rfl
  ·right;simp only[eY,bU]at e;obtain⟨u,c⟩:=e;have:=iA.1 K d o;simp only[fP]at this;refine⟨jE.2 ⟨d,o,u⟩,d.2.1,d.2.2.1,by simpa[iW]using this.2.1,?_⟩;unfold F5 at c;split at c
   ·exact .inl c.symm
   ·rename_i m ms B;refine .inr ⟨m::ms,by rw[<-c,u],?_⟩;rw[<-B];exact iQ this.2.2
 ·intro q s;have:=iA.1 V q s;simpa[iW]using this
 ·intro m B;obtain⟨q,s,rfl⟩:=jE.1 B;have:=iA.1 K q s;simp only[fP]at this;simpa[iW]using this.1.2
end
end
section

def DR(nx o g k j:Nat)(x y:AV):Prop:=y=x \/(x=.row o g k j/\ y=.own nx)

section
variable{cx:Cx}

theorem Cb{κ:dx}{F:Nat->Prop}{w:World}{nx o g k j:Nat}{x y:AV}{v:Value}(h:DR nx o g k j x y)(b:NB (· <nx) x)(a:RV κ F w x v):RV (eO κ nx (kv ((κ g).r k j))) F w y v/\ NB (· <nx+16) y:=by
 have d:∀o,o<nx->eO κ nx (kv ((κ g).r k j)) o=κ o:=fun o c=>by
  have:o≠nx:=by omega
  simp[eO,this]
 rcases h with rfl|⟨rfl,rfl⟩
 ·exact⟨RV.mono (U:=(· <nx)) d (fun _ h=>h) (fun _ _=>rfl) b a,NB.mono (fun o c=>by show o<nx+16;have:o<nx:=c;omega) b⟩
 ·unfold RV at a;refine⟨?_,by unfold NB;show nx<nx+16;omega⟩;unfold RV;simp only[eO,if_true];exact a

theorem Ih{env K:List AV}{σ σ':bJ}{nx o g k j:Nat}{e':TypeId}{es':Nat}{rows:List D}{t:vS}(ht:gM σ o g=some t)(hh:t.hole=none)(hk:k<t.l.length)(hm:dA t.mask j=some e')(hr:dM t.l k j=(es',rows))
  (hl:K.length=env.length) (R:∀s,DR nx o g k j (env.getD s .und) (K.getD s .und))
  (hσ:∀n y,σ' n=some y->(n=nx/\ y=.arr e' es' rows) \/(n≠nx/\ n=o/\ y=.tab t.e t.es t.mask t.l g (some (k,j))) \/
   (n≠nx/\ n≠o/\ (σ n=some y \/∃T l l',σ n=some (.box T l)/\ y=.box T l'/\ l'.length=l.length/\ ∀i,DR nx o g k j (l.getD i .und) (l'.getD i .und)))):
  Wk cx ⟨env,σ,nx⟩ ⟨K,σ',nx+16⟩:=by
 intro κ F a w ak;obtain⟨he,z⟩:=ak;have z:dh cx κ F w (· <nx) σ:=z;have E:=nY ht;rw[hh]at E;have aw:(dA t.mask j).isSome=true:=by rw[hm];rfl
 have S:=z.nb o _ E;have ai:o<nx:=S.1;have ac:g<nx:=S.2;obtain⟨e2,ah,Q,ap,q⟩:=p9 z ht hk aw (by rw[hh];rfl);rw[hm]at ah;cases ah;rw[hr]at Q;rw[hh]at q
 let κ':dx:=eO κ nx (kv ((κ g).r k j))
 have O:∀n,n<nx->κ' n=κ n:=fun n hn=>by
  have:n≠nx:=by omega
  simp[κ',eO,this]
 have am:κ' nx=kv ((κ g).r k j):=by simp[κ',eO]
 have p:eB F w t.e t.es t.mask t.l (κ o).v (κ g).r none:=z.ok o _ E;have C:∀k' j',fU t.mask t.l.length (some (k,j)) k' j'->fU t.mask t.l.length none k' j'/\ (k',j')≠(k,j):=fun k' j' h=>⟨⟨h.1,h.2.1,by simp⟩,fun e=>h.2.2 (by rw[e])⟩;have H:∀n y,σ' n=some y->∀b,dw κ' n y b->(n=nx/\ blk ((κ g).r k j)=some b) \/(n=o/\ n≠nx/\ (blk (κ o).v=some b \/∃k' j',fU t.mask t.l.length none k' j'/\ (k',j')≠(k,j)/\ blk ((κ g).r k' j')=some b)) \/(n≠nx/\ n≠o/\ ∃x,σ n=some x/\ dw κ n x b):=by
  intro n y N b hb;rcases hσ n y N with⟨rfl,rfl⟩|⟨f,rfl,rfl⟩|⟨f,L,A⟩
  ·rcases hb with hb|hb
   ·rw[am]at hb;exact .inl ⟨rfl,hb⟩
   ·exact hb.elim
  ·refine .inr (.inl ⟨rfl,f,?_⟩);rcases hb with hb|⟨k',j',ax,hb⟩
   ·rw[O n ai]at hb;exact .inl hb
   ·rw[O g ac]at hb;obtain⟨q1,V⟩:=C k' j' ax;exact .inr ⟨k',j',q1,V,hb⟩
  ·refine .inr (.inr ⟨f,L,?_⟩);rcases A with A|⟨T,l,l',A,rfl,_,_⟩
   ·have I:=z.nb n y A;exact⟨y,A,hb.pO (U:=(· <nx)) O I.1 I.2⟩
   ·refine⟨_,A,?_⟩;have I:=z.nb n _ A;rcases hb with hb|hb
    ·rw[O n I.1]at hb;exact .inl hb
    ·exact hb.elim
 have X:∀n y,σ' n=some y->∀b,dw κ' n y b->∃J x,σ J=some x/\ dw κ J x b:=by
  intro n y N b hb;rcases H n y N b hb with⟨_,f⟩|⟨_,_,f⟩|⟨_,_,x,f,L⟩
  ·exact⟨o,_,E,.inr ⟨k,j,q,f⟩⟩
  ·refine⟨o,_,E,?_⟩;rcases f with f|⟨k',j',q1,_,V⟩
   ·exact .inl f
   ·exact .inr ⟨k',j',q1,V⟩
  ·exact⟨n,x,f,L⟩
 refine⟨κ',F,fun _ hb=>hb,⟨⟨by rw[he.size];exact hl.symm,he.qp,fun s=>(Cb (R s) (he.nb s) (he.rv s)).1,fun s=>(Cb (R s) (he.nb s) (he.rv s)).2⟩,⟨fun n y N=>?_,fun n y N=>?_,fun n y N b hb=>?_,fun n y J y' N ab M b hb W=>?_,z.fG,z.kB,z.gB,z.bs,z.inv,fun j' ar=>?_⟩⟩⟩
 ·rcases hσ n y N with⟨rfl,rfl⟩|⟨f,rfl,rfl⟩|⟨f,L,A⟩
  ·show iq F w e' es' (κ' n).v rows;rw[am];exact Q
  ·show eB F w t.e t.es t.mask t.l (κ' n).v (κ' g).r (some (k,j));rw[O n ai,O g ac];obtain⟨us,aj,ay,hc⟩:=p.mem;refine⟨p.pos,p.oH,p.cells,⟨us,aj,ay,fun k' d j' c au hd=>?_⟩,fun k1 j1 k2 j2 q1 V M=>p.apart k1 j1 k2 j2 (C _ _ q1).1 (C _ _ V).1 M,fun k1 j1 q1=>p.outer k1 j1 (C _ _ q1).1⟩;obtain⟨x,x1,x2,x3⟩:=hc k' d j' c au hd;refine⟨x,x1,x2,?_⟩;cases af:dA t.mask j' with
   |none=>rw[af]at x3;exact x3
   |some e2=>
    rw[af]at x3;simp only[]at x3 ⊢;rcases x3 with⟨x4,x3|x3⟩
    ·cases x3
    ·exact⟨x4,.inr x3⟩
  ·rcases A with A|⟨T,l,l',A,rfl,ae,Y⟩
   ·have I:=z.nb n y A;exact iH.mono (U:=(· <nx)) O (fun _ hb=>hb) (fun _ _=>rfl) I.1 I.2 (fun _ _=>rfl) (z.ok n y A)
   ·obtain⟨b,arr,k1,k2,k3⟩:=z.ok n _ A;have I:=z.nb n _ A;have aa:bN (· <nx) l:=I.2;have ad:=k3.length;refine⟨b,arr,by rw[O n I.1];exact k1,k2,Dx (by rw[ad,ae]) fun i c hi=>?_⟩;have aq:=(cK.1 hi).1;have B:i<l.length:=by omega
    obtain⟨u,u1,u2,u3⟩:=bQ.at i _ k3 (fO B);have hs:=Y i;rw[dD,dD,hi,fO B]at hs;exact⟨u,u1,u2,(Cb hs (bN.at i _ aa (fO B)) u3).1⟩
 ·rcases hσ n y N with⟨rfl,rfl⟩|⟨f,rfl,rfl⟩|⟨f,L,A⟩
  ·exact⟨by show n<n+16;omega,trivial⟩
  ·exact⟨by show n<nx+16;omega,by show g<nx+16;omega⟩
  ·rcases A with A|⟨T,l,l',A,rfl,ae,Y⟩
   ·have I:=z.nb n y A;refine⟨by show n<nx+16;have:n<nx:=I.1;omega,gG.mono (fun m hm=>by show m<nx+16;have:m<nx:=hm;omega) I.2⟩
   ·have I:=z.nb n _ A;refine⟨by show n<nx+16;have:n<nx:=I.1;omega,yL fun c hc=>?_⟩;obtain⟨i,hi⟩:=jJ hc;have aq:=(cK.1 hi).1;have B:i<l.length:=by omega
    have hs:=Y i;rw[dD,dD,hi,fO B]at hs;have aa:bN (· <nx) l:=I.2;have hx:=bN.at i _ aa (fO B);simp only[rC]at hs;rcases hs with hs|⟨_,hs⟩
    ·rw[hs];exact NB.mono (fun m hm=>by show m<nx+16;have:m<nx:=hm;omega) hx
    ·rw[hs];unfold NB;show nx<nx+16;omega
 ·obtain⟨J,x,f,L⟩:=X n y N b hb;exact z.free J x f b L
 ·rcases H n y N b hb with⟨rfl,f⟩|⟨rfl,_,f⟩|⟨q1,V,x,f,L⟩
  ·rcases H J y' ab b W with⟨rfl,_⟩|⟨rfl,_,G⟩|⟨ao,P,x',G,g2⟩
   ·exact M rfl
   ·rcases G with G|⟨k',j',r1,r2,r3⟩
    ·exact p.outer k j q b f G
    ·exact p.apart k' j' k j r1 q r2 b r3 f
   ·exact z.apart o _ J x' E G (Ne.symm P) b (.inr ⟨k,j,q,f⟩) g2
  ·have hB:dw κ n (.tab t.e t.es t.mask t.l g none) b:=by
    rcases f with f|⟨k',j',r1,_,r3⟩
    ·exact .inl f
    ·exact .inr ⟨k',j',r1,r3⟩
   rcases H J y' ab b W with⟨rfl,G⟩|⟨rfl,_,_⟩|⟨ao,P,x',G,g2⟩
   ·rcases f with f|⟨k',j',r1,r2,r3⟩
    ·exact p.outer k j q b G f
    ·exact p.apart k' j' k j r1 q r2 b r3 G
   ·exact M rfl
   ·exact z.apart n _ J x' E G (Ne.symm P) b hB g2
  ·rcases H J y' ab b W with⟨rfl,G⟩|⟨rfl,_,G⟩|⟨ao,P,x',G,g2⟩
   ·exact z.apart n x o _ f E V b L (.inr ⟨k,j,q,G⟩)
   ·refine z.apart n x J _ f E V b L ?_;rcases G with G|⟨k',j',r1,_,r3⟩
    ·exact .inl G
    ·exact .inr ⟨k',j',r1,r3⟩
   ·exact z.apart n x J x' f G M b L g2
 ·have Z:=z.lt j' ar;exact⟨by show j'<nx+16;have:j'<nx:=Z.1;omega,by rw[O j' Z.1];exact Z.2⟩
end

def BD(n:Nat)(x:X):Loc->AV
 | .s t=>bif Nat.blt t n then jN x.A t else .und
 | .c b i=>match dS x.L b with
  |some (.box _ l)=>l.getD i .und
  |_=>.und
def uN(n:Nat)(lc:Loc)(d:D)(x:X):Option (List Prop×X):=
 match BD n x lc with
 | .row o g k j=>
  match gM (dS x.L) o g with
  |some a=>
   match a.hole,dA a.mask j with
   |none,some e'=>
    let M:=(x.nx,some (.arr e' (gK d j).1 (gK d j).2))::(o,some (.tab a.e a.es a.mask a.l g (some (k,j))))::x.L
    match lc with
    | .s t=>some ([a.l[k]? =some d],⟨(t,.own x.nx)::x.A,M,x.nx+16⟩)
    | .c b i=>match dS x.L b with
     |some (.box T l)=>bif Nat.blt b x.nx then some ([a.l[k]? =some d],⟨x.A,(b,some (.box T (l.set i (.own x.nx))))::M,x.nx+16⟩)else none
     |_=>none
   |_,_=>none
  |none=>none
 |_=>none

theorem xA(L:List (Nat×Option bH))(o:Nat)(x:Option bH)(n:Nat):dS ((o,x)::L) n=if n=o then x else dS L n:=by
 show(bif Nat.beq n o then x else dS L n)=_;by_cases h:n=o
 ·subst h;simp
 ·have:Nat.beq n o=false:=by
   cases hb:Nat.beq n o with
   |true=>exact absurd (eG hb) h
   |false=>rfl
  rw[this,if_neg h];rfl

theorem Ga{cx:Cx}{n:Nat}(lc:Loc)(B:D){x x':X}{ps:List Prop}(hs:uN n lc B x=some (ps,x'))(H:iJ ps):Wk cx (x.st n) (x'.st n):=by
 unfold uN at hs;split at hs
 ·rename_i o g k j d;split at hs
  ·rename_i G w;split at hs
   ·rename_i e' p r;have fin:G.l[k]? =some B->k<G.l.length/\ dM G.l k j=((gK B j).1,(gK B j).2):=fun h=>by
     refine⟨(cK.1 h).1,?_⟩;unfold dM;rw[dD,h];rfl
    split at hs
    ·rename_i t;cases hs;cases H with
     |cons c _=>
      obtain⟨C,E⟩:=fin c;refine Ih w p C r E (by simp[iC]) (fun s=>?_) (fun m y a=>?_)
      ·rw[tK,tK];cases hb:Nat.blt s n with
       |false=>exact .inl rfl
       |true=>
        simp only[cond_true];by_cases A:s=t
        ·subst A;right;simp only[BD,hb,cond_true]at d;exact⟨d,by show(bif Nat.beq s s then _ else _)=_;simp⟩
        ·left;rw[H7,if_neg A]
      ·rw[xA,xA]at a;by_cases c:m=x.nx
       ·rw[if_pos c]at a;exact .inl ⟨c,(gT a).symm⟩
       ·rw[if_neg c]at a;by_cases u:m=o
        ·rw[if_pos u]at a;exact .inr (.inl ⟨c,u,(gT a).symm⟩)
        ·rw[if_neg u]at a;exact .inr (.inr ⟨c,u,.inl a⟩)
    ·rename_i b i;split at hs
     ·rename_i T l f;cases v:Nat.blt b x.nx with
      |false=>rw[v]at hs;cases hs
      |true=>
       rw[v]at hs;cases hs;cases H with
       |cons c _=>
        obtain⟨C,E⟩:=fin c;have J:b<x.nx:=by simpa[iW]using v
        have F:b≠o:=fun e=>by
         subst e;have:=nY w;rw[f]at this;cases this
        refine Ih w p C r E rfl (fun s=>.inl rfl) (fun m y a=>?_);rw[xA,xA,xA]at a;by_cases h0:m=b
        ·rw[if_pos h0]at a;refine .inr (.inr ⟨by omega,by rw[h0];exact F,.inr ⟨T,l,_,by rw[h0];exact f,(gT a).symm,by simp,fun q=>?_⟩⟩);simp only[BD,f]at d;by_cases I:q=i
         ·subst I;by_cases z:q<l.length
          ·right;refine⟨d,?_⟩;rw[dD,j6 z];rfl
          ·left;rw[Ar (qw z)]
         ·left;rw[dD,iN (Ne.symm I),<-dD]
        ·rw[if_neg h0]at a;by_cases c:m=x.nx
         ·rw[if_pos c]at a;exact .inl ⟨c,(gT a).symm⟩
         ·rw[if_neg c]at a;by_cases u:m=o
          ·rw[if_pos u]at a;exact .inr (.inl ⟨c,u,(gT a).symm⟩)
          ·rw[if_neg u]at a;exact .inr (.inr ⟨c,u,.inl a⟩)
     ·cases hs
   ·cases hs
  ·cases hs
 ·cases hs
end
section

def Bp:List (Nat×List Md)->Nat->List Md
 |[],_=>[]
 |(a,m)::r,t=>bif Nat.beq a t then m else Bp r t
def wK(rs:List (Nat×List Md)):List (Nat×Option bH)->List Nat->List Nat->List (Nat×Nat×List Md)
 |[],_,_=>[]
 |(o,x)::r,seen,no=>bif ko o seen then wK rs r seen no else match x with
  |some _=>bif ko o no then wK rs r (o::seen) no else(o,o,Bp rs o)::wK rs r (o::seen) no
  |none=>wK rs r (o::seen) no
def DK(os:List Nat)(ms rs:List (Nat×List Md))(x:X):WP:=⟨x.A.map fun q=>(q.1,Bp ms q.1),wK rs x.L [] os,[],x.nx⟩

def qC(fk:Option Nat)(n i:Nat)(hs:List (Nat×H))(x:X):Option (List Prop×X×List (Nat×H)):=
 match hs with
 |(j,.fz os ms rs)::r=>bif Nat.beq j i then
   match fk with
   |some k=>bif mZ n k (DK os ms rs x) x then some ([],kU n k (DK os ms rs x) x,r)else none
   |none=>none
  else some ([],x,hs)
 |(j,.st lc a)::r=>bif Nat.beq j i then
   match fk with
   |some _=>match uN n lc a x with
    |some (ps,x')=>some (ps,x',r)
    |none=>none
   |none=>none
  else some ([],x,hs)
 |_=>some ([],x,hs)

def fC(fk:Option Nat)(chk:Nat->Oper->X->Bool)(ty:TypeId->Option bD)(Γ:Nat->Option dJ)(ops:List Oper)(n:Nat):List Oper->Nat->List (Nat×H)->X->Option (List Prop×X)
 |[],_,hs,x=>bif uO hs then some ([],x)else none
 |o::r,i,a,b=>
  match qC fk n i a b with
  |none=>none
  |some (p0,x,hs)=>
  bif chk i o x then
   match sP ops n x.A o.guard with
   |none=>none
   |some false=>match fC fk chk ty Γ ops n r (i+1) (Bl i hs).2 ⟨mG x.A o.dst .und,x.L,x.nx+16⟩with
    |none=>none
    |some (qs,x')=>some (p0++qs,x')
   |some true=>
    match BH ty Γ (dS x.L) (jB n x.A) x.nx o (Bl i hs).1 with
    |none=>none
    |some (ps,av,δ)=>
     match fC fk chk ty Γ ops n r (i+1) (Bl i hs).2 ⟨mG x.A o.dst av,Ah δ x.L,x.nx+16⟩with
     |none=>none
     |some (qs,x')=>some (p0++(ps++qs),x')
  else none

section
variable{P:Program}{cx:Cx}{ty:TypeId->Option bD}{Γ:Nat->Option dJ}

theorem I4{n i:Nat}{hs a:List (Nat×H)}{p0:List Prop}{x x':X}(h:qC none n i hs x=some (p0,x',a)):x'=x/\ p0=[]:=by
 unfold qC at h;split at h
 ·rename_i j os ms rs r;cases hb:Nat.beq j i with
  |true=>rw[hb]at h;cases h
  |false=>rw[hb]at h;cases h;exact⟨rfl,rfl⟩
 ·rename_i j lc b r;cases hb:Nat.beq j i with
  |true=>rw[hb]at h;cases h
  |false=>rw[hb]at h;cases h;exact⟨rfl,rfl⟩
 ·cases h;exact⟨rfl,rfl⟩
theorem OL{k n i:Nat}(e:cx.L=k){hs b:List (Nat×H)}{p0:List Prop}{x x':X}(h:qC (some k) n i hs x=some (p0,x',b))(f:iJ p0):Wk cx (x.st n) (x'.st n):=by
 unfold qC at h;split at h
 ·rename_i j os ms rs r;cases hb:Nat.beq j i with
  |true=>
   rw[hb]at h;simp only[cond_true]at h;cases a:mZ n k (DK os ms rs x) x with
   |true=>
    rw[a]at h;cases h;exact JU e _ a
   |false=>rw[a]at h;cases h
  |false=>rw[hb]at h;cases h;exact Wk.refl _
 ·rename_i j lc d r;cases hb:Nat.beq j i with
  |true=>
   rw[hb]at h;simp only[cond_true]at h;split at h
   ·rename_i ps g c;cases h;exact Ga lc d c f
   ·cases h
  |false=>rw[hb]at h;cases h;exact Wk.refl _
 ·cases h;exact Wk.refl _

theorem zH(u:∀t x,ty t=some x->bS P t x)(G:∀f S,Γ f=some S->FnOK P cx.J f S){k n:Nat}(T:cx.L=k){chk:Nat->Oper->X->Bool}{ops:List Oper}{Q:Exit->Act->World->Prop}:
  ∀(l:List Oper)(i:Nat)(hs:List (Nat×H))(x x':X)(ps:List Prop)(κ:dx)(F:Nat->Prop)(a:Act)(w:World),fC (some k) chk ty Γ ops n l i hs x=some (ps,x')->iJ ps->Rel cx κ F (x.st n) a w->
   (∀κ' F' a' w',(∀b,F b->F' b)->Wy cx F w w'->Rel cx κ' F' (x'.st n) a' w'->Q .normal a' w')->wpList P ops.toArray Q l a w
 |[],i,hs,x,x',ps,κ,F,a,w,h,s,E,D=>by
  unfold fC at h;cases hb:uO hs with
  |false=>rw[hb]at h;cases h
  |true=>
   rw[hb]at h;cases h;exact wpList_nil (D κ F a w (fun _ h=>h) (Wx.refl _ _) E)
 |o::r,i,Z,x0,x',ps,κ0,F0,a,w,h,s,Y,D=>by
  unfold fC at h;cases p:qC (some k) n i Z x0 with
  |none=>rw[p]at h;cases h
  |some xh=>
   obtain⟨p0,x,hs⟩:=xh;rw[p]at h;simp only[]at h;have U:iJ p0:=by
    cases g:chk i o x with
    |false=>rw[g]at h;cases h
    |true=>
     rw[g]at h;simp only[cond_true]at h;split at h
     ·cases h
     ·split at h
      ·cases h
      ·cases h;exact s.app.1
     ·split at h
      ·cases h
      ·split at h
       ·cases h
       ·cases h;exact s.app.1
   obtain⟨κ,F,d,E⟩:=OL T p U κ0 F0 a w Y;have y:jI cx κ F (· <x.nx) (iC n x.A) (dS x.L) a w:=⟨E.env,E.gP⟩;have z:(Un (· <x.nx) x.nx)=(· <x.nx+16):=by funext m;simp only[Un,eq_iff_iff];omega
   cases g:chk i o x with
   |false=>rw[g]at h;cases h
   |true=>
    rw[g]at h;simp only[cond_true]at h;refine wpList_step fun K hK=>?_;cases C:sP ops n x.A o.guard with
    |none=>rw[C]at h;cases h
    |some b=>
     rw[C]at h;cases b with
     |true=>
      simp only[]at h;split at h
      ·cases h
      ·rename_i ab av δ aa;split at h
       ·cases h
       ·rename_i qs x2 q;cases h;obtain⟨_,s⟩:=s.app;obtain⟨V,W⟩:=s.app;refine zU u G y (nm:=x.nx) (K:=fun e B=>e=av/\ B=δ) (fun j _=>by omega) (wX C (fun _=>DC aa V ⟨rfl,rfl⟩) (nofun)) ?_;rintro e B v κ' F' w' ⟨rfl,rfl⟩ hF hw c;refine hK _ _ (zH u G T r _ _ _ _ _ κ' F' _ _ q W ?_ ?_)
        ·rw[qd,y8,z]at c;exact⟨c.env,c.gP⟩
        ·intro κ2 I M w2 N O R;exact D κ2 I M w2 (fun b hb=>N b (hF b (d b hb))) (Wx.trans (hw.mono fun b hb=>hb.imp (d b) id) O (fun b hb=>hb.imp (fun hb=>hF b (d b hb)) id)) R
     |false=>
      simp only[]at h;split at h
      ·cases h
      rename_i qs x2 q;cases h;obtain⟨_,s⟩:=s.app;refine zU u G y (nm:=x.nx) (K:=fun e B=>e=.und/\ B=[]) (fun j _=>by omega) (wX C (nofun) (fun _=>⟨rfl,rfl⟩)) ?_;rintro e B v κ' F' w' ⟨rfl,rfl⟩ hF hw c;refine hK _ _ (zH u G T r _ _ _ _ _ κ' F' _ _ q s ?_ ?_)
      ·rw[qd,z]at c;exact⟨c.env,c.gP⟩
      ·intro κ2 I M w2 N O R;exact D κ2 I M w2 (fun b hb=>N b (hF b (d b hb))) (Wx.trans (hw.mono fun b hb=>hb.imp (d b) id) O (fun b hb=>hb.imp (fun hb=>hF b (d b hb)) id)) R

theorem Dk{M:Nat->List Nat}{chk:Nat->Oper->X->Bool}{ops:List Oper}{n:Nat}{K:List AV->bJ->Nat->Prop}(a:∀i o (x:X),chk i o x=true->gX ty Γ ops.toArray M i o (iC n x.A) (dS x.L)):∀(l:List Oper)(i:Nat)(hs:List (Nat×H))(x x':X)(ps:List Prop),fC none chk ty Γ ops n l i hs x=some (ps,x')->iJ ps->K (iC n x'.A) (dS x'.L) x'.nx->
  yg ty Γ ops.toArray M K l i x.nx (iC n x.A) (dS x.L)
 |[],i,hs,x,x',ps,h,g,hK=>by
  unfold fC at h;cases hb:uO hs with
  |false=>rw[hb]at h;cases h
  |true=>
   rw[hb]at h;cases h;exact hK
 |o::r,i,p,u,x',ps,h,g,hK=>by
  unfold fC at h;cases c:qC none n i p u with
  |none=>rw[c]at h;cases h
  |some w=>
   obtain⟨p0,x,hs⟩:=w;rw[c]at h;obtain⟨s,j⟩:=I4 c;subst s;subst j;simp only[jD]at h;cases e:chk i o x with
   |false=>rw[e]at h;cases h
   |true=>
    rw[e]at h;simp only[cond_true]at h;refine⟨a _ _ _ e,?_⟩;cases f:sP ops n x.A o.guard with
    |none=>rw[f]at h;cases h
    |some b=>
     rw[f]at h;refine wX f (fun hb=>?_) (fun hb=>?_)
     ·subst hb;simp only[]at h;split at h
      ·cases h
      ·rename_i t av δ q;split at h
       ·cases h
       ·rename_i qs v d;cases h;obtain⟨k,m⟩:=g.app;refine DC q k ?_;rw[qd,y8];exact Dk a r _ _ _ _ _ d m hK
     ·subst hb;simp only[]at h;split at h
      ·cases h
      rename_i qs v d;cases h;rw[qd];exact Dk a r _ _ _ _ _ d g hK

def iM(_:Nat)(_:Oper)(_:X):Bool:=true
def mU:List (Nat×List Nat)->Nat->List Nat
 |[],_=>[]
 |(a,m)::r,k=>bif Nat.beq a k then m else mU r k
def og(ty:TypeId->Option bD)(Γ:Nat->Option dJ)(ops:List Oper)(n:Nat)(M:List (Nat×List Nat))(i:Nat)(o:Oper)(x:X):Bool:=
 match iO ty Γ o with
 |true=>((fQ (dS x.L) (jB n x.A) o).all fun m=>ko m (mU M i)||(ko m (lV Γ (dS x.L) (jB n x.A) o)&&(List.range ops.length).all fun k=>Nat.beq k i|| !((ops[k]?).any (iO ty Γ))|| !ko m (mU M k)||kC ops.toArray i k))&&(mU M (i+10000)).all fun q=>ko q (oJ Γ (dS x.L) (jB n x.A) o)
 |false=>(List.range ops.length).all fun k=>Nat.beq k i|| !((ops[k]?).any (iO ty Γ))||((fQ (dS x.L) (jB n x.A) o).all fun m=> !ko m (mU M k))||kC ops.toArray i k||qG ty (jB n x.A) (mU M) k o
theorem Ox{ops:List Oper}{n:Nat}{M:List (Nat×List Nat)}{i:Nat}{o:Oper}{x:X}(h:og ty Γ ops n M i o x=true):gX ty Γ ops.toArray (mU M) i o (iC n x.A) (dS x.L):=by
 unfold og at h;unfold gX;rw[wS]at h;cases l:iO ty Γ o with
 |true=>
  rw[l]at h;simp only[fP]at h;refine⟨fun m b=>?_,fun q r=>wV (iA.1 h.2 q r)⟩;have h1:=iA.1 h.1 m b;rw[mF,fP]at h1;rcases h1 with h1|⟨h1,p⟩
  ·exact .inl (wV h1)
  ·refine .inr ⟨wV h1,fun k ok j e f g c=>?_⟩;have a:ops[k]? =some ok:=by simpa using j
   have d:k<ops.length:=(cK.1 a).1;have:=iA.1 p k (jo.2 d);simp only[mF,a,xQ,e,fT,g,or_false,bW]at this;rcases this with h1|h1
   ·exact f (eG h1)
   ·simp only[mO]at h1;exact tC h1 c
 |false=>
  rw[l]at h;simp only[]at h;intro k ok j e f g m b;have a:ops[k]? =some ok:=by simpa using j
  have d:k<ops.length:=(cK.1 a).1;have:=iA.1 h k (jo.2 d);simp only[mF,a,xQ,e,fT,g,or_false,bW]at this;rcases this with(h1|h1)|h1
  ·exact absurd (eG h1) f
  ·have:=iA.1 h1 m b;simp only[mO]at this;exact .inl fun c=>tC this c
  ·exact .inr h1

end

def rP(r:Option (List Prop×X)):Option (List Prop):=r.map (·.1)
def rX(r:Option (List Prop×X)):X:=match r with
 |some (_,x)=>x
 |none=>⟨[],[],0⟩

section
variable{P:Program}{cx:Cx}{ty:TypeId->Option bD}{Γ:Nat->Option dJ}{Q:Exit->St->Prop}

theorem Br(c:∀t x,ty t=some x->bS P t x)(p:∀f S,Γ f=some S->FnOK P cx.J f S){k:Nat}(j:cx.L=k){id n:Nat}{l:List Oper}{x:X}(hs:List (Nat×H)){ps:List Prop}(m:iJ ps)
  (h:rP (fC (some k) iM ty Γ l n l 0 hs x)=some ps) (d:Q .normal ((rX (fC (some k) iM ty Γ l n l 0 hs x)).st n)):Ok P cx (.region id l.toArray false) Q (x.st n):=by
 cases b:fC (some k) iM ty Γ l n l 0 hs x with
 |none=>rw[b]at h;cases h
 |some r=>
  obtain⟨q,x'⟩:=r;rw[b]at h d;cases h;intro κ F a w o;refine wp_region_lit (zH c p j l 0 hs x x' _ κ F a w b m o ?_);intro κ' F' a' w' e g i;exact⟨κ',F',x'.st n,d,e,g,i⟩
theorem IX(a:∀t x,ty t=some x->bS P t x)(g:∀f S,Γ f=some S->FnOK P cx.J f S){k:Nat}(b:cx.L=k){id n:Nat}{l:List Oper}{x:X}{c:Code}(hs:List (Nat×H)){ps:List Prop}(d:iJ ps)
  (h:rP (fC (some k) iM ty Γ l n l 0 hs x)=some ps) (e:Ok P cx c Q ((rX (fC (some k) iM ty Γ l n l 0 hs x)).st n)):Ok P cx (.seq (.region id l.toArray false) c) Q (x.st n):=
 jab (Br a g b hs d h e)

theorem Gt(e:P.follows .mixedOrders=true)(b:∀t x,ty t=some x->bS P t x)(j:∀f S,Γ f=some S->FnOK P cx.J f S)(d:Live Γ){id n:Nat}{l:List Oper}{x:X}(M:List (Nat×List Nat))(hB:(Region.lexB .any l.toArray&&uI ty Γ (mU M) l.toArray)=true)(hs:List (Nat×H)){ps:List Prop}(g:iJ ps)
  (h:rP (fC none (og ty Γ l n M) ty Γ l n l 0 hs x)=some ps) (c:Q .normal ((rX (fC none (og ty Γ l n M) ty Γ l n l 0 hs x)).st n)):Ok P cx (.region id l.toArray true) Q (x.st n):=by
 simp only[fP]at hB;cases a:fC none (og ty Γ l n M) ty Γ l n l 0 hs x with
 |none=>rw[a]at h;cases h
 |some r=>
  obtain⟨k,x'⟩:=r;rw[a]at h c;cases h;refine jup e b j d (mU M) hB.1 hB.2 ?_;exact Dk (fun i o A=>Ox) l 0 hs x x' _ a g c
theorem Rc(e:P.follows .mixedOrders=true)(a:∀t x,ty t=some x->bS P t x)(i:∀f S,Γ f=some S->FnOK P cx.J f S)(d:Live Γ){id n:Nat}{l:List Oper}{x:X}{c:Code}(M:List (Nat×List Nat))(hB:(Region.lexB .any l.toArray&&uI ty Γ (mU M) l.toArray)=true)(hs:List (Nat×H)){ps:List Prop}(g:iJ ps)
  (h:rP (fC none (og ty Γ l n M) ty Γ l n l 0 hs x)=some ps) (b:Ok P cx c Q ((rX (fC none (og ty Γ l n M) ty Γ l n l 0 hs x)).st n)):Ok P cx (.seq (.region id l.toArray true) c) Q (x.st n):=
 jab (Gt e a i d M hB hs g h b)

theorem PI(E:∀t x,ty t=some x->bS P t x)(N:∀f S,Γ f=some S->FnOK P cx.J f S){id n:Nat}{l:List Oper}{x:X}{c:Code}(m:Nat){ds:List D}(hs:List (Nat×H)){ps:List Prop}(q:iJ ps)
  (h:rP (fC none iM ty Γ l n (l.take m) 0 hs x)=some ps) {o:Oper} (I:l.drop m=[o]) (k:o.guard=none)
  {es:Nat} (g:spec ty Γ (dS (rX (fC none iM ty Γ l n (l.take m) 0 hs x)).L) (jB n (rX (fC none iM ty Γ l n (l.take m) 0 hs x)).A) (rX (fC none iM ty Γ l n (l.take m) 0 hs x)).nx o=oL false (.dat (.sl es ds)))
  (v:∀b:Bool,(ds≠[]->b=false)->Ok P cx c Q ((⟨mG (rX (fC none iM ty Γ l n (l.take m) 0 hs x)).A o.dst (.dat (.sc (.bool b))),(rX (fC none iM ty Γ l n (l.take m) 0 hs x)).L,(rX (fC none iM ty Γ l n (l.take m) 0 hs x)).nx+16⟩:X).st n)):Ok P cx (.seq (.region id l.toArray false) c) Q (x.st n):=by
 refine jab (PE E N ?_);cases u:fC none iM ty Γ l n (l.take m) 0 hs x with
 |none=>rw[u]at h;cases h
 |some r=>
  obtain⟨O,x'⟩:=r;rw[u]at h v g;cases h;have key:∀(s:List Oper)(i:Nat)(hs:List (Nat×H))(x x':X)(ps:List Prop),fC none iM ty Γ l n s i hs x=some (ps,x')->iJ ps->∀{K:List AV->bJ->Nat->Prop},uP ty Γ l.toArray K [o] x'.nx (iC n x'.A) (dS x'.L)->uP ty Γ l.toArray K (s++[o]) x.nx (iC n x.A) (dS x.L):=by
   intro s
   induction s with
   |nil=>
    intro i hs x x' ps h q K hK;unfold fC at h;cases hb:uO hs with
    |false=>rw[hb]at h;cases h
    |true=>rw[hb]at h;cases h;exact hK
   |cons p r F=>
    intro i B U x' ps h q K hK;unfold fC at h;cases a:qC none n i B U with
    |none=>rw[a]at h;cases h
    |some W=>
     obtain⟨p0,x,hs⟩:=W;rw[a]at h;obtain⟨M,w⟩:=I4 a;subst M;subst w;simp only[iM,cond_true,jD]at h;show(gL ty Γ l.toArray (dS x.L) (iC n x.A) x.nx p).T _;cases k:sP l n x.A p.guard with
     |none=>rw[k]at h;cases h
     |some b=>
      rw[k]at h;refine wX k (fun hb=>?_) (fun hb=>?_)
      ·subst hb;simp only[]at h;split at h
       ·cases h
       ·rename_i R av δ C;split at h
        ·cases h
        ·rename_i qs V e;cases h;obtain⟨y,z⟩:=q.app;refine DC C y ?_;rw[qd,y8];exact F _ _ _ _ _ e z hK
      ·subst hb;simp only[]at h;split at h
       ·cases h
       rename_i qs V e;cases h;rw[qd];exact F _ _ _ _ _ e q hK
  have G:l=l.take m++[o]:=by rw[<-I,l9]
  suffices hh:uP ty Γ l.toArray (fun env σ m=>Then (Ok P cx c Q) Q .normal ⟨env,σ,m⟩) (l.take m++[o]) x.nx (iC n x.A) (dS x.L)by
   rw[<-G]at hh;exact hh
  refine key _ _ _ _ _ _ u q ?_;show(gL ty Γ l.toArray (dS x'.L) (iC n x'.A) x'.nx o).T _;refine wX (b:=true) (by unfold sP;rw[k]) (fun _=>?_) (nofun);have j:spec ty Γ (dS x'.L) (jB n x'.A) x'.nx o=oL false (.dat (.sl es ds)):=g;rw[j];cases ds with
  |nil=>
   refine⟨trivial,?_⟩;rintro av δ ⟨rfl,b,rfl,hb⟩;have:=v b hb;show Then (Ok P cx c Q) Q .normal ⟨gN (iC n x'.A) o.dst _,dS x'.L,x'.nx+16⟩;rw[qd,Bool.bne_false];exact this
  |cons d r=>
   refine⟨trivial,?_⟩;have:=v false (fun _=>rfl);show Then (Ok P cx c Q) Q .normal ⟨gN (iC n x'.A) o.dst _,dS x'.L,x'.nx+16⟩;rw[qd];exact this
end
end
section

inductive Lp(A B:Type) where
 |nx (a:A)
 |dn (b:B)
inductive Fl(R V:Type) where
 |ret (r:R)
 |go (a:V)

def lI{A B:Type}(step:A->Option (Lp A B)):Nat->A->Option B
 |0,_=>none
 |n+1,a=>match step a with
  |none=>none
  |some (.nx a')=>lI step n a'
  |some (.dn b)=>some b
theorem Dq{A B:Type}{step:A->Option (Lp A B)}{b:B}:∀{n m:Nat}{a:A},n<=m->lI step n a=some b->lI step m a=some b
 |0,m,a,_,h=>by cases h
 |n+1,0,a,h,_=>by omega
 |n+1,m+1,a,c,h=>by
  unfold lI at h ⊢;cases hs:step a with
  |none=>rw[hs]at h;cases h
  |some r=>
   rw[hs]at h;cases r with
   |nx a'=>exact Dq (Nat.le_of_succ_le_succ c) h
   |dn d=>exact h
open Classical in
noncomputable def iter{A B:Type}(step:A->Option (Lp A B))(a:A):Option B:=
 if h:∃n b,lI step n a=some b then lI step h.choose a else none
theorem C8{A B:Type}{step:A->Option (Lp A B)}{a:A}{b:B}:iter step a=some b↔∃n,lI step n a=some b:=by
 unfold iter;constructor
 ·intro h;split at h
  ·exact⟨_,h⟩
  ·cases h
 ·rintro⟨n,h⟩;have d:∃n b,lI step n a=some b:=⟨n,b,h⟩;rw[dif_pos d];obtain⟨e,c⟩:=d.choose_spec;rcases Nat.le_total n d.choose with hl|hl
  ·exact Dq hl h
  ·have:=Dq hl c;rw[h]at this;cases this;exact c
theorem Cn{A B:Type}(step:A->Option (Lp A B))(a:A):iter step a=match step a with
  |none=>none
  |some (.nx a')=>iter step a'
  |some (.dn b)=>some b:=by
 apply Option.ext;intro b;rw[C8];cases hs:step a with
 |none=>
  constructor
  ·rintro⟨n,h⟩;cases n with
   |zero=>cases h
   |succ n=>unfold lI at h;rw[hs]at h;cases h
  ·intro h;cases h
 |some r=>
  cases r with
  |nx a'=>
   simp only[C8];constructor
   ·rintro⟨n,h⟩;cases n with
    |zero=>cases h
    |succ n=>unfold lI at h;rw[hs]at h;exact⟨n,h⟩
   ·rintro⟨n,h⟩;exact⟨n+1,by unfold lI;rw[hs];exact h⟩
  |dn c=>
   simp only[];constructor
   ·rintro⟨n,h⟩;cases n with
    |zero=>cases h
    |succ n=>unfold lI at h;rw[hs]at h;exact h
   ·intro h;exact⟨1,by unfold lI;rw[hs];exact h⟩
theorem jgd{A B:Type}{step:A->Option (Lp A B)}{a a':A}(h:step a=some (.nx a')):iter step a=iter step a':=by rw[Cn,h]
theorem je5{A B:Type}{step:A->Option (Lp A B)}{a:A}{b:B}(h:step a=some (.dn b)):iter step a=some b:=by rw[Cn,h]

def chk(p:Prop)[Decidable p]:Option Unit:=if p then some ()else none
def idx{α:Type}(l:List α)(i:Int):Option α:=if 0<=i then l[i.toNat]? else none

theorem jaf{α β:Type}{m:Option α}{f:α->Option β}{y:β}(h:m.bind f=some y):∃x,m=some x/\ f x=some y:=by
 cases m with
 |none=>cases h
 |some x=>exact⟨x,rfl,h⟩
theorem ob2{α β γ:Type}{m:Option α}{k:α->Option β}{f:α->β->Option γ}{y:γ}(h:(m.bind fun x=>(k x).bind (f x))=some y):∃x,m=some x/\ ∃z,k x=some z/\ f x z=some y:=by
 obtain⟨x,a,b⟩:=jaf h;obtain⟨z,c,d⟩:=jaf b;exact⟨x,a,z,c,d⟩
theorem ob3{α β γ δ:Type}{m:Option α}{k:α->Option β}{l:α->β->Option γ}{f:α->β->γ->Option δ}{y:δ}(h:(m.bind fun x=>(k x).bind fun z=>(l x z).bind (f x z))=some y):∃x,m=some x/\ ∃z,k x=some z/\ ∃u,l x z=some u/\ f x z u=some y:=by
 obtain⟨x,a,b⟩:=jaf h;obtain⟨z,c,d⟩:=jaf b;obtain⟨u,e,g⟩:=jaf d;exact⟨x,a,z,c,u,e,g⟩
theorem ku{p:Prop}[Decidable p]{u:Unit}(h:chk p=some u):p:=by
 unfold chk at h;split at h
 ·assumption
 ·cases h
theorem Bw{α:Type}{l:List α}{i:Int}{x:α}(h:idx l i=some x):0<=i/\ l[i.toNat]? =some x:=by
 unfold idx at h;split at h
 ·exact⟨‹_›,h⟩
 ·cases h
theorem ju1{α:Type}{f:α->D}{l:List α}{i:Int}{x:α}(h:idx l i=some x):0<=i/\ (l.map f)[i.toNat]? =some (f x):=by
 obtain⟨a,b⟩:=Bw h;exact⟨a,by rw[lu,b];rfl⟩
theorem jbo{α:Type}{f:α->D}{l:List α}{i:Int}{x:α}(h:idx l i=some x):(l.map f)[i.toNat]? =some (f x):=(ju1 h).2
theorem jkc{α:Type}{f:α->D}{l:List α}{i:Int}{x:α}(h:idx l i=some x):0<=i/\ i<((l.map f).length:Int):=by
 obtain⟨a,b⟩:=Bw h;have:=(cK.1 b).1;rw[iy];exact⟨a,by omega⟩
theorem w9{α:Type}{l:List α}{i:Int}{x y:α}(h:idx l i=some x):idx (l.set i.toNat y) i=some y:=by
 obtain⟨a,b⟩:=Bw h;have:=(cK.1 b).1;unfold idx;rw[if_pos a,j6 this]
theorem BA{α:Type}(f:α->D)(l:List α):(((l.map f).length:Nat):Int)=(l.length:Int):=by rw[iy]
theorem je1{α:Type}(f:α->D)(l:List α)(i:Nat)(x:α):(l.map f).set i (f x)=(l.set i x).map f:=by rw[List.map_set]
theorem Gd{α:Type}(f:α->D)(l r:List α):l.map f++r.map f=(l++r).map f:=by rw[oD]
theorem jma{α:Type}(f:α->D)(n:Nat)(x:α):List.replicate n (f x)=(List.replicate n x).map f:=by rw[List.map_replicate]
theorem OC{α:Type}(f:α->D)(l:List α)(i:Nat):(l.map f).drop i=(l.drop i).map f:=by rw[List.map_drop]
theorem NW{α:Type}(f:α->D)(l:List α)(i j:Nat):((l.map f).take j).drop i=((l.take j).drop i).map f:=by rw[List.map_drop,List.map_take]
theorem it{β:Type}{b:Bool}{x z:Option β}{y:β}(hb:b=true)(h:(if b=true then x else z)=some y):x=some y:=by rw[if_pos hb]at h;exact h
theorem ie{β:Type}{b:Bool}{x z:Option β}{y:β}(hb:b=false)(h:(if b=true then x else z)=some y):z=some y:=by rw[if_neg (by simp[hb])]at h;exact h

section
variable{P:Program}{cx:Cx}{Q:Exit->St->Prop}{n:Nat}{x:X}

theorem yU{c:Operand}{t e:Code}(b:Bool)(hc:jB n x.A c=.dat (.sc (.bool b)))(d:b=true->Ok P cx t Q (x.st n))(a:b=false->Ok P cx e Q (x.st n)):Ok P cx (.cond c t e) Q (x.st n):=
 Ol b (by rw[<-hc,wS];rfl) d a
theorem jae(h:Q .normal (x.st n)):Ok P cx .skip Q (x.st n):=Om h

theorem jvh{V:Type}(S:V->X)(v:V){st:St}{c y:Code}(a:Ok P cx c (Then (fun s=>Wk cx s ((S v).st n)) Q) st)(b:Ok P cx y Q ((S v).st n)):Ok P cx (.seq c y) Q st:=by
 refine jab (Ok.mono a ?_);intro e s h;cases e with
 |normal=>exact jah h b
 |_=>exact h
theorem Oo{R V:Type}(S:V->X)(v:Fl R V){st:St}{c y:Code}(a:Ok P cx c (Then (fun s=>∃u,v=.go u/\ Wk cx s ((S u).st n)) Q) st)(b:∀u,v=.go u->Ok P cx y Q ((S u).st n)):Ok P cx (.seq c y) Q st:=by
 refine jab (Ok.mono a ?_);intro e s h;cases e with
 |normal=>
  obtain⟨u,d,f⟩:=h;exact jah f (b u d)
 |_=>exact h

theorem Ob{A B:Type}{step:A->Option (Lp A B)}(S:A->X){g:A}{b:B}(o:iter step g=some b){st:St}(p:Wk cx st ((S g).st n)){c:Code}
  (f:∀a r,step a=some r->(∀i,r=.dn i->i=b)->Ok P cx c (Then (fun s=>∃a',r=.nx a'/\ Wk cx s ((S a').st n)) Q) ((S a).st n)):Ok P cx (.loop c) Q st:=by
 obtain⟨k,l⟩:=C8.1 o;refine Ry (fun m s=>∃a,lI step m a=some b/\ s=(S a).st n) k ⟨_,p,g,l,rfl⟩ ?_;rintro m s ⟨a,d,rfl⟩;cases m with
 |zero=>cases d
 |succ m=>
  unfold lI at d;cases hs:step a with
  |none=>rw[hs]at d;cases d
  |some r=>
   rw[hs]at d;refine Ok.mono (f a r hs ?_) ?_
   ·rintro i rfl;simp only[bU]at d;exact d
   ·intro e s h;cases e with
    |normal=>
     obtain⟨a',rfl,j⟩:=h;exact⟨m,_,by omega,j,a',d,rfl⟩
    |_=>exact h

def vP(ns:List Nat)(o:Nat):Option Nat:=go ns 0
 where
 go:List Nat->Nat->Option Nat
  |[],_=>none
  |a::r,j=>bif Nat.beq a o then some j else go r (j+1)
theorem BL{o:Nat}:∀{ns:List Nat}{j i:Nat},vP.go o ns j=some i->j<=i/\ ns[i-j]? =some o
 |[],j,i,h=>by cases h
 |a::r,j,i,h=>by
  unfold vP.go at h;cases hb:Nat.beq a o with
  |true=>
   rw[hb]at h;cases h;have:=eG hb;subst this;simp
  |false=>
   rw[hb]at h;obtain⟨c,b⟩:=BL (o:=o) (ns:=r) h;refine⟨by omega,?_⟩;have:i-j=(i-(j+1))+1:=by omega
   rw[this];simpa using b
theorem Hr{o:Nat}:∀{ns:List Nat}{j:Nat},vP.go o ns j=none->o∉ns
 |[],j,h=>by simp
 |a::r,j,h=>by
  unfold vP.go at h;cases hb:Nat.beq a o with
  |true=>rw[hb]at h;cases h
  |false=>
   rw[hb]at h;have b:=Hr (o:=o) h;simp only[dY,not_or];refine⟨fun e=>?_,b⟩;subst e;simp at hb

def exV(k:Nat)(σ:bJ)(ns:List Nat)(m:Md):AV->AV
 | .dat d=>match m with
  | .z es=>(match d with
   | .sc (.slice none 0 0)=>.dat (.sl es [])
   |d=>.dat d)
  |_=>.dat d
 | .own o=>match vP ns o with
  |some j=>.own j
  |none=>match mP σ o with
   |some (es,l)=>bif Nat.ble k o then .dat (.sl es l)else .tup []
   |_=>.tup []
 | .ref o i=>match vP ns o with
  |some j=>.ref j i
  |none=>.tup []
 |_=>.tup []
def nE(k:Nat)(σ:bJ)(ns:List Nat):List Md->List AV->List AV
 |m::ms,x::l=>exV k σ ns m x::nE k σ ns ms l
 |[],x::l=>exV k σ ns .k x::nE k σ ns [] l
 |_,[]=>[]
def om:AV->Bool
 | .tup _=>true
 |_=>false
def exS(k:Nat)(σ:bJ)(ns:List Nat)(ms:List Md):AV->Option AV
 | .aggv l=>let c:=nE k σ ns ms l
  bif c.any om then none else some (jZ c)
 | .dat d=>match ms with
  |[]=>some (.dat d)
  |m::a=>(match d with
   | .agg l=>(match jG (nE k σ ns (m::a) (l.map .dat))with
    |some ds=>some (.dat (.agg ds))
    |none=>none)
   |d=>let v:=exV k σ ns m (.dat d)
    bif om v then none else some v)
 |x=>let v:=exV k σ ns (ms.headD .k) x
  bif om v then none else some v
def q8(k:Nat)(σ:bJ)(ns:List Nat):List (List Md)->List AV->Option (List AV)
 |m::ms,x::l=>match exS k σ ns m x,q8 k σ ns ms l with
  |some y,some r=>some (y::r)
  |_,_=>none
 |[],x::l=>match exS k σ ns [] x,q8 k σ ns [] l with
  |some y,some r=>some (y::r)
  |_,_=>none
 |_,[]=>some []
def DL(k:Nat)(σ:bJ)(ns:List Nat)(ms:List (List Md)):AV->Option AV
 | .tup l=>match q8 k σ ns ms l with
  |some l'=>some (.tup l')
  |none=>none
 |x=>exS k σ ns (ms.headD []) x

section
variable{k:Nat}{σ:bJ}{ns:List Nat}
theorem yQ{m:Md}:∀{x:AV},om (exV k σ ns m x)=true \/Exp k σ ns x (exV k σ ns m x):=by
 intro x;unfold exV;split
 ·split
  ·split
   ·exact .inr (O1 rfl)
   ·exact .inr (Cm rfl)
  ·exact .inr (Cm rfl)
 ·rename_i o;split
  ·rename_i j h;right;unfold Exp;obtain⟨b,a⟩:=BL (j:=0) h;exact .inr ⟨j,by simpa using a,rfl⟩
  ·rename_i h;split
   ·rename_i es l d;cases c:Nat.ble k o with
    |true=>exact .inr (O4 d (Hr h) (iQ c) rfl)
    |false=>exact .inl rfl
   ·exact .inl rfl
 ·rename_i o i;split
  ·rename_i j h;right;unfold Exp;obtain⟨b,a⟩:=BL (j:=0) h;exact .inr ⟨j,by simpa using a,rfl⟩
  ·exact .inl rfl
 ·exact .inl rfl
theorem yP:∀{ms:List Md}{l:List AV},(nE k σ ns ms l).any om=false->gJ k σ ns l (nE k σ ns ms l)
 |m::ms,x::l,h=>by
  unfold nE at h ⊢;simp only[List.any_cons,qz]at h;rcases yQ (k:=k) (σ:=σ) (ns:=ns) (m:=m) (x:=x)with h1|h1
  ·rw[h1]at h;cases h.1
  ·exact zI h1 (yP h.2)
 |[],x::l,h=>by
  unfold nE at h ⊢;simp only[List.any_cons,qz]at h;rcases yQ (k:=k) (σ:=σ) (ns:=ns) (m:=.k) (x:=x)with h1|h1
  ·rw[h1]at h;cases h.1
  ·exact zI h1 (yP h.2)
 |[],[],_=>by unfold nE;exact zD
 |m::ms,[],_=>by unfold nE;exact zD
theorem GV:∀{l:List AV}{ds:List D},gJ k σ ns l (ds.map .dat)->nK k σ ns l ds
 |[],ds,h=>by
  unfold gJ at h;unfold nK;cases ds with
  |nil=>rfl
  |cons=>cases h
 |x::l,ds,h=>by
  unfold gJ at h;unfold nK;obtain⟨y,r,a,b,c⟩:=h;cases ds with
  |nil=>cases a
  |cons d ds=>
   simp only[dX,ig]at a;obtain⟨rfl,rfl⟩:=a;exact⟨d,ds,rfl,b,GV c⟩
theorem Hu:∀{l:List D}{ds:List D},gJ k σ ns (l.map .dat) (ds.map .dat)->mE l ds
 |[],ds,h=>by
  simp only[jv]at h;unfold gJ at h;unfold mE;cases ds with
  |nil=>rfl
  |cons=>cases h
 |x::l,ds,h=>by
  simp only[dX]at h;unfold gJ at h;unfold mE;obtain⟨y,r,a,b,f⟩:=h;cases ds with
  |nil=>cases a
  |cons d ds=>
   simp only[dX,ig]at a;obtain⟨rfl,rfl⟩:=a;unfold Exp at b;obtain⟨d',c,e⟩:=b;cases c;exact⟨d,ds,rfl,e,Hu f⟩
theorem Ri:∀{ds:List D},(ds.map AV.dat).any om=false:=by intro ds;simp[om]
theorem BR{ms:List Md}{x y:AV}(h:exS k σ ns ms x=some y):Exp k σ ns x y:=by
 unfold exS at h;split at h
 ·rename_i l;simp only[]at h;cases hb:(nE k σ ns ms l).any om with
  |true=>rw[hb]at h;cases h
  |false=>
   rw[hb]at h;cases h;have:=yP hb;unfold jZ;split
   ·rename_i ds hd;rw[vg hd]at this;exact OZ (GV this)
   ·exact Po this
 ·rename_i d;split at h
  ·cases h;exact Cm rfl
  ·rename_i m a;split at h
   ·rename_i l;split at h
    ·rename_i ds hd;cases h;have h0:(nE k σ ns (m::a) (l.map .dat)).any om=false:=by rw[vg hd];exact Ri
     have:=yP h0;rw[vg hd]at this;unfold Exp;exact⟨_,rfl,by unfold lF;exact⟨ds,rfl,Hu this⟩⟩
    ·cases h
   ·simp only[]at h;cases hb:om (exV k σ ns m (.dat d))with
    |true=>rw[hb]at h;cases h
    |false=>
     rw[hb]at h;cases h;rcases yQ (k:=k) (σ:=σ) (ns:=ns) (m:=m) (x:=.dat d)with h1|h1
     ·rw[h1]at hb;cases hb
     ·exact h1
 ·simp only[]at h;cases hb:om (exV k σ ns (ms.headD .k) x)with
  |true=>rw[hb]at h;cases h
  |false=>
   rw[hb]at h;cases h;rcases yQ (k:=k) (σ:=σ) (ns:=ns) (m:=ms.headD .k) (x:=x)with h1|h1
   ·rw[h1]at hb;cases hb
   ·exact h1
theorem Ck:∀{ms:List (List Md)}{l l':List AV},q8 k σ ns ms l=some l'->gJ k σ ns l l'
 |m::ms,x::l,l',h=>by
  unfold q8 at h;split at h
  ·rename_i y r a b;cases h;exact zI (BR a) (Ck b)
  ·cases h
 |[],x::l,l',h=>by
  unfold q8 at h;split at h
  ·rename_i y r a b;cases h;exact zI (BR a) (Ck b)
  ·cases h
 |[],[],l',h=>by unfold q8 at h;cases h;exact zD
 |m::ms,[],l',h=>by unfold q8 at h;cases h;exact zD
theorem OD{ms:List (List Md)}{x y:AV}(h:DL k σ ns ms x=some y):Exp k σ ns x y:=by
 unfold DL at h;split at h
 ·split at h
  ·rename_i l' a;cases h;exact O5 (Ck a)
  ·cases h
 ·exact BR h
end

def zl(ty:TypeId->Option bD)(σ:bJ)(n:Nat)(A:List (Nat×AV)):ResultVar->Option AV
 | .tmp t=>some (jB n A (.tmp t))
 | .cell a t=>
  match jB n A (.tmp a),ty t with
  | .ref o i,some T=>
   match σ o with
   |some (.box _ l)=>bif T.isAgg then(bif Nat.ble (i+T.size) l.length then some (.aggv ((l.drop i).take T.size))else none)else l[i]?
   |_=>none
  |_,_=>none
def xq(ty:TypeId->Option bD)(σ:bJ)(n:Nat)(A:List (Nat×AV)):List ResultVar->Option (List AV)
 |[]=>some []
 |x::l=>match zl ty σ n A x,xq ty σ n A l with
  |some v,some r=>some (v::r)
  |_,_=>none
def Bj(ty:TypeId->Option bD)(σ:bJ)(n:Nat)(A:List (Nat×AV))(rs:List ResultVar):Option AV:=
 match xq ty σ n A rs with
 |some [x]=>some x
 |some l=>some (.tup l)
 |none=>none
theorem QT{ty:TypeId->Option bD}{σ:bJ}{A:List (Nat×AV)}{r:ResultVar}{v:AV}(h:zl ty σ n A r=some v):sS ty σ (iC n A) r=some v:=by
 cases r with
 |tmp t=>unfold zl at h;unfold sS;simp only[]at h ⊢;rw[tK];exact h
 |cell a t=>
  unfold zl at h;unfold sS;simp only[]at h ⊢;rw[tK];have b:jB n A (.tmp a)=bif Nat.blt a n then jN A a else .und:=rfl;rw[b]at h;split at h
  ·rename_i o i T c d;rw[c,d];simp only[];split at h
   ·rename_i l e;rw[e];simp only[];cases hA:T.isAgg with
    |true=>
     rw[hA]at h;simp only[cond_true]at h;cases hb:Nat.ble (i+T.size) l.length with
     |true=>rw[hb]at h;rw[if_pos rfl,if_pos (iQ hb)];exact h
     |false=>rw[hb]at h;cases h
    |false=>rw[hA]at h;simpa using h
   ·cases h
  ·cases h
theorem Du{ty:TypeId->Option bD}{σ:bJ}{A:List (Nat×AV)}:∀{rs:List ResultVar}{l:List AV},xq ty σ n A rs=some l->pY ty σ (iC n A) rs=some l
 |[],l,h=>by unfold xq at h;unfold pY;exact h
 |r::rs,l,h=>by
  unfold xq at h;unfold pY;split at h
  ·rename_i v c a b;rw[QT a,Du b];exact h
  ·cases h
theorem OO{ty:TypeId->Option bD}{σ:bJ}{A:List (Nat×AV)}{rs:List ResultVar}{v:AV}(h:Bj ty σ n A rs=some v):wO ty rs σ (iC n A)=some v:=by
 unfold Bj at h;unfold wO;split at h
 ·rename_i y c;rw[Du c];exact h
 ·rename_i l h0 c;rw[Du c];cases l with
  |nil=>exact h
  |cons a l=>cases l with
   |nil=>exact absurd rfl (h0 a)
   |cons b l=>exact h
 ·cases h

def Ad(ty:TypeId->Option bD)(rs:List ResultVar)(n k:Nat)(ns:List Nat)(ms:List (List Md))(x:X):Option (AV×List bH×List bH):=
 match Bj ty (dS x.L) n x.A rs with
 |some v=>
  match DL k (dS x.L) ns ms v,oP (dS x.L) ns,oM (dS x.L) (ixN (List.range k++ns)) (List.range k)with
  |some r,some new,some ob=>bif nQ ns&&ns.all (fun m=>Nat.ble k m)&&new.all (nO new.length)&&ob.all (nO (ob.length+new.length))then some (r,new,ob)else none
  |_,_,_=>none
 |none=>none

theorem Gb{ty:TypeId->Option bD}{rs:List ResultVar}{k:Nat}{d:AV}{a b:List bH}(ns:List Nat)(ms:List (List Md))(h:Ad ty rs n k ns ms x=some (d,a,b)){e:Exit}(q:(match e with| .normal| .ret=>True|_=>False)):
  Fin ty rs k (fun r new ob=>r=d/\ new=a/\ ob=b) e (x.st n):=by
 unfold Ad at h;split at h
 ·rename_i v t;split at h
  ·rename_i r new ob l o p;cases hb:(nQ ns&&ns.all (fun m=>Nat.ble k m)&&new.all (nO new.length)&&ob.all (nO (ob.length+new.length)))with
   |false=>rw[hb]at h;cases h
   |true=>
    rw[hb]at h;cases h;simp only[fP]at hb;obtain⟨⟨⟨f,g⟩,i⟩,j⟩:=hb;exact⟨q,v,d,ns,a,b,OO t,OD l,⟨rfl,rfl,rfl⟩,o,p,jbn f,fun m s=>iQ (iA.1 g m s),fun y c=>qO (iA.1 i y c),fun y c=>qO (iA.1 j y c)⟩
  ·cases h
 ·cases h
end

def sG{α β:Type}(lend:List Pt)(jS:α->List D)(kE:α->List bH)(m:α->Option β)(res:β->AV)(new:β->List bH)(ob:α->β->List bH):dJ:=
 ⟨lend,fun ds obs=>∃x y,ds=jS x/\ obs=kE x/\ m x=some y,fun ds obs r b a=>∃x y,ds=jS x/\ obs=kE x/\ m x=some y/\ r=res y/\ b=new y/\ a=ob x y,[],fun _ _ _ _ _ _=>⟨fun j h=>(by cases h),fun h=>absurd rfl h⟩,[],fun _ _ _ _ _ _ p h=>by cases h⟩
section
variable{α β:Type}{lend:List Pt}{jS:α->List D}{kE:α->List bH}{m:α->Option β}{res:β->AV}{new:β->List bH}{ob:α->β->List bH}
theorem Qn:pQ (sG lend jS kE m res new ob):=by
 rintro ds obs ⟨x,y,rfl,rfl,h⟩;exact⟨_,_,_,x,y,rfl,rfl,h,rfl,rfl,rfl⟩
theorem Qm(a:∀x x',jS x=jS x'->kE x=kE x'->x=x'){x:α}{y:β}(h:m x=some y):ng (sG lend jS kE m res new ob) (jS x) (kE x) (res y) (new y) (ob x y):=by
 refine⟨⟨x,y,rfl,rfl,h⟩,?_⟩;rintro g c f ⟨x',i,d,e,b,rfl,rfl,rfl⟩;have:=a x x' d e;subst this;rw[h]at b;cases b;exact⟨rfl,rfl,rfl⟩

theorem Pb{cx:Cx}{env b:List AV}{σ:bJ}{nx:Nat}(d:b.length=env.length)(h:∀t,b.getD t .und=env.getD t .und \/b.getD t .und=.unk):Wk cx ⟨env,σ,nx⟩ ⟨b,σ,nx⟩:=by
 intro κ F a w ⟨c,e⟩;refine⟨κ,F,fun _ h=>h,⟨by rw[c.size];exact d.symm,c.qp,fun t=>?_,fun t=>?_⟩,e⟩
 ·rcases h t with h|h
  ·rw[h];exact c.rv t
  ·rw[h];unfold RV;trivial
 ·rcases h t with h|h
  ·rw[h];exact c.nb t
  ·rw[h];unfold NB;trivial

def qZ:Nat->List AV->List (Nat×AV)
 |_,[]=>[]
 |i,x::l=>(i,x)::qZ (i+1) l
def oK:Nat->List bH->List (Nat×Option bH)
 |_,[]=>[]
 |i,x::l=>(i,some (x.eT i))::oK (i+1) l
theorem Gy:∀(l:List AV)(i t:Nat),jN (qZ i l) t=.unk \/(i<=t/\ l[t-i]? =some (jN (qZ i l) t))
 |[],i,t=>.inl rfl
 |x::l,i,t=>by
  unfold qZ jN;cases hb:Nat.beq t i with
  |true=>
   have:=eG hb;subst this;right;simp
  |false=>
   have b:t≠i:=fun e=>by subst e;simp at hb
   rcases Gy l (i+1) t with h|⟨c,a⟩
   ·left;simpa using h
   ·right;refine⟨by omega,?_⟩;have:t-i=(t-(i+1))+1:=by omega
    rw[this];simpa using a
theorem H6:∀(l:List bH)(i t:Nat),dS (oK i l) t=if i<=t then(l[t-i]?).map (·.eT t)else none
 |[],i,t=>by simp[oK,dS]
 |x::l,i,t=>by
  unfold oK dS;cases hb:Nat.beq t i with
  |true=>
   have:=eG hb;subst this;simp
  |false=>
   have a:t≠i:=fun e=>by subst e;simp at hb
   simp only[cond_false,H6 l (i+1) t];by_cases h:i<=t
   ·have:t-i=(t-(i+1))+1:=by omega
    rw[if_pos h,if_pos (by omega),this];simp
   ·rw[if_neg h,if_neg (by omega)]
theorem jkd:∀(ls:List Pt)(ds:List D)(k:Nat),(fD ls ds k).length=ls.length
 |[],ds,k=>by unfold fD;rfl
 |p::ls,[],k=>by unfold fD;simp[jkd ls [] k]
 |p::ls,d::ds,k=>by unfold fD;simp[jkd ls ds (k+p.n)]

theorem Pq{P:Program}{J:Inv}{ty:TypeId->Option bD}(i:∀t x,ty t=some x->bS P t x){f:Nat}{fn:Func}{c:Code}(hc:∀args w,(callFunc f args).run P w=.ok (.enter f args) w)(B:P.funcs[f]? =some fn)(hb:fn.body=some c)
  (rs:List ResultVar) (g:fn.results.toList=rs) (n:Nat) (E:fn.ntmps=n) (N:Nat) (hN:(Nat.ble (Pt.ns lend) N&&Nat.ble lend.length n)=true) (K:Nat) (hO:∀x,(kE x).length<=N/\ K<=(kE x).length)
  (h:∀x y cx,m x=some y->cx.L=K->cx.J=J->Ok P cx c (Fin ty rs K (fun r o b=>r=res y/\ o=new y/\ b=ob x y)) ((⟨qZ 0 (fD lend (jS x) 0),oK 0 (kE x),N⟩:X).st n)):FnOK P J f (sG lend jS kE m res new ob):=by
 simp only[fP]at hN;have z:=iQ hN.1;have F:=iQ hN.2;refine O9 i (sG lend jS kE m res new ob) N hc B hb z K rs g n E (by rintro ds obs ⟨x,y,rfl,rfl,_⟩;exact hO x) ?_;rintro ds obs cx ⟨x,y,rfl,rfl,j⟩ hL hJ;have C:=jkd lend (jS x) 0;have a:sQ (kE x)=dS (oK 0 (kE x)):=by
  funext t;rw[H6];simp[sQ]
 refine jah (s':=(⟨qZ 0 (fD lend (jS x) 0),oK 0 (kE x),N⟩:X).st n) ?_ (Ok.mono (h x y cx j hL hJ) ?_)
 ·show Wk cx ⟨_,sQ (kE x),N⟩ ⟨iC n _,dS (oK 0 (kE x)),N⟩;rw[a];refine Pb ?_ fun t=>?_
  ·simp only[iC,iy,mo,gu,xW];show n=(fD lend (jS x) 0).length+(n-(fD lend (jS x) 0).length);omega
  ·rw[tK];by_cases l:t<n
   ·have:Nat.blt t n=true:=by simpa[iW]using l
    rw[this];simp only[cond_true];rcases Gy (fD lend (jS x) 0) 0 t with h|⟨_,h⟩
    ·exact .inr h
    ·left;simp only[Nat.sub_zero]at h;have d:t<(fD lend (jS x) 0).length:=(cK.1 h).1;rw[dD];show _=(((fD lend (jS x) 0)++_)[t]?).getD .und;rw[jK d,h];rfl
   ·have:Nat.blt t n=false:=by
     cases hb:Nat.blt t n with
     |true=>exact absurd (by simpa[iW]using hb) l
     |false=>rfl
    rw[this];left;rw[dD,lC]
    ·rfl
    ·simp only[gu,xW];show(fD lend (jS x) 0).length+(n-(fD lend (jS x) 0).length)<=t;omega
 ·rintro e s ⟨A,v,r,ns,o,b,p,q,⟨rfl,rfl,rfl⟩,u⟩;exact⟨A,v,_,ns,_,_,p,q,⟨x,y,rfl,rfl,j,rfl,rfl,rfl⟩,u⟩
end
end
section

class Enc (α:Type) where
 sz:Nat
 e:α->D
 inj:∀a b,e a=e b->a=b
structure IK(k:IntKind) where
 v:Int
instance Tc:Enc Int:=⟨1,fun n=>.sc (.int .i64 n),fun a b h=>by simpa using h⟩
instance SY:Enc UInt8:=⟨1,fun n=>.sc (.int .u8 (n.toNat:Int)),fun a b h=>by
 simp only[D.sc.injEq,Value.int.injEq,true_and]at h;exact UInt8.toNat.inj (by omega)⟩
instance Td(k:IntKind):Enc (IK k):=⟨1,fun n=>.sc (.int k n.v),fun a b h=>by
 cases a;cases b;simpa using h⟩
instance Te:Enc Bool:=⟨1,fun n=>.sc (.bool n),fun a b h=>by simpa using h⟩
instance encStr:Enc ByteArray:=⟨1,fun n=>.sc (.string n),fun a b h=>by simpa using h⟩
instance Ta{α:Type}[Enc α]:Enc (List α):=⟨1,fun l=>.sl (Enc.sz α) (l.map Enc.e),fun a b h=>by
 simp only[D.sl.injEq,true_and]at h;exact(Av (fun x y=>Enc.inj x y)).1 h⟩

class FlatEnc (α:Type) [Enc α]:Prop where
 flat:∀x:α,lW (Enc.e x)
instance:FlatEnc Int:=⟨fun _=>trivial⟩
instance:FlatEnc UInt8:=⟨fun _=>trivial⟩
instance{k:IntKind}:FlatEnc (IK k):=⟨fun _=>trivial⟩
instance:FlatEnc Bool:=⟨fun _=>trivial⟩
instance:FlatEnc ByteArray:=⟨fun _=>trivial⟩
theorem Hz{α:Type}[Enc α][FlatEnc α]{e:TypeId}{es:Nat}{l:List α}:lY (.arr e es (l.map Enc.e)):=by
 intro d hd;obtain⟨x,_,rfl⟩:=jE.1 hd;exact FlatEnc.flat x
theorem zF:∀x∈([]:List bH),lY x:=by simp
theorem jh1{x:bH}{l:List bH}(h:lY x)(a:∀x∈l,lY x):∀y∈x::l,lY y:=by
 intro y hy;rcases dY.1 hy with rfl|hy
 ·exact h
 ·exact a y hy

def obL(l:List bH)(k:Nat):List D:=match l.getD k (.box 0 [])with
 | .arr _ _ l=>l
 | .tab _ _ _ l _ _=>l
 | .box _ _=>[]
 | .gF _ _ _ _=>[]
 | .mp _ l=>l.map fun p=>.agg [.agg [.sc (.int .i64 p.1.1),.sc (.int .i64 p.1.2)],p.2]
def SS:AV->D
 | .dat d=>d
 |_=>.sc undef
def obD(l:List bH)(k:Nat):List D:=match l.getD k (.box 0 [])with
 | .box _ l=>l.map SS
 |_=>[]
def obC(l:List bH)(k c:Nat):D:=match l.getD k (.box 0 [])with
 | .box _ cs=>match cs.getD c .und with
  | .dat d=>d
  |_=>.sc undef
 |_=>.sc undef
theorem jbc{α:Type}{a b:α}{l l':List α}(h:a=b)(c:l=l'):a::l=b::l':=by rw[h,c]

def w64(x:Int):Int:=IntKind.i64.wrap x
theorem jaj{x:Int}(h: -9223372036854775808<=x/\ x<=9223372036854775807):w64 x=x:=Pz h
def str(l:List UInt8):ByteArray:=⟨l.toArray⟩
def flb{R V:Type}(m:Option (Fl R V))(k:V->Option R):Option R:=m.bind fun v=>match v with
 | .ret r=>some r
 | .go u=>k u
theorem Gn{R V:Type}{m:Option (Fl R V)}{k:V->Option R}{y:R}(h:flb m k=some y):∃v,m=some v/\ (∀r,v=.ret r->r=y)/\ ∀u,v=.go u->k u=some y:=by
 obtain⟨v,b,a⟩:=jaf h;refine⟨v,b,?_,?_⟩
 ·rintro r rfl;exact gT a
 ·rintro u rfl;exact a
section
variable{Q:Exit->St->Prop}{J:St->Prop}{s:St}{id i:Nat}
theorem thN(h:J s):Then J Q .normal s:=h
theorem ND(h:Q .ret s):Then J Q .ret s:=h
theorem thE(h:Q (.exit i) s):Then J Q (.exit i) s:=h
theorem ibN(h:Q .normal s):qc id Q .normal s:=h
theorem SN(h:Q .ret s):qc id Q .ret s:=h
theorem ibE(h:Q .normal s):qc id Q (.exit id) s:=by unfold qc;simpa using h
theorem ibX(hi:Nat.beq i id=false)(h:Q (.exit i) s):qc id Q (.exit i) s:=by
 unfold qc;have:i≠id:=fun e=>by subst e;simp at hi
 simp only[if_neg this];exact h
end
section
variable{P:Program}{cx:Cx}{Q:Exit->St->Prop}{n k:Nat}{x x':X}
def qY(p:Nat×Option bH):List (Nat×Option bH)->List (Nat×Option bH)
 |[]=>[p]
 |q::l=>bif Nat.ble p.1 q.1 then p::q::l else q::qY p l
def oN(x:X):X:=⟨x.A,x.L.foldr qY [],x.nx⟩
theorem He{p:Nat×Option bH}:∀{l:List (Nat×Option bH)},dS (qY p l)=dS (p::l)
 |[]=>rfl
 |q::l=>by
  unfold qY;cases h:Nat.ble p.1 q.1 with
  |true=>rfl
  |false=>
   funext t;show dS (q::qY p l) t=_;have c:p.1≠q.1:=fun e=>by rw[e,Nat.ble_self_eq_true]at h;cases h
   obtain⟨a,x⟩:=p;obtain⟨b,y⟩:=q;simp only at c;have j:=congrFun (He (p:=(a,x)) (l:=l)) t;show(bif Nat.beq t b then y else dS (qY (a,x) l) t)=(bif Nat.beq t a then x else bif Nat.beq t b then y else dS l t);rw[j];show(bif Nat.beq t b then y else bif Nat.beq t a then x else dS l t)=_;cases f:Nat.beq t b with
   |false=>rfl
   |true=>
    have d:=eG f;cases g:Nat.beq t a with
    |false=>rfl
    |true=>exact absurd ((eG g).symm.trans d) c
theorem Ib:∀{l:List (Nat×Option bH)},dS (l.foldr qY [])=dS l
 |[]=>rfl
 |(a,x)::l=>by
  rw[List.foldr_cons,He];funext t;show(bif Nat.beq t a then x else dS (l.foldr qY []) t)=(bif Nat.beq t a then x else dS l t);rw[Ib]
theorem P6(x:X)(n:Nat):(oN x).st n=x.st n:=by
 unfold X.st oN;simp only[Ib]
theorem Wk_J(a:cx.L=k)(p:WP)(h:(mZ n k p x,oN (kU n k p x))=(true,x')):Wk cx (x.st n) (x'.st n):=by
 simp only[eY]at h;rw[<-h.2,P6];exact JU a p h.1
theorem Wk_S(lc:Loc)(a:D){ps:List Prop}(b:iJ ps)(h:rP (uN n lc a x)=some ps):Wk cx (x.st n) ((rX (uN n lc a x)).st n):=by
 cases hs:uN n lc a x with
 |none=>rw[hs]at h;cases h
 |some r=>
  obtain⟨c,x'⟩:=r;rw[hs]at h;cases h;exact Ga lc a hs b
theorem Od{V:Type}(S:V->X)(v:V){st:St}{c:Code}(a:Ok P cx c (Then (fun s=>Wk cx s ((S v).st n)) Q) st)(b:∀s,Wk cx s ((S v).st n)->Q .normal s):Ok P cx c Q st:=by
 refine Ok.mono a ?_;intro e s h;cases e with
 |normal=>exact b s h
 |_=>exact h
theorem Oq{R V:Type}(S:V->X)(v:Fl R V){st:St}{c:Code}(a:Ok P cx c (Then (fun s=>∃u,v=.go u/\ Wk cx s ((S u).st n)) Q) st)(b:∀u,v=.go u->∀s,Wk cx s ((S u).st n)->Q .normal s):Ok P cx c Q st:=by
 refine Ok.mono a ?_;intro e s h;cases e with
 |normal=>
  obtain⟨u,d,f⟩:=h;exact b u d s f
 |_=>exact h
end
theorem Gf{α β:Type}{f:α->D}{g:β->D}{l:List α}{r:List β}{b:Nat}(h:l.length+r.length<=4294967296)(hb:Nat.ble b 32768=true):(((l.map f).length+(r.map g).length:Nat):Int)<=140737488355328/\ (((l.map f).length+(r.map g).length:Nat):Int)*(b:Int)<=140737488355328:=by
 have a:=iQ hb;rw[iy,iy];refine⟨by omega,?_⟩;have c:((l.length+r.length)*b)<=4294967296*32768:=Nat.mul_le_mul h a;rw[<-Ee];generalize(l.length+r.length)*b=m at c;omega
theorem mk_p{n:Int}{b:Nat}(h:0<=n/\ n<=4294967296)(hb:Nat.ble b 32768=true):0<=n/\ n=n/\ n<=140737488355328/\ n*(b:Int)<=140737488355328:=by
 have a:=iQ hb;refine⟨h.1,rfl,by omega,?_⟩;have:n*(b:Int)<=4294967296*32768:=Int.mul_le_mul h.2 (by omega) (by omega) (by omega);omega
theorem NY{α:Type}{f:α->D}{l:List α}{lo hi:Int}(h:0<=lo/\ lo<=hi/\ hi<=l.length):0<=lo/\ lo<=hi/\ hi<=((l.map f).length:Int):=by rw[iy];exact h
theorem NZ{α:Type}{f:α->D}{l:List α}{lo:Int}(h:0<=lo/\ lo<=l.length):0<=lo/\ lo<=((l.map f).length:Int):=by rw[iy];exact h
theorem wI{a b:ByteArray}(h:a.size+b.size<=4294967296):((a.size+b.size:Nat):Int)<=9223372036854775807:=by omega
theorem qI{α:Type}[Enc α]{a b:α}{l l':List D}(i:Nat)(h:l=l')(c:List.getD l i (.sc undef)=Enc.e a:=by rfl)(d:List.getD l' i (.sc undef)=Enc.e b:=by rfl):a=b:=Enc.inj _ _ (c.symm.trans ((congrArg (fun l=>List.getD l i (.sc undef)) h).trans d))
end
section

structure FO(P:Program)(J:Inv) where
 f:Nat
 S:dJ
 ok:FnOK P J f S
 lv:pQ S
def Aa{P:Program}{J:Inv}:List (FO P J)->List (Nat×dJ)
 |[]=>[]
 |F::r=>(F.f,F.S)::Aa r
theorem Gx{P:Program}{J:Inv}:∀(l:List (FO P J)),∀p∈Aa l,FnOK P J p.1 p.2
 |[]=>Pf
 |F::r=>PK F.ok (Gx r)
theorem Gw{P:Program}{J:Inv}:∀(l:List (FO P J)),∀p∈Aa l,pQ p.2
 |[]=>Pg
 |F::r=>jrq F.lv (Gw r)
abbrev GF{P:Program}{J:Inv}(l:List (FO P J)):Nat->Option dJ:=fun f=>pV f (Aa l)
structure TT(P:Program)(ty:TypeId->Option bD):Prop where
 mx:P.follows .mixedOrders=true
 ty:∀t x,ty t=some x->bS P t x
structure GG(P:Program){J:Inv}(ty:TypeId->Option bD)(cx:Cx)(k:Nat)(l:List (FO P J)):Prop where
 t:TT P ty
 hL:cx.L=k
 hJ:cx.J=J
theorem GG.ok{P:Program}{J:Inv}{ty:TypeId->Option bD}{cx:Cx}{k:Nat}{l:List (FO P J)}(G:GG P ty cx k l):∀f S,GF l f=some S->FnOK P cx.J f S:=by rw[G.hJ];exact H8 (Gx l)
theorem GG.lv{P:Program}{J:Inv}{ty:TypeId->Option bD}{cx:Cx}{k:Nat}{l:List (FO P J)}(_:GG P ty cx k l):Live (GF l):=Jh (Gw l)
def qN:D->List D
 | .agg l=>l
 |d=>[d]
class BxE (α:Type) [Enc α]:Prop where
 inj:∀x y:α,qN (Enc.e x)=qN (Enc.e y)->x=y
instance:BxE Int:=⟨fun x y h=>Enc.inj _ _ (by simpa[qN,Enc.e]using h)⟩
instance:BxE Bool:=⟨fun x y h=>Enc.inj _ _ (by simpa[qN,Enc.e]using h)⟩
instance:BxE UInt8:=⟨fun x y h=>Enc.inj _ _ (by simpa[qN,Enc.e]using h)⟩
instance:BxE ByteArray:=⟨fun x y h=>Enc.inj _ _ (by simpa[qN,Enc.e]using h)⟩
instance{k:IntKind}:BxE (IK k):=⟨fun x y h=>Enc.inj _ _ (by simpa[qN,Enc.e]using h)⟩
instance{α:Type}[Enc α]:BxE (List α):=⟨fun x y h=>Enc.inj _ _ (by
 have a:[Enc.e x]=[Enc.e y]:=h;exact List.head_eq_of_cons_eq a)⟩
abbrev dV{α:Type}[Enc α](x:α):AV:=.dat (Enc.e x)
abbrev kV(k:IntKind)(x:Int):AV:=.dat (.sc (.int k x))
abbrev bxO(T:Nat){α:Type}[Enc α](x:α):bH:=.box T ((qN (Enc.e x)).map .dat)
abbrev arO(E:Nat){α:Type}[Enc α](l:List α):bH:=.arr E (Enc.sz α) (List.map Enc.e l)
abbrev taO(E:Nat){α:Type}[Enc α](mask:List (Option TypeId))(l:List α):bH:=.tab E (Enc.sz α) mask (List.map Enc.e l) 0 none
abbrev bX(o T:Nat)(l:List AV):Nat×Option bH:=(o,some (.box T l))
abbrev aX(o E:Nat){α:Type}[Enc α](l:List α):Nat×Option bH:=(o,some (.arr E (Enc.sz α) (List.map Enc.e l)))
abbrev tX(o E:Nat){α:Type}[Enc α](mask:List (Option TypeId))(l:List α)(g:Nat)(hole:Option (Nat×Nat)):Nat×Option bH:=(o,some (.tab E (Enc.sz α) mask (List.map Enc.e l) g hole))

theorem BF{α β:Type}{o:Option α}{a:Option β}{f:α->Option β}{y:β}(h:o.elim a f=some y):(o=none/\ a=some y) \/∃x,o=some x/\ f x=some y:=by
 cases o with
 |none=>exact .inl ⟨rfl,h⟩
 |some x=>exact .inr ⟨x,rfl,h⟩
structure lM(α:Type) where
 lend:List Pt
 d:α->List D
 o:α->List bH
 no:Nat
 nl:Nat
 lo:∀x,(o x).length=no
 ld:∀x,(d x).length=lend.length
 le:Nat.ble nl no=true
 inj:∀x y,d x=d y->o x=o y->x=y
def lM.r{α:Type}[Enc α]:lM α:=⟨[.rd],fun x=>[Enc.e x],fun _=>[],0,0,fun _=>rfl,fun _=>rfl,rfl,fun x y h _=>Enc.inj x y (by simpa using h)⟩
def lM.b(T:Nat){α:Type}[Enc α][BxE α]:lM α:=⟨[.bx],fun _=>[.sc undef],fun x=>[bxO T x],1,1,fun _=>rfl,fun _=>rfl,rfl,fun x y _ h=>BxE.inj x y (by
 simp only[ig,bH.box.injEq,and_true,true_and]at h;exact(Av (fun a b h=>by cases h;rfl)).1 h)⟩
def lM.s(E:Nat){α:Type}[Enc α]:lM (List α):=⟨[.sl],fun _=>[.sc undef],fun x=>[arO E x],1,1,fun _=>rfl,fun _=>rfl,rfl,fun x y _ h=>(by
 simp only[ig,bH.arr.injEq,and_true,true_and]at h;exact(Av (fun a b=>Enc.inj a b)).1 h)⟩
def lM.t(E:Nat)(mask:List (Option TypeId)){α:Type}[Enc α]:lM (List α):=⟨[.sl],fun _=>[.sc undef],fun x=>[taO E mask x],1,1,fun _=>rfl,fun _=>rfl,rfl,fun x y _ h=>(by
 simp only[ig,bH.tab.injEq,and_true,true_and]at h;exact(Av (fun a b=>Enc.inj a b)).1 h)⟩
def lM.m(E:Nat){α:Type}[Enc α]:lM (List α):=⟨[.sl],fun _=>[.sc undef],fun x=>[arO E x],1,0,fun _=>rfl,fun _=>rfl,rfl,fun x y _ h=>(by
 simp only[ig,bH.arr.injEq,and_true,true_and]at h;exact(Av (fun a b=>Enc.inj a b)).1 h)⟩
def lM.x{α β:Type}(p:lM α)(q:lM β):lM (α×β):=
 ⟨p.lend++q.lend,fun x=>p.d x.1++q.d x.2,fun x=>p.o x.1++q.o x.2,p.no+q.no,p.nl+q.nl,fun x=>by rw[gu,p.lo,q.lo],fun x=>by rw[gu,gu,p.ld,q.ld],Nat.ble_eq_true_of_le (Nat.add_le_add (iQ p.le) (iQ q.le)),by
  rintro⟨a,b⟩ ⟨a',j⟩ c e;obtain⟨f,g⟩:=List.append_inj c (by rw[p.ld,p.ld]);obtain⟨h,i⟩:=List.append_inj e (by rw[p.lo,p.lo]);exact Prod.ext (p.inj _ _ f h) (q.inj _ _ g i)⟩
structure MS(α β:Type) where
 p:lM α
 m:α->Option β
 r:β->AV
 n:β->List bH
 o:α->β->List bH
section
variable{α β:Type}
def MS.S(M:MS α β):dJ:=sG M.p.lend M.p.d M.p.o M.m M.r M.n M.o
theorem MS.lv{M:MS α β}:pQ M.S:=Qn
abbrev MS.C(M:MS α β)(x:α)(y:β):Prop:=ng M.S (M.p.d x) (M.p.o x) (M.r y) (M.n y) (M.o x y)
theorem MS.c(M:MS α β)(x:α){y:β}(h:M.m x=some y):M.C x y:=Qm M.p.inj h
def fo{P:Program}{J:Inv}{f:Nat}{M:MS α β}(h:FnOK P J f M.S):FO P J:=⟨f,M.S,h,M.lv⟩
def MS.SK(M:MS α β)(kp:List Nat)(a:∀x y,kp.map (fun j=>(M.o x y)[j]?)=kp.map (fun j=>(M.p.o x)[j]?))(b:∀x y,(M.o x y).length=(M.p.o x).length):dJ:=
 ⟨M.S.lend,M.S.pre,M.S.post,kp,fun ds obs r new cO h=>by
  obtain⟨x,y,_,rfl,_,_,_,rfl⟩:=h;exact⟨fun j c=>List.map_inj_left.1 (a x y) j c,fun _=>b x y⟩,[],fun _ _ _ _ _ _ p h=>by cases h⟩
def AO(obs cO:List bH):List (Nat×Nat)->Prop
 |[]=>True
 |p::r=>(∃T l l' d,obs[p.1]? =some (.box T l)/\ cO[p.1]? =some (.box T l')/\ l'.length=l.length/\ l[p.2]? =some (.dat d)/\ l'[p.2]? =some (.dat d))/\ AO obs cO r
theorem AO.at{obs cO:List bH}:∀{l:List (Nat×Nat)},AO obs cO l->∀p∈l,∃T l l' d,obs[p.1]? =some (.box T l)/\ cO[p.1]? =some (.box T l')/\ l'.length=l.length/\ l[p.2]? =some (.dat d)/\ l'[p.2]? =some (.dat d)
 |[],_,p,hp=>by cases hp
 |q::l,h,p,hp=>by
  rcases dY.1 hp with rfl|hp
  ·exact h.1
  ·exact AO.at h.2 p hp
theorem O8{P:Program}{J:Inv}{f:Nat}{M:MS α β}(h:FnOK P J f M.S){kp:List Nat}{B:∀x y,kp.map (fun j=>(M.o x y)[j]?)=kp.map (fun j=>(M.p.o x)[j]?)}{C:∀x y,(M.o x y).length=(M.p.o x).length}:FnOK P J f (M.SK kp B C):=
 ⟨h.1,fun vs w F ds obs κ a b c d e=>Calls.mono (h.2 vs w F ds obs κ a b c d e) fun e w' D=>by
  obtain⟨v,q1,r,new,cO,κ',κl,F',⟨l,m,n,q,s,t,u,z,A,g,i,k⟩⟩:=D;exact⟨v,q1,r,new,cO,κ',κl,F',⟨l,m,n,q,s,t,u,z,A,g,i,k⟩⟩⟩
def foK{P:Program}{J:Inv}{f:Nat}{M:MS α β}(h:FnOK P J f M.S)(kp:List Nat)(a:∀x y,kp.map (fun j=>(M.o x y)[j]?)=kp.map (fun j=>(M.p.o x)[j]?))(b:∀x y,(M.o x y).length=(M.p.o x).length):FO P J:=⟨f,M.SK kp a b,O8 h,M.lv⟩
end
end
section
section
variable{α β:Type}
theorem SQ{P:Program}{J:Inv}{ty:TypeId->Option bD}(T:TT P ty)(N:Nat)(M:MS α β)(l:List (FO P J)){f:Nat}{fn:Func}{c:Code}(hc:∀args w,(callFunc f args).run P w=.ok (.enter f args) w)(i:P.funcs[f]? =some fn)(hb:fn.body=some c)
  {rs:Array ResultVar} (b:fn.results=rs) {n:Nat} (q:fn.ntmps=n)
  (h:∀x y cx,GG P ty cx M.p.nl l->M.m x=some y->Ok P cx c (Fin ty rs.toList M.p.nl (fun r new e=>r=M.r y/\ new=M.n y/\ e=M.o x y)) ((⟨qZ 0 (fD M.p.lend (M.p.d x) 0),oK 0 (M.p.o x),N⟩:X).st n))
  (hN:(Nat.ble (Pt.ns M.p.lend) N&&Nat.ble M.p.lend.length n&&Nat.ble M.p.no N)=true:=by kernel_rfl):FnOK P J f M.S:=by
 simp only[fP]at hN;have g:=iQ hN.2;refine Pq T.ty hc i hb rs.toList (by rw[b]) n q N (by simp only[fP];exact hN.1) M.p.nl (fun x=>by rw[M.p.lo];exact⟨g,iQ M.p.le⟩) ?_;intro x y cx j hL hJ;exact h x y cx ⟨T,hL,hJ⟩ j
theorem fm{P:Program}{J:Inv}{ty:TypeId->Option bD}(T:TT P ty)(M:MS α β)(l:List (FO P J)){f:Nat}{fn:Func}{c:Code}(hc:∀args w,(callFunc f args).run P w=.ok (.enter f args) w)(g:P.funcs[f]? =some fn)(hb:fn.body=some c)
  {rs:Array ResultVar} (b:fn.results=rs) {n:Nat} (i:fn.ntmps=n)
  (h:∀x y cx,GG P ty cx M.p.nl l->M.m x=some y->Ok P cx c (Fin ty rs.toList M.p.nl (fun r new e=>r=M.r y/\ new=M.n y/\ e=M.o x y)) ((⟨qZ 0 (fD M.p.lend (M.p.d x) 0),oK 0 (M.p.o x),16⟩:X).st n))
  (hN:(Nat.ble (Pt.ns M.p.lend) 16&&Nat.ble M.p.lend.length n&&Nat.ble M.p.no 16)=true:=by kernel_rfl):FnOK P J f M.S:=SQ T 16 M l hc g hb b i h hN
end

structure HP where
 hs:List (Nat×H)
 ps:List Prop
 ok:iJ ps
def h0:HP:=⟨[],[],.nil⟩
section
variable{α:Type}[Enc α]
def hO(i:Nat)(a:H)(t:HP):HP:=⟨(i,a)::t.hs,t.ps,t.ok⟩
def hP{p:Prop}(h:p)(t:HP):HP:=⟨t.hs,p::t.ps,.cons h t.ok⟩
def hK{p:Prop}[Decidable p]{u:Unit}(h:chk p=some u)(t:HP):HP:=⟨t.hs,p::t.ps,.cons (ku h) t.ok⟩
def hC(i:Nat){S:dJ}{ds:List D}{obs:List bH}{r:AV}{n o:List bH}(h:ng S ds obs r n o)(t:HP):HP:=⟨(i,.c r n o)::t.hs,ng S ds obs r n o::t.ps,.cons h t.ok⟩
def hF(i:Nat){S:dJ}{ds:List D}{obs:List bH}{r:AV}{n o:List bH}(h:ng S ds obs r n o)(b:CB n o)(t:HP):HP:=⟨(i,.cf r n o)::t.hs,ng S ds obs r n o::CB n o::t.ps,.cons h (.cons b t.ok)⟩
def hW(i:Nat){S:dJ}{ds:List D}{obs:List bH}{r:AV}{n o:List bH}{b:D}{L:List D}{k:Nat}{p:Prop}(h:ng S ds obs r n o)(c:L[k]? =some b)(d:p)(t:HP):HP:=⟨(i,.cv b r n o)::t.hs,ng S ds obs r n o::(L[k]? =some b)::p::t.ps,.cons h (.cons c (.cons d t.ok))⟩
def hN(i:Nat)(l:List α)(t:HP):HP:=⟨(i,.n (l.length:Int))::t.hs,((((l.map Enc.e).length:Nat):Int)=(l.length:Int))::t.ps,.cons (BA Enc.e l) t.ok⟩
def hD(i:Nat){l:List α}{k:Int}{x:α}(h:idx l k=some x)(t:HP):HP:=⟨(i,.d (Enc.e x))::t.hs,(0<=k/\ (l.map Enc.e)[k.toNat]? =some (Enc.e x))::t.ps,.cons (ju1 h) t.ok⟩
def hE(i:Nat){l:List α}{k:Int}{x:α}(h:idx l k=some x)(t:HP):HP:=⟨(i,.d (Enc.e x))::t.hs,((l.map Enc.e)[k.toNat]? =some (Enc.e x))::t.ps,.cons (jbo h) t.ok⟩
def hS(i:Nat){l:List α}{k:Int}{x:α}(h:idx l k=some x)(y:α)(t:HP):HP:=⟨(i,.sd (Enc.e x) (List.map Enc.e (l.set k.toNat y)))::t.hs,((l.map Enc.e)[k.toNat]? =some (Enc.e x))::((l.map Enc.e).set k.toNat (Enc.e y)=(l.set k.toNat y).map Enc.e)::t.ps,.cons (jbo h) (.cons (je1 Enc.e l k.toNat y) t.ok)⟩
def hA(i b:Nat){l r:List α}{u:Unit}(h:chk (l.length+r.length<=4294967296)=some u)(t:HP)(hb:Nat.ble b 32768=true:=by rfl):HP:=
 ⟨(i,.l (List.map Enc.e (l++r)))::t.hs,((((l.map Enc.e).length+(r.map Enc.e).length:Nat):Int)<=140737488355328/\ (((l.map Enc.e).length+(r.map Enc.e).length:Nat):Int)*(b:Int)<=140737488355328)::(l.map Enc.e++r.map Enc.e=(l++r).map Enc.e)::t.ps,.cons (Gf (ku h) hb) (.cons (Gd Enc.e l r) t.ok)⟩
def hU(i:Nat){l:List α}{lo hi:Int}{u:Unit}(h:chk (0<=lo/\ lo<=hi/\ hi<=(l.length:Int))=some u)(t:HP):HP:=
 ⟨(i,.l (List.map Enc.e ((l.take hi.toNat).drop lo.toNat)))::t.hs,(0<=lo/\ lo<=hi/\ hi<=((l.map Enc.e).length:Int))::(((l.map Enc.e).take hi.toNat).drop lo.toNat=((l.take hi.toNat).drop lo.toNat).map Enc.e)::t.ps,.cons (NY (ku h)) (.cons (NW Enc.e l lo.toNat hi.toNat) t.ok)⟩
def hV(i:Nat){l:List α}{lo:Int}{u:Unit}(h:chk (0<=lo/\ lo<=(l.length:Int))=some u)(t:HP):HP:=
 ⟨(i,.l (List.map Enc.e (l.drop lo.toNat)))::t.hs,(0<=lo/\ lo<=((l.map Enc.e).length:Int))::((l.map Enc.e).drop lo.toNat=(l.drop lo.toNat).map Enc.e)::t.ps,.cons (NZ (ku h)) (.cons (OC Enc.e l lo.toNat) t.ok)⟩
end

class RT (Q:Exit->St->Prop) (R:outParam (Exit->St->Prop)):Prop where
 to:∀s,R .ret s->Q .ret s
instance{J:St->Prop}{Q R:Exit->St->Prop}[h:RT Q R]:RT (Then J Q) R:=⟨fun s hs=>ND (h.to s hs)⟩
instance{id:Nat}{Q R:Exit->St->Prop}[h:RT Q R]:RT (qc id Q) R:=⟨fun s hs=>SN (h.to s hs)⟩
instance{ty:TypeId->Option bD}{rs:List ResultVar}{k:Nat}{post:AV->List bH->List bH->Prop}:RT (Fin ty rs k post) (Fin ty rs k post):=⟨fun _ hs=>hs⟩

def JW{V:Type}(cx:Cx)(n:Nat)(S:V->X)(v:V):St->Prop:=fun s=>Wk cx s ((S v).st n)
def JF{R V:Type}(cx:Cx)(n:Nat)(S:V->X)(v:Fl R V):St->Prop:=fun s=>∃u,v=.go u/\ Wk cx s ((S u).st n)
def JL{A B:Type}(cx:Cx)(n:Nat)(S:A->X)(r:Lp A B):St->Prop:=fun s=>∃a,r=.nx a/\ Wk cx s ((S a).st n)

mutual
def JQ:AV->AV->List (Nat×Nat)
 | .own o,.own o'=>[(o',o)]
 | .ref o _,.ref o' _=>[(o',o)]
 | .eref o _ _ _,.eref o' _ _ _=>[(o',o)]
 | .row o _ _ _,.row o' _ _ _=>[(o',o)]
 | .aggv l,.aggv l'=>Af l l'
 | .fn _ l,.fn _ l'=>Af l l'
 |_,_=>[]
def Af:List AV->List AV->List (Nat×Nat)
 |x::l,x'::l'=>JQ x x'++Af l l'
 |_,_=>[]
end
def Bq:List (Nat×Nat)->Nat->Nat
 |[],_=>0
 |(a,b)::r,t=>bif Nat.beq t a then b else Bq r t
def NQ:AV->AV->List Md
 | .dat (.sc (.slice none 0 0)),.dat (.sl es _)=>[.z es]
 |_,_=>[]
def l7(n k:Nat)(x x':X):WP:=
 let c:=fun t=>bif Nat.blt t n then jN x.A t else .und
 let b:=(List.range k).map (fun i=>(i,i))++x'.A.flatMap fun q=>JQ (c q.1) q.2
 let d:=b++x'.L.flatMap fun q=>match q.2,dS x.L (Bq b q.1)with
  |some (.box _ l'),some (.box _ l)=>Af l l'
  |_,_=>[]
 ⟨x'.A.map fun q=>(q.1,NQ (c q.1) q.2),x'.L.map fun q=>(q.1,Bq d q.1,[]),[],x'.nx⟩

section
variable{P:Program}{J:Inv}{ty:TypeId->Option bD}{cx:Cx}{k n:Nat}{l:List (FO P J)}{x:X}{Q:Exit->St->Prop}
theorem re{id:Nat}{os:List Oper}(G:GG P ty cx k l)(p:HP)(b:Q .normal ((rX (fC (some k) iM ty (GF l) os n os 0 p.hs x)).st n))(h:rP (fC (some k) iM ty (GF l) os n os 0 p.hs x)=some p.ps:=by kernel_rfl):Ok P cx (.region id os.toArray false) Q (x.st n):=
 Br G.t.ty G.ok G.hL p.hs p.ok h b
theorem rs{id:Nat}{os:List Oper}{c:Code}(G:GG P ty cx k l)(p:HP)(b:Ok P cx c Q ((rX (fC (some k) iM ty (GF l) os n os 0 p.hs x)).st n))(h:rP (fC (some k) iM ty (GF l) os n os 0 p.hs x)=some p.ps:=by kernel_rfl):Ok P cx (.seq (.region id os.toArray false) c) Q (x.st n):=
 IX G.t.ty G.ok G.hL p.hs p.ok h b
theorem rh{id:Nat}{os:List Oper}(G:GG P ty cx k l)(b:Q .normal ((rX (fC (some k) iM ty (GF l) os n os 0 [] x)).st n))(h:rP (fC (some k) iM ty (GF l) os n os 0 [] x)=some []:=by kernel_rfl):Ok P cx (.region id os.toArray false) Q (x.st n):=
 Br G.t.ty G.ok G.hL [] .nil h b
theorem rg{id:Nat}{os:List Oper}{c:Code}(G:GG P ty cx k l)(b:Ok P cx c Q ((rX (fC (some k) iM ty (GF l) os n os 0 [] x)).st n))(h:rP (fC (some k) iM ty (GF l) os n os 0 [] x)=some []:=by kernel_rfl):Ok P cx (.seq (.region id os.toArray false) c) Q (x.st n):=
 IX G.t.ty G.ok G.hL [] .nil h b
theorem de{id:Nat}{os:List Oper}(G:GG P ty cx k l)(M:List (Nat×List Nat))(p:HP)(b:Q .normal ((rX (fC none (og ty (GF l) os n M) ty (GF l) os n os 0 p.hs x)).st n))
  (hB:(Region.lexB .any os.toArray&&uI ty (GF l) (mU M) os.toArray)=true:=by kernel_rfl) (h:rP (fC none (og ty (GF l) os n M) ty (GF l) os n os 0 p.hs x)=some p.ps:=by kernel_rfl):Ok P cx (.region id os.toArray true) Q (x.st n):=
 Gt G.t.mx G.t.ty G.ok G.lv M hB p.hs p.ok h b
theorem ds{id:Nat}{os:List Oper}{c:Code}(G:GG P ty cx k l)(M:List (Nat×List Nat))(p:HP)(b:Ok P cx c Q ((rX (fC none (og ty (GF l) os n M) ty (GF l) os n os 0 p.hs x)).st n))
  (hB:(Region.lexB .any os.toArray&&uI ty (GF l) (mU M) os.toArray)=true:=by kernel_rfl) (h:rP (fC none (og ty (GF l) os n M) ty (GF l) os n os 0 p.hs x)=some p.ps:=by kernel_rfl):Ok P cx (.seq (.region id os.toArray true) c) Q (x.st n):=
 Rc G.t.mx G.t.ty G.ok G.lv M hB p.hs p.ok h b

theorem cd{β:Type}{c:Operand}{t e:Code}{b:Bool}{u w:Option β}{y:β}(d:(if b=true then u else w)=some y)(g:u=some y->Ok P cx t Q (x.st n))(f:w=some y->Ok P cx e Q (x.st n))(hc:jB n x.A c=.dat (.sc (.bool b)):=by kernel_rfl):Ok P cx (.cond c t e) Q (x.st n):=
 yU b hc (fun h=>g (it h d)) (fun h=>f (ie h d))
theorem cT{c:Operand}{t e:Code}(b:Ok P cx t Q (x.st n))(hc:jB n x.A c=.dat (.sc (.bool true)):=by kernel_rfl):Ok P cx (.cond c t e) Q (x.st n):=
 yU true hc (fun _=>b) (nofun)
theorem cF{c:Operand}{t e:Code}(b:Ok P cx e Q (x.st n))(hc:jB n x.A c=.dat (.sc (.bool false)):=by kernel_rfl):Ok P cx (.cond c t e) Q (x.st n):=
 yU false hc (nofun) (fun _=>b)
theorem bf{β:Type}{b:Bool}{u w:Option β}{y:β}(c:(if b=true then u else w)=some y):(b=true/\ u=some y) \/(b=false/\ w=some y):=by
 cases b
 ·exact .inr ⟨rfl,c⟩
 ·exact .inl ⟨rfl,c⟩
theorem jn{V β:Type}{m:Option V}{f:V->Option β}{y:β}(h:m.bind f=some y)(S:V->X){c b:Code}(d:∀v,m=some v->Ok P cx c (Then (JW cx n S v) Q) (x.st n))(e:∀v,f v=some y->Ok P cx b Q ((S v).st n)):Ok P cx (.seq c b) Q (x.st n):=by
 obtain⟨v,i,g⟩:=jaf h;exact jvh S v (d v i) (e v g)
theorem jF{R V:Type}{m:Option (Fl R V)}{f:V->Option R}{y:R}(h:flb m f=some y)(S:V->X){c b:Code}(d:∀v,(∀r,v=.ret r->r=y)->m=some v->Ok P cx c (Then (JF cx n S v) Q) (x.st n))(e:∀v,f v=some y->Ok P cx b Q ((S v).st n)):Ok P cx (.seq c b) Q (x.st n):=by
 obtain⟨v,o,i,g⟩:=Gn h;exact Oo S v (d v i o) (fun u j=>e u (g u j))
theorem tl{V β:Type}{m:Option V}{f:V->Option β}{y:β}(g:m.bind f=some y)(S:V->X){c:Code}(b:∀v,m=some v->Ok P cx c (Then (JW cx n S v) Q) (x.st n))(d:∀v,f v=some y->∀s,Wk cx s ((S v).st n)->Q .normal s):Ok P cx c Q (x.st n):=by
 obtain⟨v,h,e⟩:=jaf g;exact Od S v (b v h) (d v e)
theorem tF{R V:Type}{m:Option (Fl R V)}{f:V->Option R}{y:R}(g:flb m f=some y)(S:V->X){c:Code}(b:∀v,(∀r,v=.ret r->r=y)->m=some v->Ok P cx c (Then (JF cx n S v) Q) (x.st n))(d:∀v,f v=some y->∀s,Wk cx s ((S v).st n)->Q .normal s):Ok P cx c Q (x.st n):=by
 obtain⟨v,j,h,e⟩:=Gn g;exact Oq S v (b v h j) (fun u i=>d u (e u i))
theorem lpP{A B:Type}{step:A->Option (Lp A B)}{e:A}{b:B}(g:iter step e=some b)(S:A->X){st:St}(h:Wk cx st ((S e).st n)){c:Code}
  (d:∀a r,(∀f,r=.dn f->f=b)->step a=some r->Ok P cx c (Then (JL cx n S r) Q) ((S a).st n)):Ok P cx (.loop c) Q st:=
 Ob S g h fun a r hs hb=>d a r hb hs
theorem wkA{x':X}(G:GG P ty cx k l)(h:(mZ n k (l7 n k x x') x,oN (kU n k (l7 n k x x') x))=(true,x')):Wk cx (x.st n) (x'.st n):=Wk_J G.hL _ h
theorem lp{A B:Type}{step:A->Option (Lp A B)}{e:A}{b:B}(G:GG P ty cx k l)(g:iter step e=some b)(S:A->X){c:Code}
  (d:∀a r,(∀f,r=.dn f->f=b)->step a=some r->Ok P cx c (Then (JL cx n S r) Q) ((S a).st n)) (h:(mZ n k (l7 n k x (S e)) x,oN (kU n k (l7 n k x (S e)) x))=(true,S e):=by kernel_rfl):Ok P cx (.loop c) Q (x.st n):=
 lpP g S (wkA G h) d

theorem wJ{V:Type}{S:V->X}{a v:V}(G:GG P ty cx k l)(b:some a=some v)(h:(mZ n k (l7 n k x (S a)) x,oN (kU n k (l7 n k x (S a)) x))=(true,S a):=by kernel_rfl):Then (JW cx n S v) Q .normal (x.st n):=by
 cases b;exact thN (wkA G h)
theorem wF{R V:Type}{S:V->X}{a:V}{v:Fl R V}(G:GG P ty cx k l)(b:some (Fl.go a)=some v)(h:(mZ n k (l7 n k x (S a)) x,oN (kU n k (l7 n k x (S a)) x))=(true,S a):=by kernel_rfl):Then (JF cx n S v) Q .normal (x.st n):=by
 cases b;exact thN ⟨a,rfl,wkA G h⟩
theorem wL{A B:Type}{S:A->X}{a:A}{v:Lp A B}(G:GG P ty cx k l)(b:some (Lp.nx a)=some v)(h:(mZ n k (l7 n k x (S a)) x,oN (kU n k (l7 n k x (S a)) x))=(true,S a):=by kernel_rfl):Then (JL cx n S v) Q .normal (x.st n):=by
 cases b;exact thN ⟨a,rfl,wkA G h⟩
theorem wD{A V:Type}{S:V->X}{a v:V}{r:Lp A V}(G:GG P ty cx k l)(c:some (Lp.dn a)=some r)(hb:∀b,r=.dn b->b=v)(h:(mZ n k (l7 n k x (S a)) x,oN (kU n k (l7 n k x (S a)) x))=(true,S a):=by kernel_rfl):Then (JW cx n S v) Q .normal (x.st n):=by
 cases c;cases hb _ rfl;exact thN (wkA G h)
theorem wE{A R V:Type}{S:V->X}{a:V}{v:Fl R V}{r:Lp A (Fl R V)}(G:GG P ty cx k l)(c:some (Lp.dn (Fl.go a))=some r)(hb:∀b,r=.dn b->b=v)(h:(mZ n k (l7 n k x (S a)) x,oN (kU n k (l7 n k x (S a)) x))=(true,S a):=by kernel_rfl):Then (JF cx n S v) Q .normal (x.st n):=by
 cases c;cases hb _ rfl;exact thN ⟨a,rfl,wkA G h⟩
theorem wJp{V:Type}{S:V->X}{a v:V}(b:some a=some v){st:St}(h:Wk cx st ((S a).st n)):Then (JW cx n S v) Q .normal st:=by
 cases b;exact thN h
theorem wFp{R V:Type}{S:V->X}{a:V}{v:Fl R V}(b:some (Fl.go a)=some v){st:St}(h:Wk cx st ((S a).st n)):Then (JF cx n S v) Q .normal st:=by
 cases b;exact thN ⟨a,rfl,h⟩
theorem wLp{A B:Type}{S:A->X}{a:A}{v:Lp A B}(b:some (Lp.nx a)=some v){st:St}(h:Wk cx st ((S a).st n)):Then (JL cx n S v) Q .normal st:=by
 cases b;exact thN ⟨a,rfl,h⟩
theorem wDp{A V:Type}{S:V->X}{a v:V}{r:Lp A V}(c:some (Lp.dn a)=some r)(hb:∀b,r=.dn b->b=v){st:St}(h:Wk cx st ((S a).st n)):Then (JW cx n S v) Q .normal st:=by
 cases c;cases hb _ rfl;exact thN h
theorem wR{x':X}(h:Wk cx (x.st n) (x'.st n))(b:Ok P cx .ret Q (x'.st n)):Ok P cx .ret Q (x.st n):=jah h b
theorem rt{rs:List ResultVar}{kk:Nat}{d:AV}{b c:List bH}[i:RT Q (Fin ty rs kk (fun r new ob=>r=d/\ new=b/\ ob=c))](ns:List Nat)(ms:List (List Md))(h:Ad ty rs n kk ns ms x=some (d,b,c):=by kernel_rfl):Ok P cx .ret Q (x.st n):=
 Oa (i.to _ (Gb ns ms h trivial))
theorem fN{rs:List ResultVar}{kk:Nat}{d:AV}{b c:List bH}(ns:List Nat)(ms:List (List Md))(h:Ad ty rs n kk ns ms x=some (d,b,c):=by kernel_rfl):Fin ty rs kk (fun r new ob=>r=d/\ new=b/\ ob=c) .normal (x.st n):=
 Gb ns ms h trivial
theorem sN{J:St->Prop}(h:J (x.st n)):Ok P cx .skip (Then J Q) (x.st n):=jae (thN h)
end

section
variable{R V A:Type}{y a:R}
theorem eR{v:Fl R V}(b:some (Fl.ret a)=some v)(c:∀r,v=.ret r->r=y):some a=some y:=by cases b;rw[c _ rfl]
theorem eD{r:Lp A R}(c:some (Lp.dn a)=some r)(hb:∀b,r=.dn b->b=y):some a=some y:=by cases c;rw[hb _ rfl]
theorem eL{v:Fl R V}{r:Lp A (Fl R V)}(c:some (Lp.dn (Fl.ret a))=some r)(hb:∀b,r=.dn b->b=v)(d:∀r,v=.ret r->r=y):some a=some y:=by
 cases c;cases hb _ rfl;rw[d _ rfl]
end
end
section

def sZ(a:List Int):List UInt8:=a.map fun z=>UInt8.ofNat z.toNat

theorem PU{z:Int}(h:(Lit.int .u8 z).wf=true):((UInt8.ofNat z.toNat).toNat:Int)=z:=by
 unfold Lit.wf at h;simp only[fP,decide_eq_true_eq]at h;have a:IntKind.u8.min=0:=by decide
 have b:IntKind.u8.max=255:=by decide
 rw[a,b]at h;rw[UInt8.toNat_ofNat'];omega

theorem Ie{F:Nat->Prop}{w:World}:∀(a:List Int),(∀z∈a,(Lit.int .u8 z).wf=true)->RE F w 1 ((sZ a).map Enc.e) (a.map fun z=>Value.int .u8 z)
 |[],_=>by unfold sZ;simp only[jv];unfold RE;rfl
 |z::a,h=>by
  have d:=PU (h z (dU ..));have b:=Ie (F:=F) (w:=w) a (fun y c=>h y (dZ _ c));unfold sZ at b ⊢;simp only[dX];refine RE.mk (u:=[Value.int .u8 z]) rfl ?_ b;show RC F w [D.sc (.int .u8 ((UInt8.ofNat z.toNat).toNat:Int))] [Value.int .u8 z];rw[d];unfold RC;refine⟨_,_,rfl,rfl,by unfold RD;exact⟨rfl,rfl⟩,by unfold RC;rfl⟩

theorem Qk{P:Program}{J:Inv}{f:Nat}{m:List UInt8->Option Bool}{new:Bool->List bH}{ob:List UInt8->Bool->List bH}
  (h:FnOK P J f (sG [.rd] (fun x:List UInt8=>[Enc.e x]) (fun _=>[]) m (fun y=>.dat (Enc.e y)) new ob)) (U:∀c,m c=some true)
  (a:Option Addr) (len d:Nat) (l:List Int) (w:World) (hJ:J.ok w) (Y:∀b,J.Z b->b<w.heap.size)
  (C:(a=none/\ len=0/\ d=0/\ l=[]) \/∃x,a=some x/\ len<=d/\ d<=maxLen/\ l.length=d/\ (∀i,i<l.length->w.cell? (x.add i)=some (.int .u8 (l.getD i 0)))/\ ∀n∈l,(Lit.int .u8 n).wf=true):
  Calls P f #[.slice a len d] w fun e w'=>e=.returned (.bool true)/\ Go.RowKit.Below w.heap.size w w':=by
 have fin:∀(G:Nat->Prop)(c:List UInt8),RD G w (Enc.e c) (.slice a len d)->(∀b,G b->b<w.heap.size)->Calls P f #[.slice a len d] w fun e w'=>e=.returned (.bool true)/\ Go.RowKit.Below w.heap.size w w':=by
  intro G c B H;obtain⟨F,q⟩:∃F:Nat->Prop,F=fun b=>G b \/J.Z b:=⟨_,rfl⟩;have O:RD F w (Enc.e c) (.slice a len d):=RD.mono (fun b hb=>by rw[q];exact .inl hb) (fun _ _=>rfl) B;have hF:∀b,F b->b<w.heap.size:=fun b hb=>by
   rw[q]at hb;rcases hb with hb|hb
   ·exact H b hb
   ·exact Y b hb
  have I:vV J F w:=⟨hJ,fun b hb=>by rw[q];exact .inr hb⟩;refine(h.2 [.slice a len d] w F [Enc.e c] [] (fun _=>kv sO) ⟨c,true,rfl,rfl,U c⟩ ?_ hF I ?_).mono ?_
  ·show dz _ F w [.dat (Enc.e c)] [.slice a len d];unfold dz;refine⟨_,_,rfl,by unfold RV;exact O,?_⟩;unfold dz;rfl
  ·exact⟨fun j x p=>by simp at p,fun j x p=>by simp at p,fun i x j y hi=>by simp at hi⟩
  ·rintro e w' ⟨v,rfl,r,X,cO,κ',κl,F',ret⟩;obtain⟨x,y,h1,h2,R,rfl,_,_⟩:=ret.post;rw[U x]at R;cases R;have D:=ret.rv;unfold RV at D;have V:RD F' w' (.sc (.bool true)) v:=D;unfold RD at V;refine⟨by rw[V.1],?_⟩;obtain⟨w1,w2,w3,w4,w5⟩:=ret.wx;exact⟨w1,w2,w3,w4,fun k hk=>w5 k ⟨hk,by rintro⟨j,x,p,_⟩;simp at p⟩⟩
 rcases C with⟨rfl,rfl,rfl,rfl⟩|⟨x,rfl,S,T,W,hc,Q⟩
 ·refine fin (fun _=>False) [] ?_ (fun _ hb=>hb.elim);show RD _ w (.sl 1 []) _;unfold RD;exact⟨none,0,rfl,dQ _,by unfold maxLen;omega,fun _=>rfl,.inl rfl⟩
 ·rcases Nat.eq_zero_or_pos len with M|hlp
  ·subst M;refine fin (fun _=>False) [] ?_ (fun _ hb=>hb.elim);show RD _ w (.sl 1 []) _;unfold RD;exact⟨some x,d,rfl,S,T,fun h=>by (cases h),.inl rfl⟩
  ·obtain⟨b,A,E⟩:=x;have h0:=hc 0 (by omega);have t:E=none:=by simpa[Addr.add]using World.cell?_spot h0
   subst t;refine fin (fun k=>k=b) (sZ (l.take len)) ?_ ?_
   ·show RD _ w (.sl 1 ((sZ (l.take len)).map Enc.e)) _;have g:((sZ (l.take len)).map (Enc.e (α:=UInt8))).length=len:=by
     unfold sZ;rw[iy,iy,eF];omega
    unfold RD;refine⟨some ⟨b,A,none⟩,d,by rw[g],by rw[g];exact S,T,fun h=>by (cases h),.inr ⟨b,A,(l.take len).map fun z=>Value.int .u8 z,rfl,rfl,?_,?_,Ie _ fun z W=>Q z (rE W)⟩⟩
    ·rw[g,iy,eF];omega
    ·intro j u p;rw[lu]at p;obtain⟨z,o,rfl⟩:=kG.1 p;have K:j<len:=by
      have:=(cK.1 o).1;rw[eF]at this;omega
     rw[kL K]at o;have L:j<l.length:=(cK.1 o).1;have:=hc j L;rw[dD,o]at this;rw[Addr.add_lit]at this;exact this
   ·rintro k rfl;have s:w.cell? ⟨k,A,none⟩=some (.int .u8 (l.getD 0 0)):=by simpa[Addr.add]using h0
    rcases jC k w.heap.size with N|hge
    ·exact N
    ·exfalso;have:w.heap[k]? =none:=AQ hge;simp[World.cell?,this]at s
theorem law_walk{P:Program}{f:Nat}{m:List UInt8->Option Bool}{new:Bool->List bH}{ob:List UInt8->Bool->List bH}
  (h:FnOK P .none f (sG [.rd] (fun x:List UInt8=>[Enc.e x]) (fun _=>[]) m (fun y=>.dat (Enc.e y)) new ob)) (j:∀d,m d=some true)
  (a:Option Addr) (len b:Nat) (c:List Int) (w:World)
  (g:(a=none/\ len=0/\ b=0/\ c=[]) \/∃x,a=some x/\ len<=b/\ b<=maxLen/\ c.length=b/\ (∀i,i<c.length->w.cell? (x.add i)=some (.int .u8 (c.getD i 0)))/\ ∀n∈c,(Lit.int .u8 n).wf=true):
  Calls P f #[.slice a len b] w fun e w'=>e=.returned (.bool true)/\ Go.RowKit.Below w.heap.size w w':=
 Qk h j a len b c w trivial (fun _ hb=>hb.elim) g
end
section
section
variable{P:Program}{cx:Cx}{ty:TypeId->Option bD}{Γ:Nat->Option dJ}{Q:Exit->St->Prop}

theorem Oc(u:∀t x,ty t=some x->bS P t x)(U:∀f S,Γ f=some S->FnOK P cx.J f S){k:Nat}(N:cx.L=k){id n:Nat}{o:Oper}{r:List Oper}{x:X}(I:o.guard=none){av:AV}
  (c:∀(κ:dx)(F:Nat->Prop)(a:Act)(w:World),jI cx κ F (· <x.nx) (iC n x.A) (dS x.L) a w->Out P o a.eval w (SR cx κ F w (· <x.nx) x.nx (dS x.L) (.bR True [] av [])))
  (hs:List (Nat×H)) {ps:List Prop} (R:iJ ps) (h:rP (fC (some k) iM ty Γ (o::r) n r 1 hs ⟨mG x.A o.dst av,x.L,x.nx+16⟩)=some ps)
  (z:Q .normal ((rX (fC (some k) iM ty Γ (o::r) n r 1 hs ⟨mG x.A o.dst av,x.L,x.nx+16⟩)).st n)):Ok P cx (.region id (o::r).toArray false) Q (x.st n):=by
 cases s:fC (some k) iM ty Γ (o::r) n r 1 hs ⟨mG x.A o.dst av,x.L,x.nx+16⟩with
 |none=>rw[s]at h;cases h
 |some W=>
  obtain⟨V,x'⟩:=W;rw[s]at h z;cases h;intro κ F a w B;refine wp_region_lit (wpList_step fun K hK=>?_);rw[if_pos (by simp[Region.wanted,I])];have i:jI cx κ F (· <x.nx) (iC n x.A) (dS x.L) a w:=⟨B.env,B.gP⟩;refine(c κ F a w i).wp ?_;rintro v w' ⟨q,δ,κ',F',⟨D,E⟩,g,T,O⟩;subst D;subst E;have y:(Un (· <x.nx) x.nx)=(· <x.nx+16):=by funext m;simp only[Un,eq_iff_iff];omega
  have j:Rel cx κ' F' ((⟨mG x.A o.dst q,x.L,x.nx+16⟩:X).st n) (a.put o.dst v) w':=by
   have e:=i.env.put (d:=o.dst) g T O;have p:=g.gP;rw[y]at e p;rw[qd]at e;exact⟨e,p⟩
  refine hK _ _ (zH u U N r 1 hs _ x' _ κ' F' _ w' s R j ?_);intro Y C Z w2 e p G;exact⟨Y,C,x'.st n,z,fun b hb=>e b (g.fr b hb),g.wx.trans p (fun b hb=>hb.imp (g.fr b) fun M=>M),G⟩

abbrev flatE{α:Type}[Enc α](l:List α):List D:=(l.map Enc.e).flatMap D.cells
theorem jno{α:Type}[Enc α](hc:∀x:α,(Enc.e x).cells.length=Enc.sz α):∀(l:List α)(i:Nat)(x:α),l[i]? =some x->((flatE l).drop (i*Enc.sz α)).take (Enc.sz α)=(Enc.e x).cells
 |[],i,x,h=>by simp at h
 |y::l,0,x,h=>by
  simp at h;subst h;simp only[flatE,dX,qy,o8,uj];exact List.take_left' (hc y)
 |y::l,i+1,x,h=>by
  have a:=jno hc l i x (by simpa using h);have e:(i+1)*Enc.sz α=(Enc.e y).cells.length+i*Enc.sz α:=by rw[hc,iD];omega
  simp only[flatE,dX,qy];rw[e,<-AB,List.drop_left];exact a

variable{J:Inv}{k n:Nat}{l:List (FO P J)}{x:X}
theorem SI{α:Type}[Enc α]{ls:List α}{e:α}{id:Nat}{o:Oper}{r:List Oper}{t el:TypeId}{a i:Operand}{T E:bD}{len:Nat}{kk:IntKind}{m:Int}(G:GG P ty cx k l)(d:0<=m/\ m<(len:Int))(z:idx ls m=some e)(p:HP)
  (S:Q .normal ((rX (fC (some k) iM ty (GF l) (o::r) n r 1 p.hs ⟨mG x.A o.dst (.dat (Enc.e e)),x.L,x.nx+16⟩)).st n))
  (hc:∀x:α,(Enc.e x).cells=[Enc.e x]/\ 1=Enc.sz α)
  (O:o.guard=none:=by rfl) (R:o.op=.index t a i:=by rfl) (hT:ty t=some T:=by rfl) (s:T.desc=.array len el:=by rfl) (hE:ty el=some E:=by rfl) (hA:E.isAgg=false:=by rfl) (U:E.size=Enc.sz α:=by rfl) (N:jB n x.A a=.dat (.agg (flatE ls)):=by kernel_rfl) (hi:jB n x.A i=.dat (.sc (.int kk m)):=by kernel_rfl)
  (h:rP (fC (some k) iM ty (GF l) (o::r) n r 1 p.hs ⟨mG x.A o.dst (.dat (Enc.e e)),x.L,x.nx+16⟩)=some p.ps:=by kernel_rfl):Ok P cx (.region id (o::r).toArray false) Q (x.st n):=by
 refine Oc G.t.ty G.ok G.hL O (fun κ F H w B=>?_) p.hs p.ok h S;have j:RV κ F w (dG (iC n x.A) a) (H.eval a):=za B.env;have q:RV κ F w (dG (iC n x.A) i) (H.eval i):=za B.env;rw[<-wS]at j q;rw[N]at j;rw[hi]at q;unfold RV RD at j q;obtain⟨cs,K,M⟩:=j;have g:=G.t.ty el E hE;have I:=(G.t.ty t T hT).1;rw[s]at I;have V:ls[m.toNat]? =some e:=by
  unfold idx at z;rw[if_pos d.1]at z;exact z
 have b:=jno (fun x=>by rw[(hc x).1];exact(hc x).2) ls m.toNat e V;have f:Enc.sz α=1:=(hc e).2.symm;rw[f,oz,(hc e).1]at b;have y:(flatE ls)[m.toNat]? =some (Enc.e e):=by
  have:(((flatE ls).drop m.toNat).take 1)[0]? =some (Enc.e e):=by rw[b];rfl
  rw[kL (by omega),iX]at this;simpa using this
 obtain⟨u,C,_,D⟩:=M.at m.toNat _ y;refine dW (v:=u) (w':=w) ?_ (fJ B.gP ?_ (oO _))
 ·unfold execOp;simp only[R];refine iK _ ?_;have c:cs.toArray[m.toNat*1]? =some u:=by rw[oz,uh];exact C
  simp only[Instr.index,q.1,asIntOf,Sem.run_bind,run_underlying I,Result.andThen_ok,K,Sem.run_pure,part,d,and_self,nC g,hA,if_true,if_false,bW,jm g,U,f,c]
 ·unfold RV;exact D
theorem ixS1{α:Type}[Enc α]{ls:List α}{e:α}{id:Nat}{o:Oper}{r:List Oper}{c:Code}{t el:TypeId}{a i:Operand}{T E:bD}{len:Nat}{kk:IntKind}{m:Int}(G:GG P ty cx k l)(d:0<=m/\ m<(len:Int))(g:idx ls m=some e)(p:HP)
  (s:Ok P cx c Q ((rX (fC (some k) iM ty (GF l) (o::r) n r 1 p.hs ⟨mG x.A o.dst (.dat (Enc.e e)),x.L,x.nx+16⟩)).st n))
  (hc:∀x:α,(Enc.e x).cells=[Enc.e x]/\ 1=Enc.sz α)
  (j:o.guard=none:=by rfl) (q:o.op=.index t a i:=by rfl) (hT:ty t=some T:=by rfl) (b:T.desc=.array len el:=by rfl) (hE:ty el=some E:=by rfl) (hA:E.isAgg=false:=by rfl) (u:E.size=Enc.sz α:=by rfl) (f:jB n x.A a=.dat (.agg (flatE ls)):=by kernel_rfl) (hi:jB n x.A i=.dat (.sc (.int kk m)):=by kernel_rfl)
  (h:rP (fC (some k) iM ty (GF l) (o::r) n r 1 p.hs ⟨mG x.A o.dst (.dat (Enc.e e)),x.L,x.nx+16⟩)=some p.ps:=by kernel_rfl):Ok P cx (.seq (.region id (o::r).toArray false) c) Q (x.st n):=
 jab (SI G d g p s hc j q hT b hE hA u f hi h)
end
end
section
section
variable{P:Program}{cx:Cx}{κ:dx}{F:Nat->Prop}{w:World}{U:Nat->Prop}{nm:Nat}{σ:bJ}{ty:TypeId->Option bD}{Γ:Nat->Option dJ}

end

section
variable{P:Program}{cx:Cx}{ty:TypeId->Option bD}{Γ:Nat->Option dJ}{Q:Exit->Act->World->Prop}
variable{Q:Exit->St->Prop}
end
end
section
section
variable{P:Program}{J:Inv}{ty:TypeId->Option bD}{cx:Cx}{k n:Nat}{l:List (FO P J)}{x:X}{Q:Exit->St->Prop}
end
def qL:List (Option TypeId)->List D->Prop
 |_,[]=>True
 |m,c::cs=>(match dA m 0 with|none=>lW c|some _=>∀es rows,c=.sl es rows->∀r∈rows,lW r)/\ qL m.tail cs
theorem IB:∀{cs:List D}{m:List (Option TypeId)}{j:Nat}{c:D},qL m cs->cs[j]? =some c->match dA m j with|none=>lW c|some _=>∀es rows,c=.sl es rows->∀r∈rows,lW r
 |[],m,j,c,_,a=>by simp at a
 |c0::cs,m,0,c,h,a=>by
  simp only[mM,bU]at a;subst a;exact h.1
 |c0::cs,m,j+1,c,h,a=>by
  have:=IB (m:=m.tail) (j:=j) h.2 (by simpa using a);have e:dA m.tail j=dA m (j+1):=by unfold dA;cases m<;>simp
  rw[e]at this;exact this
theorem jq0{m:List (Option TypeId)}{cs:List D}(h:qL m cs):yF m (.agg cs):=fun j c a=>IB h a
theorem fT_n{m:List (Option TypeId)}:qL m []:=trivial
theorem fT_d{m:List (Option TypeId)}{c:D}{cs:List D}(h:lW c)(t:qL m cs):qL (none::m) (c::cs):=⟨h,t⟩
theorem fT_s{α:Type}[Enc α][FlatEnc α]{e:TypeId}{m:List (Option TypeId)}{cs:List D}{es:Nat}{l:List α}(t:qL m cs):qL (some e::m) (.sl es (l.map Enc.e)::cs):=by
 refine⟨fun es' rows h r a=>?_,t⟩;cases h;obtain⟨y,_,rfl⟩:=jE.1 a;exact FlatEnc.flat y
theorem jsk{α:Type}[Enc α]{e:TypeId}{es g:Nat}{m:List (Option TypeId)}{l:List α}{hole:Option (Nat×Nat)}(h:∀x:α,yF m (Enc.e x)):lY (.tab e es m (l.map Enc.e) g hole):=by
 intro d hd;obtain⟨y,_,rfl⟩:=jE.1 hd;exact h y
end
section

instance S9{α β:Type}[Enc α][Enc β]:Enc (α×β):=⟨2,fun p=>.agg [Enc.e p.1,Enc.e p.2],fun a b h=>by
 have h:D.agg [Enc.e a.1,Enc.e a.2]=D.agg [Enc.e b.1,Enc.e b.2]:=h;simp only[D.agg.injEq,ig,and_true]at h;exact Prod.ext (Enc.inj _ _ h.1) (Enc.inj _ _ h.2)⟩

def encM{β:Type}[Enc β](m:List ((Int×Int)×β)):List ((Int×Int)×D):=m.map fun p=>(p.1,Enc.e p.2)
abbrev mpO(T:Nat){β:Type}[Enc β](m:List ((Int×Int)×β)):bH:=.mp T (encM m)
abbrev mX(o T:Nat){β:Type}[Enc β](m:List ((Int×Int)×β)):Nat×Option bH:=(o,some (.mp T (encM m)))
def getL{β:Type}(z:β)(k:Int×Int):List ((Int×Int)×β)->β×Bool
 |[]=>(z,false)
 |(k',d)::r=>if k'=k then(d,true)else getL z k r
def putL{β:Type}(k:Int×Int)(d:β):List ((Int×Int)×β)->List ((Int×Int)×β)
 |[]=>[(k,d)]
 |(k',d')::r=>if k'=k then(k,d)::r else(k',d')::putL k d r
section
variable{β:Type}[Enc β]
theorem BJ(z:β)(k:Int×Int):∀m:List ((Int×Int)×β),getM (Enc.e z) k (encM m)=(Enc.e (getL z k m).1,(getL z k m).2)
 |[]=>rfl
 |(k',d)::r=>by
  have a:=BJ z k r;unfold encM at a ⊢;simp only[dX];unfold getM getL;split
  ·rfl
  ·exact a
theorem Gh(k:Int×Int)(d:β):∀m:List ((Int×Int)×β),pJ k (Enc.e d) (encM m)=encM (putL k d m)
 |[]=>rfl
 |(k',d')::r=>by
  have a:=Gh k d r;unfold encM at a ⊢;simp only[dX];unfold pJ putL;split
  ·rfl
  ·rw[a];rfl
theorem mg_1{z:β}{k:Int×Int}{m:List ((Int×Int)×β)}{r:β×Bool}(h:some (getL z k m)=some r):(getM (Enc.e z) k (encM m)).1=Enc.e r.1:=by
 cases h;rw[BJ]
theorem mg_2{z:β}{k:Int×Int}{m:List ((Int×Int)×β)}{r:β×Bool}(h:some (getL z k m)=some r):(getM (Enc.e z) k (encM m)).2=r.2:=by
 cases h;rw[BJ]
def obM(l:List bH)(k:Nat):List ((Int×Int)×D):=match l.getD k (.box 0 [])with
 | .mp _ l=>l
 |_=>[]
theorem Hw:∀{x y:List ((Int×Int)×β)},encM x=encM y->x=y
 |[],[],_=>rfl
 |[],_::_,h=>by cases h
 |_::_,[],h=>by cases h
 |(k,d)::x,(k',d')::y,h=>by
  unfold encM at h;simp only[dX,ig,eY]at h;rw[h.1.1,Enc.inj _ _ h.1.2,Hw h.2]
theorem mpL{s:Nat}{x y:List ((Int×Int)×β)}(h:encM x=encM y):D.sl s (List.map Enc.e x)=D.sl s (List.map Enc.e y):=by rw[Hw h]
end
end
end Go.Ab
section
set_option linter.unusedVariables false
set_option linter.unusedSimpArgs false
namespace Go.Ab
set_option linter.unusedVariables false
set_option linter.unusedSimpArgs false
open Go.Shelf Go.RowKit Go.Lib Go.Proofs
variable{P:Program}{J:Inv}{ρ:Ren}

set_option maxHeartbeats 4000000 in
set_option maxRecDepth 100000 in
set_option maxHeartbeats 4000000 in
set_option maxRecDepth 100000 in
set_option maxHeartbeats 4000000 in
set_option maxRecDepth 100000 in
theorem OP{S:dJ}{ds:List D}{obs:List bH}{κ:dx}{F:Nat->Prop}{w w':World}{v0 f:Value}{E:TypeId}{es:Nat}{y:List D}{xs:List Value}(d:S.post ds obs (.own 0) [.arr E es y] [])
  (k:∀b,F b->b<w.heap.size) (g:w.grownBy w' (blk v0)) (hb:blk f=blk v0 \/blk f=some w.heap.size) (m:∀b,blk v0=some b->kQ κ obs b/\ ¬F b)
  (c:Own w' E es f y.length xs) (o:RE F w' es y xs) (pos:0<es):
  ∃r new cO κ' κl F',DU S ds obs κ F w f w' r new cO κ' κl F':=by
 obtain⟨a',s,p⟩:=c.slice;refine⟨.own 0,[.arr E es y],[],fun _=>⟨f,fun _ _=>undef⟩,fun _=>⟨f,fun _ _=>undef⟩,F,?_⟩;refine⟨d,fun _ h=>h,fun _ h=>.inl h,fun b hb=>kH (k b hb) g.size,⟨g.os,g.tape,g.output,g.size,fun b hb=>g.block b hb.1 fun e=>hb.2 (m b e.symm).1⟩,?_,?_,?_,⟨?_,?_,?_⟩,⟨?_,?_,?_⟩,fun _ _=>rfl,?_⟩
 ·unfold RV;exact⟨rfl,by rw[p];rfl⟩
 ·unfold NB;simp
 ·intro i x j y l;simp at l
 ·intro j x a;rcases j with _|j
  ·simp only[mM,bU]at a;subst a;exact⟨⟨_,c,o,pos⟩,trivial⟩
  ·simp at a
 ·intro j x a b hbk;rcases j with _|j
  ·simp only[mM,bU]at a;subst a;rcases hbk with hbk|hbk
   ·have hbk:blk f=some b:=hbk;rcases hb with g3|g3
    ·rw[g3]at hbk;exact⟨.inl (m b hbk).1,(m b hbk).2⟩
    ·rw[g3]at hbk;cases hbk;exact⟨.inr (dQ _),fun hF=>absurd (k _ hF) (Nat.lt_irrefl _)⟩
   ·exact hbk.elim
  ·simp at a
 ·intro i x j y l q n;rcases i with _|i
  ·rcases j with _|j
   ·exact absurd rfl n
   ·simp at q
  ·simp at l
 ·intro j x a;simp at a
 ·intro j x a;simp at a
 ·intro i x j y l;simp at l
 ·intro j a;simp at a

theorem zY{t:TypeId}{x:bD}(h:bS P t x)(w:World):(zeroValue t).run P w=.ok x.zero w:=by
 obtain⟨_,i,a,_,_,b,_⟩:=h;simp[zeroValue,typeInfo,a,b]

end Go.Ab
end
section
set_option linter.unusedVariables false
set_option linter.unusedSimpArgs false
namespace Go.Ab
set_option linter.unusedVariables false
set_option linter.unusedSimpArgs false
open Go.Shelf Go.RowKit Go.Lib Go.Proofs Go.Sort
variable{P:Program}{J:Inv}{ρ:Ren}

theorem Gq{F:Nat->Prop}{w:World}:∀{a:List Int}{us:List Value},RE F w 1 (a.map Enc.e) us->us=a.map (Value.int .i64)
 |[],us,h=>by
  unfold RE at h;simpa using h
 |x::a,us,h=>by
  rw[dX]at h;unfold RE at h;obtain⟨u,g,rfl,_,c,d⟩:=h;have f:∃y,u=[y]/\ one y=true/\ RD F w (.sc (.int .i64 x)) y:=c;obtain⟨y,rfl,_,b⟩:=f;unfold RD at b;obtain⟨rfl,_⟩:=b;rw[Gq d];rfl
theorem Gz{F:Nat->Prop}{w:World}:∀(a:List Int),RE F w 1 (a.map Enc.e) (a.map (Value.int .i64))
 |[]=>by unfold RE;rfl
 |x::a=>by
  rw[dX,dX];unfold RE;refine⟨[Value.int .i64 x],a.map (Value.int .i64),rfl,rfl,?_,Gz a⟩;show∃y,[Value.int .i64 x]=[y]/\ one y=true/\ RD F w (.sc (.int .i64 x)) y;refine⟨_,rfl,rfl,?_⟩;unfold RD;exact⟨rfl,rfl⟩

theorem Oy(L:Lays2.n20 P ρ)(w:World)(v0:Value)(a:List Int)(hE:Nat.ble (ρ.t 3) 4294967295=true)(h0:Own w (ρ.t 3) 1 v0 a.length (a.map (Value.int .i64))):
  Calls P (ρ.f 20) #[v0] w fun e w'=>∃A,e=.returned A/\ Own w' (ρ.t 3) 1 A (compactUpTo a.toArray a.length).length ((compactUpTo a.toArray a.length).map (Value.int .i64))/\ w.grownBy w' (blk v0)/\ blk A=blk v0:=by
 by_cases B:a=[]
 ·subst B;obtain⟨E,F,rfl⟩:=Own.slice h0;refine Calls.mono (Any.slices_Compact_int_empty L E F w) ?_;rintro e w' ⟨rfl,rfl⟩;exact⟨_,rfl,h0,⟨rfl,rfl,rfl,dQ _,fun _ _ _=>rfl⟩,rfl⟩
 rcases h0.2 with⟨_,M⟩|⟨b,d,c,g,rfl,⟨tb,G,v,z⟩,y,p,n,m⟩
 ·exact absurd (kK.1 M) B
 obtain rfl:=z.low hE;rw[oz]at n m;have l:∀j,j<a.length->g[d+j]? =some (Value.int .i64 a.toArray[j]!):=fun j hj=>by
  have h:((g.toList.drop d).take a.length)[j]? =(a.map (Value.int .i64))[j]?:=by rw[m]
  rw[kL hj,iX,Eh,lu]at h;rw[h,fO hj];simp[hj]
 have I:Holds encI w b d a.toArray:=fun j hj=>⟨by rw[cell_of_row w b (d+j) g tb (0,0) v];exact l j (by simpa using hj),by simp[World.frozen?,v]⟩;have r:(compactUpTo a.toArray a.length).length<=a.length:=by
  unfold compactUpTo;rw[iy];exact pz (List.length_filter_le ..) (by simp)
 have i:=Any.slices_Compact_int_arr L b d c a.toArray w I (by simp only[pG];unfold maxLen at p;omega) (by simpa using y);simp only[pG]at i;refine Calls.mono i ?_;rintro e w' ⟨rfl,q,rfl⟩;generalize hC:compactUpTo a.toArray a.length=C at r ⊢;generalize hD:(C++List.replicate (a.length-C.length) 0).toArray=D;have H:D.size=a.length:=by rw[<-hD];simp;omega
 have o:(putRow encI (Sort.ahead w q) b d D).heap[b]? =some (.cells (putCells encI d D g) tb (0,0)):=by
  show(w.heap.modify b (onCells (putCells encI d D)))[b]? =_;rw[Array.getElem?_modify,if_pos rfl,v];rfl
 refine⟨_,rfl,⟨by rw[iy,oz],.inr ⟨b,d,c,putCells encI d D g,rfl,⟨tb,_,o,.inl rfl⟩,by omega,p,?_,?_⟩⟩,⟨rfl,rfl,rfl,?_,fun k _ K=>?_⟩,rfl⟩
 ·rw[oz];unfold putCells;rw[Array.size_mapIdx];exact n
 ·rw[oz];refine rJ fun j=>?_;rcases jC j C.length with hj|hj
  ·rw[kL hj,iX,Eh,lu];unfold putCells;rw[Array.getElem?_mapIdx,l j (by omega)];have x:d<=d+j/\ d+j<d+D.size:=by omega
   have u:D[j]? =some C[j]:=by rw[<-hD,uh,jK hj,fO hj]
   have s:D[j]! =C[j]:=by simp[getElem!_def,u]
   simp only[gW,x,and_self,if_true,pF,s,fO hj]
  ·rw[lC (by rw[eF];omega),lC (by rw[iy];exact hj)]
 ·show w.heap.size<=(w.heap.modify b _).size;rw[Array.size_modify];exact dQ _
 ·show(w.heap.modify b _)[k]? =_;rw[Array.getElem?_modify,if_neg];intro h;subst h;exact K rfl

noncomputable def comM(a:List Int):Option (List Int):=some (compactUpTo a.toArray a.length)
noncomputable def JN(E:TypeId):MS (List Int) (List Int):=
 ⟨.m E,fun x=>comM x,fun _=>.own 0,fun y=>[arO E y],fun _ _=>[]⟩

theorem OA(hE:Nat.ble (ρ.t 3) 4294967295=true)(L:Lays2.n20 P ρ)(hc:∀args w,(callFunc (ρ.f 20) args).run P w=.ok (.enter (ρ.f 20) args) w):FnOK P J (ρ.f 20) (JN (ρ.t 3)).S:=by
 refine⟨hc,?_⟩;rintro vs w F ds obs κ ⟨a,y,rfl,rfl,p⟩ h j hJ g;have o:comM a=some y:=p;unfold comM at o
 ·cases o;have c:dz κ F w [.own 0] vs:=h;unfold dz at c;obtain⟨v0,A,rfl,q,c⟩:=c;unfold dz at c;subst c;unfold RV at q;have l:=(g.ok 0 (arO (ρ.t 3) a) rfl).1;obtain⟨us,r,n,pos⟩:=(show iq F w (ρ.t 3) 1 (κ 0).v (a.map Enc.e) from l);rw[iy]at r;have m:=Gq n;subst m;have k:∀b,blk (κ 0).v=some b->b<w.heap.size/\ ¬F b:=fun b d=>g.blk 0 (arO (ρ.t 3) a) rfl b (.inl d);have i:=Oy L w (κ 0).v a hE r;rw[q.1];refine Calls.mono i ?_;rintro e w' ⟨z,rfl,s,u,x⟩;refine⟨z,rfl,OP (v0:=(κ 0).v) (E:=ρ.t 3) (es:=1) (y:=(compactUpTo a.toArray a.length).map Enc.e) ⟨a,_,rfl,rfl,p,rfl,rfl,rfl⟩ j u (.inl x) (fun b d=>⟨⟨0,_,rfl,.inl d⟩,(k b d).2⟩) ?_ (Gz _) pos⟩;rw[iy];exact s

theorem NV{ty:TypeId->Option bD}(T:TT P ty)(ρ:Ren)(hc:∀args w,(callFunc (ρ.f 20) args).run P w=.ok (.enter (ρ.f 20) args) w)(hF:P.funcs[ρ.f 20]? =some (Body2.n20 ρ)){b0:Nat}{e0:Bool}
  (c:bS P (ρ.t 0) ⟨.tuple #[],1,b0,.tuple #[],e0⟩) (g:ty (ρ.t 3)=some ⟨.int .i64,1,8,.int .i64 0,false⟩) (h:ty (ρ.t 4)=some ⟨.bool,1,1,.bool false,false⟩) (e:ty (ρ.t 22)=some ⟨.slice (ρ.t 3),1,24,.slice none 0 0,false⟩) (hE:Nat.ble (ρ.t 3) 4294967295=true:=by rfl):
  FnOK P J (ρ.f 20) (JN (ρ.t 3)).S:=by
 have b:=T.ty _ _ g;have d:=T.ty _ _ h;have a:=T.ty _ _ e;have m:=b;obtain⟨_,n,i,j,k,l,_⟩:=m;refine OA hE ⟨T.mx,hF,c.1,fun w=>nC c,fun w=>jm c,fun w=>zY c w,b.1,fun w=>nC b,fun w=>jm b,fun w=>zY b w,d.1,fun w=>nC d,fun w=>jm d,fun w=>zY d w,a.1,fun w=>nC a,fun w=>jm a,fun w=>zY a w,?_⟩ hc;rw[i,gW,j,k,l]
end Go.Ab
end
section
namespace Go.Ab
set_option linter.unusedVariables false
set_option linter.unusedSimpArgs false

theorem jb5{A B:Type}{step:A->Option (Lp A B)}(I:Nat->A->Prop)(Q:B->Prop)
  (h:∀k a,I k a->(∃a' k',step a=some (.nx a')/\ k'<k/\ I k' a') \/(∃b,step a=some (.dn b)/\ Q b)):∀{k a},I k a->∃b,iter step a=some b/\ Q b:=by
 intro k
 induction k using Nat.strongRecOn with
 |_ k i=>
  intro a g;rcases h k a g with⟨a',k',d,e,f⟩|⟨b,d,e⟩
  ·rw[jgd d];exact i k' e f
  ·exact⟨b,je5 d,e⟩

theorem jal{α:Type}(l:List α)(i:Nat):idx l (i:Int)=l[i]?:=by
 unfold idx;rw[if_pos (by omega)];simp
theorem jlm{α:Type}{l:List α}{i:Int}{x:α}(h0:0<=i)(h:l[i.toNat]? =some x):idx l i=some x:=by
 unfold idx;rw[if_pos h0];exact h
theorem lX{α:Type}{l:List α}{i:Int}(h0:0<=i)(h:i<l.length):∃x,idx l i=some x/\ l[i.toNat]? =some x/\ x∈l:=by
 have a:i.toNat<l.length:=by omega
 refine⟨l[i.toNat],jlm h0 (fO a),fO a,List.getElem_mem a⟩
theorem ja9{p:Prop}[Decidable p](h:p):chk p=some ():=by unfold chk;rw[if_pos h]
@[simp] theorem jco{R V:Type}(u:V)(k:V->Option R):flb (some (.go u)) k=k u:=rfl
@[simp] theorem jdp{R V:Type}(r:R)(k:V->Option R):flb (some (Fl.ret r:Fl R V)) k=some r:=rfl
theorem jai{n:Nat}(h:n<9223372036854775807):w64 ((n:Int)+1)=((n+1:Nat):Int):=by rw[jaj (by omega)];omega
theorem jff{n:Nat}(h:n<9223372036854775807):w64 (((n+1:Nat):Int)-1)=(n:Int):=by rw[jaj (by omega)];omega
theorem OT(x:Int):0<=IntKind.u64.wrap x/\ IntKind.u64.wrap x<18446744073709551616:=by
 rw[IntKind.wrap_u64];omega
theorem Oe(x:Int):0<=w64 (IntKind.u64.wrap ((BitVec.ofInt (IntKind.u64).bits x&&&BitVec.ofInt (IntKind.u64).bits 255).toNat:Int))/\ w64 (IntKind.u64.wrap ((BitVec.ofInt (IntKind.u64).bits x&&&BitVec.ofInt (IntKind.u64).bits 255).toNat:Int))<=255:=by
 have h:(BitVec.ofInt (IntKind.u64).bits x&&&BitVec.ofInt (IntKind.u64).bits 255).toNat<=255:=by
  rw[BitVec.toNat_and];have:(BitVec.ofInt (IntKind.u64).bits 255).toNat=255:=by decide
  rw[this];exact Nat.and_le_right
 have a:IntKind.u64.wrap ((BitVec.ofInt (IntKind.u64).bits x&&&BitVec.ofInt (IntKind.u64).bits 255).toNat:Int)=((BitVec.ofInt (IntKind.u64).bits x&&&BitVec.ofInt (IntKind.u64).bits 255).toNat:Int):=by
  rw[IntKind.wrap_u64];omega
 rw[a,jaj (by omega)];omega
theorem jjk{a b:Int}(d:0<=a)(e:0<b):0<=a.tmod b/\ a.tmod b<b:=⟨Int.tmod_nonneg b d,Int.tmod_lt_of_pos a e⟩
theorem jap{α:Type}{l:List α}{i:Nat}{x:α}(h:l[i]? =some x):l.take (i+1)=l.take i++[x]:=by
 rw[List.take_add_one,h];rfl
theorem jak{α:Type}{l:List α}{i:Nat}(h:i<l.length):∃x,l[i]? =some x:=⟨_,fO h⟩
theorem Cg{l:List Int}{M:Int}(h:∀x∈l,0<=x/\ x<=M):0<=l.sum/\ l.sum<=M*l.length:=by
 induction l with
 |nil=>simp
 |cons a l d=>
  have e:=h a (dU ..);have f:=d fun x b=>h x (dZ _ b);simp only[Aq,gZ,Int.natCast_add,Int.mul_add];simp only[Int.natCast_one,Int.mul_one];omega
theorem P7{α:Type}(f:α->Int)(l:List α)(u:l.length<=1000000)(hb:∀x∈l,0<=f x/\ f x<=1000000){step:Int×Int->Option (Lp (Int×Int) Int)}
  (d:∀(i:Nat)(s:Int)(x:α),l[i]? =some x->step (s,(i:Int))=some (.nx (w64 (s+f x),w64 ((i:Int)+1)))) (g:∀s,step (s,(l.length:Int))=some (.dn s)):
  iter step (0,0)=some ((l.map f).sum):=by
 have bd:∀i,0<=((l.take i).map f).sum/\ ((l.take i).map f).sum<=1000000*1000000:=by
  intro i;have:=Cg (l:=(l.take i).map f) (M:=1000000) (by
   intro x j;obtain⟨y,r,rfl⟩:=jE.1 j;exact hb y (rE r))
  have t:(((l.take i).map f).length:Int)<=1000000:=by simp;omega
  omega
 have h:=jb5 (step:=step) (fun m a=>∃i:Nat,a.2=(i:Int)/\ m+i=l.length/\ a.1=((l.take i).map f).sum) (fun b=>b=(l.map f).sum) ?_ (k:=l.length) (a:=(0,0)) ⟨0,rfl,by omega,by simp⟩
 ·obtain⟨b,hb,rfl⟩:=h;exact hb
 rintro m ⟨s,v⟩ ⟨i,o,w,hs⟩;simp only at o hs;subst o;by_cases n:i<l.length
 ·left;obtain⟨x,j⟩:=jak n;have q:=hb x (bT j);have p:=bd i;refine⟨_,m-1,d i s x j,by omega,i+1,?_,by omega,?_⟩
  ·exact jai (by omega)
  ·show w64 (s+f x)=_;rw[jaj (by omega),jap j,hs];simp
 ·right;have e:i=l.length:=by omega
  subst e;exact⟨s,g s,by rw[hs,rD]⟩
set_option linter.unusedVariables false
set_option linter.unusedSimpArgs false

def fixI{α:Type}(p:α->Bool)(l:List α):Int:=match l.findIdx? p with
 |some i=>(i:Int)
 |none=> -1
theorem Iy{α:Type}{p:α->Bool}{l:List α}{i:Nat}(h:fixI p l=(i:Int)):l.findIdx? p=some i:=by
 unfold fixI at h;split at h
 ·rename_i j a;rw[a];congr 1;omega
 ·omega
theorem O6{α:Type}{p:α->Bool}{l:List α}{i:Nat}(h:fixI p l=(i:Int)):∃x,l[i]? =some x/\ p x=true/\ ∀j y,j<i->l[j]? =some y->p y=false:=by
 have:=Iy h;rw[List.findIdx?_eq_some_iff_getElem]at this;obtain⟨b,d,e⟩:=this;refine⟨_,fO b,d,fun j y g m=>?_⟩;have f:=e j g;obtain⟨k,a⟩:=cK.1 m;subst a;simpa using f
theorem O7{α:Type}{p:α->Bool}{l:List α}{i:Nat}{x:α}(h:l[i]? =some x)(d:p x=true)(b:∀(j:Nat) y,j<i->l[j]? =some y->p y=false):fixI p l=(i:Int):=by
 obtain⟨hi,e⟩:=cK.1 h;have:l.findIdx? p=some i:=by
  rw[List.findIdx?_eq_some_iff_getElem];refine⟨hi,by rw[e];exact d,fun j a=>?_⟩;have:=b j _ a (fO (by omega));simp[this]
 unfold fixI;rw[this]
theorem Hy{α:Type}{p:α->Bool}{l:List α}(h:fixI p l<0):∀x∈l,p x=false:=by
 unfold fixI at h;split at h
 ·omega
 ·rename_i a;exact Ea.1 a
theorem Pp{α β:Type}(f:α->β)(p:β->Bool)(l:List α):fixI p (l.map f)=fixI (fun x=>p (f x)) l:=by
 unfold fixI;rw[List.findIdx?_map];rfl
theorem Dp{α:Type}{p q:α->Bool}(l:List α)(h:∀x,p x=q x):fixI p l=fixI q l:=by
 have:p=q:=funext h;rw[this]

theorem jls{α R:Type}(l:List α)(p:α->Bool)(f:Nat->R){step:Int->Option (Lp Int (Fl R Unit))}
  (d:∀(i:Nat) x,l[i]? =some x->step (i:Int)=some (if p x=true then .dn (.ret (f i))else .nx ((i+1:Nat):Int))) (n:step (l.length:Int)=some (.dn (.go ()))):
  iter step 0=some (match l.findIdx? p with|some i=>.ret (f i)|none=>.go ()):=by
 have h:=jb5 (step:=step) (fun m v=>∃i:Nat,v=(i:Int)/\ m+i=l.length/\ ∀j y,j<i->l[j]? =some y->p y=false) (fun b=>b=match l.findIdx? p with|some i=>.ret (f i)|none=>.go ()) ?_ (k:=l.length) (a:=0) ⟨0,rfl,by omega,fun j y o=>by omega⟩
 ·obtain⟨b,hb,rfl⟩:=h;exact hb
 rintro m v ⟨i,rfl,w,r⟩;by_cases t:i<l.length
 ·obtain⟨x,g⟩:=jak t;by_cases q:p x=true
  ·right;refine⟨_,by rw[d i x g,if_pos q],?_⟩;rw[Iy (O7 g q r)]
  ·left;refine⟨_,m-1,by rw[d i x g,if_neg q],by omega,i+1,rfl,by omega,fun j y o u=>?_⟩;by_cases s:j<i
   ·exact r j y s u
   ·have:j=i:=by omega
    subst this;rw[g]at u;cases u;simpa using q
 ·right;have e:i=l.length:=by omega
  subst e;refine⟨_,n,?_⟩;have:l.findIdx? p=none:=Ea.2 fun x g=>by
   obtain⟨j,o⟩:=jJ g;exact r j x (cK.1 o).1 o
  rw[this]
theorem tL{α:Type}(l:List α)(p:α->Bool){step:Int->Option (Lp Int (Fl Int Unit))}
  (a:∀(i:Nat) x,l[i]? =some x->step (i:Int)=some (if p x=true then .dn (.ret (i:Int))else .nx ((i+1:Nat):Int))) (b:step (l.length:Int)=some (.dn (.go ()))):
  flb (iter step 0) (fun(_:Unit)=>some (-1))=some (fixI p l):=by
 rw[jls l p (fun i=>(i:Int)) a b];unfold fixI;cases l.findIdx? p<;>rfl

theorem Pj{α:Type}(l:List α)(ok:Nat->α->Prop)(r:Int)(d:Nat)(u:r=(d:Int))(B:d<=l.length){step:Int->Option (Lp Int (Fl Bool Unit))}
  (n:∀(i:Nat) x,d<=i->l[i]? =some x->(step (i:Int)=some (.nx ((i+1:Nat):Int))/\ ok i x) \/(step (i:Int)=some (.dn (.ret false))/\ ¬ok i x)) (p:step (l.length:Int)=some (.dn (.go ()))):
  (iter step r=some (.go ())/\ ∀(i:Nat) x,d<=i->l[i]? =some x->ok i x) \/(iter step r=some (.ret false)/\ ¬∀(i:Nat) x,d<=i->l[i]? =some x->ok i x):=by
 have h:=jb5 (step:=step) (fun m v=>∃i:Nat,v=(i:Int)/\ m+i=l.length/\ d<=i/\ ∀(j:Nat) x,d<=j->j<i->l[j]? =some x->ok j x)
  (fun b=>(b=.go ()/\ ∀(i:Nat) x,d<=i->l[i]? =some x->ok i x) \/(b=.ret false/\ ¬∀(i:Nat) x,d<=i->l[i]? =some x->ok i x)) ?_ (k:=l.length-d) (a:=r) ⟨d,u,by omega,dQ _,fun j x f q=>by omega⟩
 ·obtain⟨b,hb,⟨rfl,f⟩|⟨rfl,f⟩⟩:=h
  ·exact .inl ⟨hb,f⟩
  ·exact .inr ⟨hb,f⟩
 rintro m v ⟨i,rfl,D,A,z⟩;by_cases t:i<l.length
 ·obtain⟨x,o⟩:=jak t;rcases n i x A o with⟨f,q⟩|⟨f,q⟩
  ·left;refine⟨_,m-1,f,by omega,i+1,rfl,by omega,by omega,fun j y g C w=>?_⟩;by_cases s:j<i
   ·exact z j y g s w
   ·have:j=i:=by omega
    subst this;rw[o]at w;cases w;exact q
  ·right;exact⟨_,f,.inr ⟨rfl,fun hc=>q (hc i x A o)⟩⟩
 ·right;have e:i=l.length:=by omega
  subst e;exact⟨_,p,.inl ⟨rfl,fun j x g o=>z j x g (cK.1 o).1 o⟩⟩
theorem all_loop{α:Type}(l:List α)(ok:Nat->α->Prop){step:Int->Option (Lp Int (Fl Bool Unit))}
  (a:∀(i:Nat) x,l[i]? =some x->(step (i:Int)=some (.nx ((i+1:Nat):Int))/\ ok i x) \/(step (i:Int)=some (.dn (.ret false))/\ ¬ok i x)) (b:step (l.length:Int)=some (.dn (.go ()))) (e:Int) (d:Nat) (g:e=(d:Int)) (f:d<=l.length):
  (iter step e=some (.go ())/\ ∀(i:Nat) x,d<=i->l[i]? =some x->ok i x) \/(iter step e=some (.ret false)/\ ¬∀(i:Nat) x,d<=i->l[i]? =some x->ok i x):=
 Pj l ok e d g f (fun i x _ j=>a i x j) b
theorem qP{α:Type}(l:List α)(ok:Nat->α->Prop)[hd:Decidable (∀(i:Nat) x,l[i]? =some x->ok i x)]{step:Int->Option (Lp Int (Fl Bool Unit))}
  (a:∀(i:Nat) x,l[i]? =some x->(step (i:Int)=some (.nx ((i+1:Nat):Int))/\ ok i x) \/(step (i:Int)=some (.dn (.ret false))/\ ¬ok i x)) (b:step (l.length:Int)=some (.dn (.go ()))) (k:Unit->Option Bool):
  flb (iter step 0) k=if(∀(i:Nat) x,l[i]? =some x->ok i x)then k ()else some false:=by
 rcases all_loop l ok a b 0 0 rfl (by omega)with⟨d,e⟩|⟨d,e⟩
 ·rw[d,if_pos (fun i x f=>e i x (by omega) f)];rfl
 ·rw[d,if_neg (fun hc=>e fun i x _ f=>hc i x f)];rfl

theorem Qr{α β:Type}(f:α->β)(l:List α)(l0:List β)(s:l0.length=l.length){step:Int×List β->Option (Lp (Int×List β) (List β))}
  (g:∀(i:Nat)(a:List β)(x:α)(y:β),a.length=l.length->a[i]? =some y->l[i]? =some x->step ((i:Int),a)=some (.nx (((i+1:Nat):Int),a.set i (f x)))) (n:∀a,a.length=l.length->step ((l.length:Int),a)=some (.dn a)):
  iter step (0,l0)=some (l.map f):=by
 have h:=jb5 (step:=step) (fun m a=>∃i:Nat,a.1=(i:Int)/\ m+i=l.length/\ a.2.length=l.length/\ ∀(j:Nat) x,j<i->l[j]? =some x->a.2[j]? =some (f x)) (fun b=>b=l.map f) ?_ (k:=l.length) (a:=(0,l0)) ⟨0,rfl,by omega,s,fun j x q=>by omega⟩
 ·obtain⟨b,hb,rfl⟩:=h;exact hb
 rintro m ⟨v,a⟩ ⟨i,w,B,d,r⟩;simp only at w r d;subst w;by_cases t:i<l.length
 ·left;obtain⟨x,p⟩:=jak t;obtain⟨y,A⟩:=jak (l:=a) (i:=i) (by omega);refine⟨_,m-1,g i a x y d A p,by omega,i+1,rfl,by omega,by simpa using d,fun j z q u=>?_⟩;show(a.set i (f x))[j]? =_;by_cases o:j=i
  ·subst o;rw[p]at u;cases u;rw[j6 (by omega)]
  ·rw[iN (Ne.symm o)];exact r j z (by omega) u
 ·right;have e:i=l.length:=by omega
  subst e;refine⟨a,n a d,?_⟩;apply rJ;intro j;rw[lu];by_cases q:j<l.length
  ·obtain⟨x,p⟩:=jak q;rw[p,r j x q p];rfl
  ·rw[lC (by omega),lC (by omega)];rfl
theorem Pk{α β:Type}(f:α->β)(l:List α){step:Int×List β->Option (Lp (Int×List β) (List β))}
  (d:∀(i:Nat)(a:List β)(x:α),a.length=i->l[i]? =some x->step ((i:Int),a)=some (.nx (((i+1:Nat):Int),a++[f x]))) (g:∀a,a.length=l.length->step ((l.length:Int),a)=some (.dn a)):
  iter step (0,[])=some (l.map f):=by
 have h:=jb5 (step:=step) (fun m a=>∃i:Nat,a.1=(i:Int)/\ m+i=l.length/\ a.2=(l.take i).map f) (fun b=>b=l.map f) ?_ (k:=l.length) (a:=(0,[])) ⟨0,rfl,by omega,by simp⟩
 ·obtain⟨b,hb,rfl⟩:=h;exact hb
 rintro m ⟨v,a⟩ ⟨i,p,r,j⟩;simp only at p j;subst p;have o:a.length=min i l.length:=by rw[j];simp
 by_cases n:i<l.length
 ·left;obtain⟨x,q⟩:=jak n;refine⟨_,m-1,d i a x (by omega) q,by omega,i+1,rfl,by omega,?_⟩;show a++[f x]=_;rw[jap q,j];simp
 ·right;have e:i=l.length:=by omega
  subst e;exact⟨a,g a (by omega),by rw[j,rD]⟩
set_option linter.unusedVariables false
set_option linter.unusedSimpArgs false
def Tot{α:Type}(m:Option α)(Q:α->Prop):Prop:=∃a,m=some a/\ Q a
theorem Tot.ok{α:Type}{a:α}{Q:α->Prop}(h:Q a):Tot (some a) Q:=⟨a,rfl,h⟩
theorem Tot.mono{α:Type}{m:Option α}{P Q:α->Prop}(h:Tot m P)(e:∀a,P a->Q a):Tot m Q:=by
 obtain⟨a,b,d⟩:=h;exact⟨a,b,e a d⟩
theorem Tot.bind{α β:Type}{m:Option α}{k:α->Option β}{Q:β->Prop}(h:Tot m fun a=>Tot (k a) Q):Tot (m.bind k) Q:=by
 obtain⟨a,rfl,b⟩:=h;exact b
theorem Tot.call{α β:Type}{m:Option α}{k:α->Option β}{P:α->Prop}{Q:β->Prop}(h:Tot m P)(b:∀a,P a->Tot (k a) Q):Tot (m.bind k) Q:=.bind (h.mono b)
theorem Tot.eq{α β:Type}{m:Option α}{a:α}{k:α->Option β}{Q:β->Prop}(h:m=some a)(b:Tot (k a) Q):Tot (m.bind k) Q:=by subst h;exact b
theorem Tot.ite{α:Type}{c:Bool}{a b:Option α}{Q:α->Prop}(d:c=true->Tot a Q)(e:c=false->Tot b Q):Tot (if c=true then a else b) Q:=by
 cases c
 ·simpa using e rfl
 ·simpa using d rfl
theorem Tot.iteP{α:Type}{c:Prop}[Decidable c]{a b:Option α}{Q:α->Prop}(d:c->Tot a Q)(e:¬c->Tot b Q):Tot (if decide c=true then a else b) Q:=
 .ite (fun h=>d (of_decide_eq_true h)) (fun h=>e (of_decide_eq_false h))
theorem Tot.iteN{α:Type}{c:Prop}[Decidable c]{a b:Option α}{Q:α->Prop}(d:¬c->Tot a Q)(e:c->Tot b Q):Tot (if(!decide c)=true then a else b) Q:=
 .ite (fun h=>d (by simpa using h)) (fun h=>e (by simpa using h))
theorem Tot.chk{β:Type}{p:Prop}[Decidable p]{k:Unit->Option β}{Q:β->Prop}(h:p)(a:Tot (k ()) Q):Tot ((Ab.chk p).bind k) Q:=.eq (ja9 h) a
theorem Tot.idx{α β:Type}{l:List α}{i:Int}{k:α->Option β}{Q:β->Prop}(h0:0<=i)(h:i<l.length)(d:∀x,l[i.toNat]? =some x->Tot (k x) Q):Tot ((Ab.idx l i).bind k) Q:=by
 obtain⟨x,a,b,_⟩:=lX h0 h;exact .eq a (d x b)
theorem Tot.flb{R V:Type}{m:Option (Fl R V)}{k:V->Option R}{Q:R->Prop}(h:Tot m fun v=>(∀r,v=.ret r->Q r)/\ ∀u,v=.go u->Tot (k u) Q):Tot (Ab.flb m k) Q:=by
 obtain⟨v,rfl,a,b⟩:=h;cases v with
 |ret r=>exact⟨r,rfl,a r rfl⟩
 |go u=>exact b u rfl
theorem Tot.iter{A B:Type}{step:A->Option (Lp A B)}(I:Nat->A->Prop){Q:B->Prop}{n:Nat}{a:A}(h0:I n a)
  (h:∀k a,I k a->Tot (step a) fun r=>(∀a',r=.nx a'->∃k',k'<k/\ I k' a')/\ ∀b,r=.dn b->Q b):Tot (Ab.iter step a) Q:=by
 refine jb5 I Q (fun k a j=>?_) h0;obtain⟨r,d,g,i⟩:=h k a j;cases r with
 |nx a'=>
  obtain⟨k',e,f⟩:=g a' rfl;exact .inl ⟨a',k',d,e,f⟩
 |dn b=>exact .inr ⟨b,d,i b rfl⟩
theorem Tot.nx{A B:Type}{a:A}{P:A->Prop}{Q:B->Prop}(h:P a):Tot (some (Lp.nx a:Lp A B)) fun r=>(∀a',r=.nx a'->P a')/\ ∀b,r=.dn b->Q b:=
 ⟨_,rfl,fun a' e=>by cases e;exact h,fun b e=>by cases e⟩
theorem Tot.dn{A B:Type}{b:B}{P:A->Prop}{Q:B->Prop}(h:Q b):Tot (some (Lp.dn b:Lp A B)) fun r=>(∀a',r=.nx a'->P a')/\ ∀b,r=.dn b->Q b:=
 ⟨_,rfl,fun a' e=>(by cases e),fun a e=>(by cases e;exact h)⟩
theorem Tot.go{R V:Type}{u:V}{P:R->Prop}{Q:V->Prop}(h:Q u):Tot (some (Fl.go u:Fl R V)) fun v=>(∀r,v=.ret r->P r)/\ ∀u,v=.go u->Q u:=
 ⟨_,rfl,fun r e=>(by cases e),fun a e=>by cases e;exact h⟩
theorem Tot.ret{R V:Type}{r:R}{P:R->Prop}{Q:V->Prop}(h:P r):Tot (some (Fl.ret r:Fl R V)) fun v=>(∀r,v=.ret r->P r)/\ ∀u,v=.go u->Q u:=
 ⟨_,rfl,fun a e=>(by cases e;exact h),fun b e=>by cases e⟩
theorem Tot.val{α:Type}{m:Option α}{a:α}(h:Tot m (· =a)):m=some a:=by obtain⟨x,b,rfl⟩:=h;exact b
theorem Tot.of{α:Type}{m:Option α}{a:α}{Q:α->Prop}(h:m=some a)(b:Q a):Tot m Q:=⟨a,h,b⟩
theorem ixs{α:Type}{l:List α}{i:Nat}{x:α}(h:l[i]? =some x):Ab.idx l (i:Int)=some x:=(jal l i).trans h
theorem fK{α:Type}{l:List α}{i:Nat}{x:α}(h:l[i]? =some x):i<l.length:=(cK.1 h).1
theorem jm7{α:Type}{l:List α}{i:Nat}{x:α}(h:l[i]? =some x):l.set i x=l:=by
 obtain⟨a,b⟩:=cK.1 h;subst b;exact List.set_getElem_self a
theorem wW{α:Type}{l:List α}{i:Nat}{x y:α}(h:l[i]? =some x):(l.set i y)[i]? =some y:=j6 (fK h)
theorem Bz{A A' B i:Type}{step:A->Option (Lp A B)}{step':A'->Option (Lp A' i)}(I:Nat->A->A'->Prop)(T:B->i->Prop)
  (h:∀k a a',I k a a'->(∃b d k',step a=some (.nx b)/\ step' a'=some (.nx d)/\ k'<k/\ I k' b d) \/∃x x',step a=some (.dn x)/\ step' a'=some (.dn x')/\ T x x'):
  ∀{k a a'},I k a a'->∃x x',Ab.iter step a=some x/\ Ab.iter step' a'=some x'/\ T x x':=by
 intro k
 induction k using Nat.strongRecOn with
 |_ k m=>
  intro a a' l;rcases h k a a' l with⟨b,d,k',e,f,g,j⟩|⟨x,x',e,f,g⟩
  ·rw[jgd e,jgd f];exact m k' g j
  ·exact⟨x,x',je5 e,je5 f,g⟩
theorem je8{P:Prop}[Decidable P]{m:Option (Fl Bool Unit)}(h:Tot m fun b=>(b=.go ()/\ P) \/(b=.ret false/\ ¬P)):Ab.flb m (fun _=>some true)=some (decide P):=by
 obtain⟨b,rfl,⟨rfl,a⟩|⟨rfl,a⟩⟩:=h
 ·simp[a]
 ·simp[a]
theorem CU{α:Type}{l:List α}{i:Int}{x:α}(h:Ab.idx l i=some x):0<=i/\ i<l.length/\ l[i.toNat]? =some x:=by
 unfold Ab.idx at h;split at h
 ·have:=fK h;exact⟨by omega,by omega,h⟩
 ·cases h
theorem wZ{α:Type}{p:α->Bool}{l:List α}(h:¬fixI p l<0):∃(k:Nat)(x:α),fixI p l=(k:Int)/\ l[k]? =some x/\ p x=true/\ ∀j y,j<k->l[j]? =some y->p y=false:=by
 have e:fixI p l=((fixI p l).toNat:Int):=by omega
 obtain⟨x,a,b,d⟩:=O6 e;exact⟨_,x,e,a,b,d⟩
theorem jjo{l:List Int}{i:Nat}{x:Int}(h:l[i]? =some x):(l.take (i+1)).sum=(l.take i).sum+x:=by
 rw[jap h];simp
theorem Q7{l:List Int}(h:∀x∈l,0<=x):0<=l.sum:=by
 induction l with
 |nil=>simp
 |cons a l d=>
  have e:=h a (dU ..);have f:=d fun x b=>h x (dZ _ b);simp only[Aq];omega
theorem jmu{α β γ:Type}(m:Option α)(f:α->Option β)(g:β->Option γ):(m.bind fun x=>(f x).bind g)=(m.bind f).bind g:=by cases m<;>rfl
end Go.Ab
namespace Go.Ab.Pdq
set_option linter.unusedVariables false
set_option linter.unusedSimpArgs false
set_option maxRecDepth 100000
set_option linter.unusedVariables false
noncomputable def insertionSort_L1{α:Type}(a:Int)(cmp:α->α->Option (Int)):Int×(List α)->Option (Lp (Int×(List α)) ((List α)))
 |(d,b)=>
  (if(decide (a<d))=true then(idx b d).bind fun i=>
  (idx b (w64 (d-1))).bind fun j=>
  (cmp i j).bind fun l=>
  some (decide (l<0))else some false).bind fun(m:Bool)=>
  if m=true then
   (idx b (w64 (d-1))).bind fun e=>
   (idx b d).bind fun k=>
   (idx b d).bind fun f=>
   (idx (b.set d.toNat e) (w64 (d-1))).bind fun g=>
   some (.nx ((w64 (d-1)),((b.set d.toNat e).set (w64 (d-1)).toNat k)))
  else
   some (.dn b)
noncomputable def insertionSort_L2{α:Type}(a:Int)(b:Int)(cmp:α->α->Option (Int)):Int×(List α)->Option (Lp (Int×(List α)) ((List α)))
 |(v,d)=>
  if(decide (v<b))=true then
   (iter (insertionSort_L1 a cmp) (v,d)).bind fun(e:List α)=>
   some (.nx ((w64 (v+1)),e))
  else
   some (.dn d)
noncomputable def insertionSort{α:Type}(d:List α)(a:Int)(b:Int)(cmp:α->α->Option (Int)):Option ((List α)):=
 iter (insertionSort_L2 a b cmp) ((w64 (a+1)),d)
noncomputable def x9{α:Type}(hi:Int)(first:Int)(cmp:α->α->Option (Int)):Int×(List α)->Option (Lp (Int×(List α)) ((List α)))
 |(v,a)=>
  if(decide (hi<=(w64 ((w64 (2*v))+1))))=true then
   some (.dn a)
  else
   ((if(decide ((w64 ((w64 ((w64 (2*v))+1))+1))<hi))=true then(idx a (w64 (first+(w64 ((w64 (2*v))+1))))).bind fun i=>
   (idx a (w64 ((w64 (first+(w64 ((w64 (2*v))+1))))+1))).bind fun j=>
   (cmp i j).bind fun m=>
   some (decide (m<0))else some false).bind fun(o:Bool)=>
   if o=true then
    some (w64 ((w64 ((w64 (2*v))+1))+1))
   else
    some (w64 ((w64 (2*v))+1))).bind fun(d:Int)=>
   (idx a (w64 (first+v))).bind fun k=>
   (idx a (w64 (first+d))).bind fun l=>
   (cmp k l).bind fun n=>
   if(!(decide (n<0)))=true then
    some (.dn a)
   else
    (idx a (w64 (first+d))).bind fun b=>
    (idx a (w64 (first+v))).bind fun e=>
    (idx a (w64 (first+v))).bind fun f=>
    (idx (a.set (w64 (first+v)).toNat b) (w64 (first+d))).bind fun g=>
    some (.nx (d,((a.set (w64 (first+v)).toNat b).set (w64 (first+d)).toNat e)))
noncomputable def siftDown{α:Type}(a:List α)(lo:Int)(hi:Int)(first:Int)(cmp:α->α->Option (Int)):Option ((List α)):=
 iter (x9 hi first cmp) (lo,a)
noncomputable def z8{α:Type}(a:Int)(b:Int)(cmp:α->α->Option (Int)):Int×(List α)->Option (Lp (Int×(List α)) ((List α)))
 |(v,d)=>
  if(decide (0<=v))=true then
   (siftDown d v (w64 (b-a)) a cmp).bind fun r=>
   some (.nx ((w64 (v-1)),r))
  else
   some (.dn d)
noncomputable def zZ{α:Type}(a:Int)(cmp:α->α->Option (Int)):Int×(List α)->Option (Lp (Int×(List α)) ((List α)))
 |(d,b)=>
  if(decide (0<=d))=true then
   (idx b (w64 (a+d))).bind fun e=>
   (idx b a).bind fun f=>
   (idx b a).bind fun i=>
   (idx (b.set a.toNat e) (w64 (a+d))).bind fun j=>
   (siftDown ((b.set a.toNat e).set (w64 (a+d)).toNat f) 0 d a cmp).bind fun g=>
   some (.nx ((w64 (d-1)),g))
  else
   some (.dn b)
noncomputable def heapSort{α:Type}(e:List α)(a:Int)(b:Int)(cmp:α->α->Option (Int)):Option ((List α)):=
 (chk ((2:Int)≠0)).bind fun u=>
 (iter (z8 a b cmp) ((w64 ((w64 ((w64 (b-a))-1)).tdiv 2)),e)).bind fun(d:List α)=>
 iter (zZ a cmp) ((w64 ((w64 (b-a))-1)),d)
noncomputable def order2{α:Type}(e:List α)(a:Int)(b:Int)(d:Int)(cmp:α->α->Option (Int)):Option (Int×Int×Int):=
 (idx e b).bind fun f=>
 (idx e a).bind fun g=>
 (cmp f g).bind fun i=>
 if(decide (i<0))=true then
  some (b,a,(w64 (d+1)))
 else
  some (a,b,d)
noncomputable def median{α:Type}(d:List α)(a:Int)(b:Int)(c:Int)(e:Int)(cmp:α->α->Option (Int)):Option (Int×Int):=
 (order2 d a b e cmp).bind fun r=>
 (order2 d r.2.1 c r.2.2 cmp).bind fun f=>
 (order2 d r.1 f.1 f.2.2 cmp).bind fun g=>
 some (g.2.1,g.2.2)
noncomputable def medianAdjacent{α:Type}(d:List α)(a:Int)(b:Int)(cmp:α->α->Option (Int)):Option (Int×Int):=
 (median d (w64 (a-1)) a (w64 (a+1)) b cmp).bind fun r=>
 some (r.1,r.2)
noncomputable def choosePivot{α:Type}(d:List α)(a:Int)(b:Int)(cmp:α->α->Option (Int)):Option (Int×Int):=
 (chk ((4:Int)≠0)).bind fun u=>
 (chk ((4:Int)≠0)).bind fun n=>
 (chk ((4:Int)≠0)).bind fun o=>
 (if(decide (8<=(w64 (b-a))))=true then
  (if(decide (50<=(w64 (b-a))))=true then
   (medianAdjacent d (w64 (a+(w64 ((w64 ((w64 (b-a)).tdiv 4))*1)))) 0 cmp).bind fun r=>
   (medianAdjacent d (w64 (a+(w64 ((w64 ((w64 (b-a)).tdiv 4))*2)))) r.2 cmp).bind fun e=>
   (medianAdjacent d (w64 (a+(w64 ((w64 ((w64 (b-a)).tdiv 4))*3)))) e.2 cmp).bind fun f=>
   some (r.1,e.1,f.1,f.2)
  else
   some ((w64 (a+(w64 ((w64 ((w64 (b-a)).tdiv 4))*1)))),(w64 (a+(w64 ((w64 ((w64 (b-a)).tdiv 4))*2)))),(w64 (a+(w64 ((w64 ((w64 (b-a)).tdiv 4))*3)))),(0:Int))).bind fun((j,k,l,m):Int×Int×Int×Int)=>
  (median d j k l m cmp).bind fun g=>
  some (g.1,g.2)
 else
  some ((w64 (a+(w64 ((w64 ((w64 (b-a)).tdiv 4))*2)))),(0:Int))).bind fun((v,i):Int×Int)=>
 if(i==0)=true then
  some (v,1)
 else
  if(i==12)=true then
   some (v,2)
  else
   some (v,0)
noncomputable def yh{α:Type}:Int×Int×(List α)->Option (Lp (Int×Int×(List α)) ((List α)))
 |(v,b,a)=>
  if(decide (v<b))=true then
   (idx a b).bind fun d=>
   (idx a v).bind fun e=>
   (idx a v).bind fun f=>
   (idx (a.set v.toNat d) b).bind fun g=>
   some (.nx ((w64 (v+1)),(w64 (b-1)),((a.set v.toNat d).set b.toNat e)))
  else
   some (.dn a)
noncomputable def reverseRange{α:Type}(d:List α)(a:Int)(b:Int)(cmp:α->α->Option (Int)):Option ((List α)):=
 iter (yh) (a,(w64 (b-1)),d)
noncomputable def wC{α:Type}(b:Int)(cmp:α->α->Option (Int))(a:List α):Int->Option (Lp (Int) (Int))
 |v3=>
  (if(decide (v3<b))=true then(idx a v3).bind fun d=>
  (idx a (w64 (v3-1))).bind fun e=>
  (cmp d e).bind fun f=>
  some (!(decide (f<0)))else some false).bind fun(g:Bool)=>
  if g=true then
   some (.nx (w64 (v3+1)))
  else
   some (.dn v3)
noncomputable def wB{α:Type}(cmp:α->α->Option (Int)):Int×(List α)->Option (Lp (Int×(List α)) ((List α)))
 |(b,a)=>
  if(decide (1<=b))=true then
   (idx a b).bind fun e=>
   (idx a (w64 (b-1))).bind fun f=>
   (cmp e f).bind fun k=>
   if(!(decide (k<0)))=true then
    some (.dn a)
   else
    (idx a (w64 (b-1))).bind fun d=>
    (idx a b).bind fun g=>
    (idx a b).bind fun i=>
    (idx (a.set b.toNat d) (w64 (b-1))).bind fun j=>
    some (.nx ((w64 (b-1)),((a.set b.toNat d).set (w64 (b-1)).toNat g)))
  else
   some (.dn a)
noncomputable def wz{α:Type}(b:Int)(cmp:α->α->Option (Int)):Int×(List α)->Option (Lp (Int×(List α)) ((List α)))
 |(d,a)=>
  if(decide (d<b))=true then
   (idx a d).bind fun f=>
   (idx a (w64 (d-1))).bind fun g=>
   (cmp f g).bind fun l=>
   if(!(decide (l<0)))=true then
    some (.dn a)
   else
    (idx a (w64 (d-1))).bind fun e=>
    (idx a d).bind fun i=>
    (idx a d).bind fun j=>
    (idx (a.set d.toNat e) (w64 (d-1))).bind fun k=>
    some (.nx ((w64 (d+1)),((a.set d.toNat e).set (w64 (d-1)).toNat i)))
  else
   some (.dn a)
noncomputable def yD{α:Type}(a:Int)(b:Int)(cmp:α->α->Option (Int)):Int×Int×(List α)->Option (Lp (Int×Int×(List α)) (Fl (Bool×(List α)) ((List α))))
 |(v,m,d)=>
  if(decide (m<5))=true then
   flb ((iter (wC b cmp d) v).bind fun(e:Int)=>
   if(e==b)=true then
    some (.ret (.dn (.ret (true,d))))
   else
    if(decide ((w64 (b-a))<50))=true then
     some (.ret (.dn (.ret (false,d))))
    else
     (idx d (w64 (e-1))).bind fun k=>
     (idx d e).bind fun l=>
     (idx d e).bind fun n=>
     (idx (d.set e.toNat k) (w64 (e-1))).bind fun o=>
     (if(decide (2<=(w64 (e-a))))=true then
      (iter (wB cmp) ((w64 (e-1)),((d.set e.toNat k).set (w64 (e-1)).toNat l))).bind fun(i:List α)=>
      some i
     else
      some ((d.set e.toNat k).set (w64 (e-1)).toNat l)).bind fun(f:List α)=>
     if(decide (2<=(w64 (b-e))))=true then
      (iter (wz b cmp) ((w64 (e+1)),f)).bind fun(j:List α)=>
      some (.go (e,j))
     else
      some (.go (e,f))) fun((p,g):Int×(List α))=>
   some (.nx (p,(w64 (m+1)),g))
  else
   some (.dn (.go d))
noncomputable def partialInsertionSort{α:Type}(e:List α)(a:Int)(b:Int)(cmp:α->α->Option (Int)):Option (Bool×(List α)):=
 flb (iter (yD a b cmp) ((w64 (a+1)),(0:Int),e)) fun(d:List α)=>
 some (false,d)
noncomputable def yC{α:Type}(a:Int)(cmp:α->α->Option (Int))(g:Int)(b:List α):Int->Option (Lp (Int) (Int))
 |v2=>
  (if(decide (v2<=g))=true then(idx b a).bind fun d=>
  (idx b v2).bind fun e=>
  (cmp d e).bind fun f=>
  some (!(decide (f<0)))else some false).bind fun(i:Bool)=>
  if i=true then
   some (.nx (w64 (v2+1)))
  else
   some (.dn v2)
noncomputable def yB{α:Type}(a:Int)(cmp:α->α->Option (Int))(b:List α)(g:Int):Int->Option (Lp (Int) (Int))
 |v5=>
  (if(decide (g<=v5))=true then(idx b a).bind fun d=>
  (idx b v5).bind fun e=>
  (cmp d e).bind fun f=>
  some (decide (f<0))else some false).bind fun(i:Bool)=>
  if i=true then
   some (.nx (w64 (v5-1)))
  else
   some (.dn v5)
noncomputable def yA{α:Type}(a:Int)(cmp:α->α->Option (Int)):Int×Int×(List α)->Option (Lp (Int×Int×(List α)) (Int×(List α)))
 |(v,i,b)=>
  (iter (yC a cmp i b) v).bind fun(d:Int)=>
  (iter (yB a cmp b d) i).bind fun(f:Int)=>
  if(decide (f<d))=true then
   some (.dn (d,b))
  else
   (idx b f).bind fun e=>
   (idx b d).bind fun g=>
   (idx b d).bind fun j=>
   (idx (b.set d.toNat e) f).bind fun k=>
   some (.nx ((w64 (d+1)),(w64 (f-1)),((b.set d.toNat e).set f.toNat g)))
noncomputable def partitionEqual{α:Type}(d:List α)(a:Int)(b:Int)(e:Int)(cmp:α->α->Option (Int)):Option (Int×(List α)):=
 (idx d e).bind fun g=>
 (idx d a).bind fun i=>
 (idx d a).bind fun k=>
 (idx (d.set a.toNat g) e).bind fun l=>
 (iter (yA a cmp) ((w64 (a+1)),(w64 (b-1)),((d.set a.toNat g).set e.toNat i))).bind fun((j,f):Int×(List α))=>
 some (j,f)
noncomputable def yx{α:Type}(e:List α)(a:Int)(b:Int)(d:Int)(cmp:α->α->Option (Int))(i:α)(j:α):Int->Option (Lp (Int) (Int))
 |v=>
  (if(decide (v<=(w64 (b-1))))=true then(idx ((e.set a.toNat i).set d.toNat j) v).bind fun f=>
  (idx ((e.set a.toNat i).set d.toNat j) a).bind fun g=>
  (cmp f g).bind fun k=>
  some (decide (k<0))else some false).bind fun(l:Bool)=>
  if l=true then
   some (.nx (w64 (v+1)))
  else
   some (.dn v)
noncomputable def yw{α:Type}(d:List α)(a:Int)(b:Int)(cmp:α->α->Option (Int))(g:α)(i:α)(k:Int):Int->Option (Lp (Int) (Int))
 |v3=>
  (if(decide (k<=v3))=true then(idx ((d.set a.toNat g).set b.toNat i) v3).bind fun e=>
  (idx ((d.set a.toNat g).set b.toNat i) a).bind fun f=>
  (cmp e f).bind fun j=>
  some (!(decide (j<0)))else some false).bind fun(l:Bool)=>
  if l=true then
   some (.nx (w64 (v3-1)))
  else
   some (.dn v3)
noncomputable def uG{α:Type}(a:Int)(cmp:α->α->Option (Int))(g:Int)(b:List α):Int->Option (Lp (Int) (Int))
 |v8=>
  (if(decide (v8<=g))=true then(idx b v8).bind fun d=>
  (idx b a).bind fun e=>
  (cmp d e).bind fun f=>
  some (decide (f<0))else some false).bind fun(i:Bool)=>
  if i=true then
   some (.nx (w64 (v8+1)))
  else
   some (.dn v8)
noncomputable def uF{α:Type}(a:Int)(cmp:α->α->Option (Int))(b:List α)(f:Int):Int->Option (Lp (Int) (Int))
 |v11=>
  (if(decide (f<=v11))=true then(idx b v11).bind fun d=>
  (idx b a).bind fun e=>
  (cmp d e).bind fun i=>
  some (!(decide (i<0)))else some false).bind fun(g:Bool)=>
  if g=true then
   some (.nx (w64 (v11-1)))
  else
   some (.dn v11)
noncomputable def yu{α:Type}(a:Int)(cmp:α->α->Option (Int)):Int×Int×(List α)->Option (Lp (Int×Int×(List α)) (Int×(List α)))
 |(l,i,b)=>
  (iter (uG a cmp i b) l).bind fun(d:Int)=>
  (iter (uF a cmp b d) i).bind fun(e:Int)=>
  if(decide (e<d))=true then
   some (.dn (e,b))
  else
   (idx b e).bind fun f=>
   (idx b d).bind fun g=>
   (idx b d).bind fun j=>
   (idx (b.set d.toNat f) e).bind fun k=>
   some (.nx ((w64 (d+1)),(w64 (e-1)),((b.set d.toNat f).set e.toNat g)))
noncomputable def partition{α:Type}(e:List α)(a:Int)(b:Int)(d:Int)(cmp:α->α->Option (Int)):Option (Int×Bool×(List α)):=
 (idx e d).bind fun g=>
 (idx e a).bind fun i=>
 (idx e a).bind fun A=>
 (idx (e.set a.toNat g) d).bind fun B=>
 (iter (yx e a b d cmp g i) (w64 (a+1))).bind fun(l:Int)=>
 (iter (yw e a d cmp g i l) (w64 (b-1))).bind fun(k:Int)=>
 if(decide (k<l))=true then
  (idx ((e.set a.toNat g).set d.toNat i) a).bind fun m=>
  (idx ((e.set a.toNat g).set d.toNat i) k).bind fun p=>
  (idx ((e.set a.toNat g).set d.toNat i) k).bind fun s=>
  (idx (((e.set a.toNat g).set d.toNat i).set k.toNat m) a).bind fun t=>
  some (k,true,((((e.set a.toNat g).set d.toNat i).set k.toNat m).set a.toNat p))
 else
  (idx ((e.set a.toNat g).set d.toNat i) k).bind fun n=>
  (idx ((e.set a.toNat g).set d.toNat i) l).bind fun q=>
  (idx ((e.set a.toNat g).set d.toNat i) l).bind fun u=>
  (idx (((e.set a.toNat g).set d.toNat i).set l.toNat n) k).bind fun v=>
  (iter (yu a cmp) ((w64 (l+1)),(w64 (k-1)),((((e.set a.toNat g).set d.toNat i).set l.toNat n).set k.toNat q))).bind fun((j,f):Int×(List α))=>
  (idx f a).bind fun o=>
  (idx f j).bind fun r=>
  (idx f j).bind fun w=>
  (idx (f.set j.toNat o) a).bind fun z=>
  some (j,false,((f.set j.toNat o).set a.toNat r))
noncomputable def Ae{α:Type}(gU:IK .u64->Option (IK .u64×IK .u64))(a:Int)(b:Int)(r:(IK .u64)):Int×(List α)×Int->Option (Lp (Int×(List α)×Int) ((List α)))
 |(v,d,j)=>
  (chk ((4:Int)≠0)).bind fun m=>
  if(decide (v<=(w64 ((w64 (a+(w64 ((w64 ((w64 (b-a)).tdiv 4))*2))))+1))))=true then
   (gU (⟨j⟩:IK .u64)).bind fun e=>
   (if(decide ((w64 (b-a))<=(w64 ((IntKind.u64.wrap ((BitVec.ofInt (IntKind.u64).bits e.1.v&&&BitVec.ofInt (IntKind.u64).bits (IntKind.u64.wrap (r.v-1))).toNat:Int))))))=true then
    some (w64 ((w64 ((IntKind.u64.wrap ((BitVec.ofInt (IntKind.u64).bits e.1.v&&&BitVec.ofInt (IntKind.u64).bits (IntKind.u64.wrap (r.v-1))).toNat:Int))))-(w64 (b-a))))
   else
    some (w64 ((IntKind.u64.wrap ((BitVec.ofInt (IntKind.u64).bits e.1.v&&&BitVec.ofInt (IntKind.u64).bits (IntKind.u64.wrap (r.v-1))).toNat:Int))))).bind fun(f:Int)=>
   (idx d (w64 (a+f))).bind fun g=>
   (idx d v).bind fun i=>
   (idx d v).bind fun k=>
   (idx (d.set v.toNat g) (w64 (a+f))).bind fun l=>
   some (.nx ((w64 (v+1)),((d.set v.toNat g).set (w64 (a+f)).toNat i),e.2.v))
  else
   some (.dn d)
noncomputable def breakPatterns{α:Type}(jh:Int->Option (IK .u64))(gU:IK .u64->Option (IK .u64×IK .u64))(d:List α)(a:Int)(b:Int)(cmp:α->α->Option (Int)):Option ((List α)):=
 if(decide (8<=(w64 (b-a))))=true then
  (jh (w64 (b-a))).bind fun r=>
  (chk ((4:Int)≠0)).bind fun u=>
  iter (Ae gU a b r) ((w64 ((w64 (a+(w64 ((w64 ((w64 (b-a)).tdiv 4))*2))))-1)),d,(IntKind.u64.wrap ((w64 (b-a)))))
 else
  some d
noncomputable def yt{α:Type}(jh:Int->Option (IK .u64))(gU:IK .u64->Option (IK .u64×IK .u64))(cmp:α->α->Option Int)(o:(List α)->Int->Int->Int->Option ((List α))):Int×Int×Int×Bool×Bool×(List α)->Option (Lp (Int×Int×Int×Bool×Bool×(List α)) ((List α)))
 |(i,j,g,p,n,e)=>
  if(decide ((w64 (j-i))<=12))=true then
   (insertionSort e i j cmp).bind fun r=>
   some (.dn r)
  else
   if(g==0)=true then
    (heapSort e i j cmp).bind fun D=>
    some (.dn D)
   else
    (if(!p)=true then
     (breakPatterns jh gU e i j cmp).bind fun E=>
     some ((w64 (g-1)),E)
    else
     some (g,e)).bind fun((a,k):Int×(List α))=>
    (choosePivot k i j cmp).bind fun s=>
    (if(s.2==2)=true then
     (reverseRange k i j cmp).bind fun F=>
     some ((w64 ((w64 (j-1))-(w64 (s.1-i)))),(1:Int),F)
    else
     some (s.1,s.2,k)).bind fun((d,l,m):Int×Int×(List α))=>
    flb ((if p=true then if n=true then some (l==1)else some false else some false).bind fun(v:Bool)=>
    if v=true then
     (partialInsertionSort m i j cmp).bind fun A=>
     if A.1=true then
      some (.ret (.dn A.2))
     else
      some (.go A.2)
    else
     some (.go m)) fun(f:List α)=>
    (if(decide (0<i))=true then(idx f (w64 (i-1))).bind fun B=>
    (idx f d).bind fun C=>
    (cmp B C).bind fun t=>
    some (!(decide (t<0)))else some false).bind fun(G:Bool)=>
    if G=true then
     (partitionEqual f i j d cmp).bind fun q=>
     some (.nx (q.1,j,a,p,n,q.2))
    else
     (partition f i j d cmp).bind fun b=>
     (chk ((8:Int)≠0)).bind fun u=>
     if(decide ((w64 (b.1-i))<(w64 (j-b.1))))=true then
      (o b.2.2 i b.1 a).bind fun w=>
      some (.nx ((w64 (b.1+1)),j,a,(decide ((w64 ((w64 (j-i)).tdiv 8))<=(w64 (b.1-i)))),b.2.1,w))
     else
      (o b.2.2 (w64 (b.1+1)) j a).bind fun z=>
      some (.nx (i,b.1,a,(decide ((w64 ((w64 (j-i)).tdiv 8))<=(w64 (j-b.1)))),b.2.1,z))
noncomputable def wu{α:Type}(jh:Int->Option (IK .u64))(gU:IK .u64->Option (IK .u64×IK .u64))(cmp:α->α->Option Int)(e:(List α)->Int->Int->Int->Option ((List α)))(d:List α)(a:Int)(b:Int)(limit:Int):Option ((List α)):=
 iter (yt jh gU cmp e) (a,b,limit,true,true,d)
noncomputable def qD{α:Type}(jh:Int->Option (IK .u64))(gU:IK .u64->Option (IK .u64×IK .u64))(cmp:α->α->Option Int):Nat->(List α)->Int->Int->Int->Option ((List α))
 |0=>fun _ _ _ _=>none
 |n+1=>wu jh gU cmp (qD jh gU cmp n)
noncomputable def pdq{α:Type}(jh:Int->Option (IK .u64))(gU:IK .u64->Option (IK .u64×IK .u64))(cmp:α->α->Option Int)(d:List α)(a:Int)(b:Int)(limit:Int):Option ((List α)):=qD jh gU cmp 4294967296 d a b limit
set_option linter.unusedVariables false
set_option linter.unusedSimpArgs false
set_option linter.unusedVariables false
variable{α β:Type}
def At(l:List α)(i:Int)(x:α):Prop:=0<=i/\ l[i.toNat]? =some x
theorem At.lt{l:List α}{i:Int}{x:α}(h:At l i x):i<l.length:=by
 have:=fK h.2;have:=h.1;omega
theorem At.uniq{l:List α}{i:Int}{x y:α}(h:At l i x)(a:At l i y):x=y:=by
 have:=h.2.symm.trans a.2;cases this;rfl
theorem At.ex{l:List α}{i:Int}(h0:0<=i)(h:i<l.length):∃x,At l i x:=by
 obtain⟨x,a⟩:=jak (l:=l) (i:=i.toNat) (by omega);exact⟨x,h0,a⟩
def swp(l:List α)(i j:Int)(x y:α):List α:=(l.set i.toNat y).set j.toNat x
theorem At.swp{l:List α}{i j:Int}{x y:α}(hi:At l i x)(d:At l j y){k:Int}{z:α}(h:At (swp l i j x y) k z):
  (k=j/\ z=x) \/(k≠j/\ k=i/\ z=y) \/(k≠i/\ k≠j/\ At l k z):=by
 obtain⟨h0,h⟩:=h;have g:=hi.lt;have m:=d.lt;have e:=hi.1;have f:=d.1
 unfold Pdq.swp at h;by_cases a:k=j
 ·subst a;rw[j6 (by simp;omega)]at h;cases h;exact .inl ⟨rfl,rfl⟩
 ·rw[iN (by omega)]at h;by_cases b:k=i
  ·subst b;rw[j6 (by omega)]at h;cases h;exact .inr (.inl ⟨a,rfl,rfl⟩)
  ·rw[iN (by omega)]at h;exact .inr (.inr ⟨b,a,h0,h⟩)
theorem uV{l:List α}{i j:Int}{x y:α}(hi:0<=i)(f:0<=j){k:Int}{z:α}(d:k≠i)(e:k≠j):At (swp l i j x y) k z↔At l k z:=by
 unfold At swp;constructor
 ·rintro⟨a,b⟩;rw[iN (by omega),iN (by omega)]at b;exact⟨a,b⟩
 ·rintro⟨a,b⟩;refine⟨a,?_⟩;rw[iN (by omega),iN (by omega)];exact b
theorem At.swp1{l:List α}{i j:Int}{x y:α}(hi:At l i x)(a:At l j y):At (Pdq.swp l i j x y) i y:=by
 refine⟨hi.1,?_⟩;unfold Pdq.swp;have f:=hi.lt;have b:=hi.1;have d:=a.1
 by_cases e:i=j
 ·subst e;rw[j6 (by simp;omega)];rw[hi.uniq a]
 ·rw[iN (by omega),j6 (by omega)]
structure R(a b:Int)(l l':List α):Prop where
 perm:l'.Perm l
 out:∀i x,i<a \/b<=i->(At l' i x↔At l i x)
 inn:∀i x,a<=i->i<b->At l' i x->∃j,a<=j/\ j<b/\ At l j x
theorem R.len{a b:Int}{l l':List α}(h:R a b l l'):l'.length=l.length:=h.perm.length_eq
theorem R.refl{a b:Int}{l:List α}:R a b l l:=⟨.refl _,fun _ _ _=>.rfl,fun i x d e h=>⟨i,d,e,h⟩⟩
theorem R.trans{a b:Int}{l l' d:List α}(h:R a b l l')(e:R a b l' d):R a b l d:=by
 refine⟨e.perm.trans h.perm,fun i x hi=>(e.out i x hi).trans (h.out i x hi),fun i x m n o=>?_⟩;obtain⟨j,f,g,k⟩:=e.inn i x m n o;exact h.inn j x f g k
theorem R.wide{a b a' d:Int}{l l':List α}(h:R a b l l')(o:a'<=a)(hb:b<=d):R a' d l l':=by
 refine⟨h.perm,fun i x hi=>h.out i x (by omega),fun i x g k e=>?_⟩;by_cases hc:i<a \/b<=i
 ·exact⟨i,g,k,(h.out i x hc).1 e⟩
 ·obtain⟨j,m,n,f⟩:=h.inn i x (by omega) (by omega) e;exact⟨j,by omega,by omega,f⟩
theorem R.swp{a b i j:Int}{l:List α}{x y:α}(hi:At l i x)(d:At l j y)(p:a<=i)(q:i<b)(r:a<=j)(s:j<b):R a b l (Pdq.swp l i j x y):=by
 have A:=hi.lt;have B:=d.lt;have u:=hi.1;have v:=d.1
 refine⟨?_,fun k z w=>uV u v (by omega) (by omega),fun k z n o t=>?_⟩
 ·have e:=hi.2;have f:=d.2
  obtain⟨g,e⟩:=cK.1 e;obtain⟨m,f⟩:=cK.1 f;have:=List.set_set_perm («as»:=l) g m;rw[e,f]at this;exact this
 ·rcases hi.swp d t with⟨rfl,rfl⟩|⟨_,rfl,rfl⟩|⟨_,_,h⟩
  ·exact⟨i,p,q,hi⟩
  ·exact⟨j,r,s,d⟩
  ·exact⟨k,n,o,h⟩
structure Lt(cmp:α->α->Option Int)(le:α->α->Prop):Prop where
 tot:∀x y,le x y \/le y x
 trans:∀{x y z},le x y->le y z->le x z
 hc:∀x y,∃c,cmp x y=some c/\ (c<0↔¬le y x)
def jc(le:α->α->Prop)(l:List α)(a b:Int):Prop:=∀i j x y,a<=i->i<j->j<b->At l i x->At l j y->le x y
section
variable{cmp:α->α->Option Int}{le:α->α->Prop}(h:Lt cmp le)
theorem Tot.lg{l:List α}{i:Int}{k:α->Option β}{Q:β->Prop}(h0:0<=i)(h:i<l.length)(a:∀x,At l i x->Tot (k x) Q):Tot ((Ab.idx l i).bind k) Q:=.idx h0 h fun x b=>a x ⟨h0,b⟩
include h
theorem Lt.refl(x:α):le x x:=by rcases h.tot x x with h|h<;>exact h
theorem Lt.not{x y:α}(a:¬le y x):le x y:=by
 rcases h.tot x y with h1|h1
 ·exact h1
 ·exact absurd h1 a
theorem Tot.cm{x y:α}{k:Int->Option β}{Q:β->Prop}(d:∀c,(c<0↔¬le y x)->Tot (k c) Q):Tot ((cmp x y).bind k) Q:=by
 obtain⟨c,a,b⟩:=h.hc x y;exact .eq a (d c b)
theorem yO{c:Prop}[Decidable c]{l:List α}{i j:Int}(hi:c->0<=i/\ i<l.length)(a:c->0<=j/\ j<l.length):
  Tot (if decide c=true then(idx l i).bind fun k=>(idx l j).bind fun m=>(cmp k m).bind fun n=>some (decide (n<0))else some false)
   fun b=>(b=true->c/\ ∃x y,At l i x/\ At l j y/\ ¬le y x)/\ (b=false->c->∃x y,At l i x/\ At l j y/\ le y x):=by
 refine .iteP (fun hc=>?_) (fun hc=>.ok ⟨nofun,fun _ h=>absurd h hc⟩);refine Tot.lg (hi hc).1 (hi hc).2 fun x f=>Tot.lg (a hc).1 (a hc).2 fun y g=>Tot.cm h fun r d=>.ok ⟨fun e=>⟨hc,x,y,f,g,d.1 (of_decide_eq_true e)⟩,fun e _=>⟨x,y,f,g,?_⟩⟩;have:=of_decide_eq_false e;rw[d]at this;exact Ef.1 this
theorem yN{c:Prop}[Decidable c]{l:List α}{i j:Int}(hi:c->0<=i/\ i<l.length)(a:c->0<=j/\ j<l.length):
  Tot (if decide c=true then(idx l i).bind fun k=>(idx l j).bind fun m=>(cmp k m).bind fun n=>some (!(decide (n<0)))else some false)
   fun b=>(b=true->c/\ ∃x y,At l i x/\ At l j y/\ le y x)/\ (b=false->c->∃x y,At l i x/\ At l j y/\ ¬le y x):=by
 refine .iteP (fun hc=>?_) (fun hc=>.ok ⟨nofun,fun _ h=>absurd h hc⟩);refine Tot.lg (hi hc).1 (hi hc).2 fun x f=>Tot.lg (a hc).1 (a hc).2 fun y g=>Tot.cm h fun r d=>.ok ⟨fun e=>⟨hc,x,y,f,g,?_⟩,fun e _=>⟨x,y,f,g,?_⟩⟩
 ·have:=of_decide_eq_false ((mO _).mp e);rw[d]at this;exact Ef.1 this
 ·exact d.1 (of_decide_eq_true (by simpa using e))
omit h in
theorem Tot.swap{l:List α}{i j:Int}{k:α->α->Option β}{Q:β->Prop}(hi:0<=i/\ i<l.length)(a:0<=j/\ j<l.length)(e:∀x y,At l i x->At l j y->Tot (k y x) Q):
  Tot ((idx l j).bind fun b=>(idx l i).bind fun d=>(idx l i).bind fun _=>(idx (l.set i.toNat b) j).bind fun _=>k b d) Q:=
 Tot.lg a.1 a.2 fun y g=>Tot.lg hi.1 hi.2 fun x f=>Tot.lg hi.1 hi.2 fun _ _=>Tot.lg a.1 (by simp;omega) fun _ _=>e x y f g

theorem SL{a v:Int}{l0:List α}(O:0<=a)(Q:a<=v)(P:v<l0.length)(H:l0.length<=4294967296)(hs:jc le l0 a v):
  Tot (iter (insertionSort_L1 a cmp) (v,l0)) fun l=>R a (v+1) l0 l/\ jc le l a (v+1):=by
 refine Tot.iter (fun m s=>s.1=a+m/\ s.1<=v/\ R a (v+1) l0 s.2/\ ∀i j x y,a<=i->i<j->j<=v->j≠s.1->At s.2 i x->At s.2 j y->le x y) (n:=(v-a).toNat) ⟨by dsimp only;omega,by dsimp only;omega,R.refl,fun i j x y C D w f g d=>hs i j x y C D (by dsimp only at f;omega) g d⟩ ?_;rintro m ⟨N,l⟩ ⟨C,D,w,f⟩;dsimp only at C D w f;have K:=w.len;unfold insertionSort_L1;dsimp only
 simp(disch:=omega) only[jaj];refine Tot.call (yO h (fun _=>by omega) (fun _=>by omega)) fun b hb=>.ite (fun e=>?_) (fun e=>.dn ⟨w,?_⟩)
 ·obtain⟨hc,p,q,L,M,E⟩:=hb.1 e;refine Tot.swap (by omega) (by omega) fun x y g d=>.nx ?_;cases g.uniq L;cases d.uniq M;refine⟨m-1,by omega,by dsimp only;omega,by dsimp only;omega,w.trans (.swp g d (by omega) (by omega) (by omega) (by omega)),?_⟩;have k:=h.not E;intro i j u z B F I J t A;dsimp only at J t A;rcases g.swp d t with⟨rfl,rfl⟩|⟨_,rfl,rfl⟩|⟨S,T,o⟩<;>rcases g.swp d A with⟨rfl,rfl⟩|⟨_,rfl,rfl⟩|⟨V,W,r⟩
  all_goals first|(exfalso;omega)|exact k|exact f _ _ _ _ (by omega) (by omega) (by omega) (by omega) o r|exact f _ _ _ _ (by omega) (by omega) (by omega) (by omega) g r|exact f _ _ _ _ (by omega) (by omega) (by omega) (by omega) d r|exact f _ _ _ _ (by omega) (by omega) (by omega) (by omega) o d|exact f _ _ _ _ (by omega) (by omega) (by omega) (by omega) o g
 ·intro i j u z B F I t A;by_cases G:j=N
  ·subst G;obtain⟨x,y,g,d,k⟩:=hb.2 e (by omega);cases A.uniq g;by_cases hi:i=j-1
   ·subst hi;cases t.uniq d;exact k
   ·exact h.trans (f i (j-1) _ _ B (by omega) (by omega) (by omega) t d) k
  ·exact f i j _ _ B F (by omega) G t A
theorem Qg{a b:Int}{l0:List α}(t:0<=a)(u:a<=b)(z:b<=l0.length)(p:l0.length<=4294967296):
  Tot (insertionSort l0 a b cmp) fun l=>R a b l0 l/\ jc le l a b:=by
 unfold insertionSort;simp(disch:=omega) only[jaj];refine Tot.iter (fun m s=>s.1+m=max b (a+1)/\ a+1<=s.1/\ R a b l0 s.2/\ jc le s.2 a s.1) (n:=(b-(a+1)).toNat) ⟨by dsimp only;omega,by dsimp only;omega,R.refl,fun i j x y g k o _ _=>by dsimp only at o;omega⟩ ?_;rintro m ⟨v,l⟩ ⟨q,r,e,f⟩;dsimp only at q r e f;have w:=e.len;unfold insertionSort_L2;dsimp only
 refine .iteP (fun hc=>?_) (fun hc=>.dn ⟨e,fun i j x y g k o=>f i j x y g k (by omega)⟩);refine Tot.call (SL h t (by omega) (by omega) (by omega) f) fun l' d=>?_;simp(disch:=omega) only[jaj];exact .nx ⟨m-1,by omega,by dsimp only;omega,by dsimp only;omega,e.trans (d.1.wide (by omega) (by omega)),d.2⟩
end
set_option linter.unusedVariables false
set_option linter.unusedSimpArgs false
set_option linter.unusedVariables false
variable{α β:Type}
def Hp(le:α->α->Prop)(l:List α)(f lo hi r:Int):Prop:=∀i c x y,lo<=i->i≠r->(c=2*i+1 \/c=2*i+2)->c<hi->At l (f+i) x->At l (f+c) y->le y x
def Gp(le:α->α->Prop)(l:List α)(f lo hi r:Int):Prop:=∀p c x y,lo<=p->(r=2*p+1 \/r=2*p+2)->(c=2*r+1 \/c=2*r+2)->c<hi->At l (f+p) x->At l (f+c) y->le y x
section
variable{cmp:α->α->Option Int}{le:α->α->Prop}(h:Lt cmp le)
include h
theorem sift{f lo hi r:Int}{l0:List α}(hf:0<=f)(ad:0<=lo)(hr:lo<=r)(O:r<=4294967296)(hl:f+hi<=l0.length)(ab:0<=hi)(W:l0.length<=4294967296)(h1:Hp le l0 f lo hi r)(h2:Gp le l0 f lo hi r):
  Tot (siftDown l0 r hi f cmp) fun l=>R f (f+hi) l0 l/\ Hp le l f lo hi (-1):=by
 unfold siftDown;refine Tot.iter (fun m s=>m=(hi-s.1).toNat/\ lo<=s.1/\ s.1<=4294967296/\ R f (f+hi) l0 s.2/\ Hp le s.2 f lo hi s.1/\ Gp le s.2 f lo hi s.1) (n:=(hi-r).toNat) ⟨rfl,hr,O,R.refl,h1,h2⟩ ?_;rintro m ⟨v,l⟩ ⟨g1,g2,L,F,G,V⟩;dsimp only at g1 g2 L F G V;have ac:=F.len;unfold x9;dsimp only
 simp(disch:=omega) only[jaj];refine .iteP (fun hc=>.dn ⟨F,fun i c x y D J o A d a=>?_⟩) (fun hc=>?_)
 ·refine G i c x y D (fun e=>?_) o A d a;omega
 refine Tot.call (P:=fun(c:Int)=>(c=2*v+1 \/c=2*v+2)/\ c<hi/\ ∀g x y,(g=2*v+1 \/g=2*v+2)->g<hi->At l (f+g) x->At l (f+c) y->le x y) ?_ fun c M=>?_
 ·refine Tot.call (yO h (fun _=>by omega) (fun _=>by omega)) fun b hb=>.ite (fun e=>?_) (fun e=>?_)
  ·obtain⟨aa,p,q,N,E,C⟩:=hb.1 e;refine .ok ⟨.inr (by omega),by omega,fun g x y j Z d a=>?_⟩;rw[show f+(2*v+1)+1=f+(2*v+1+1)by omega]at E;cases a.uniq E;rcases j with rfl|rfl
   ·cases d.uniq N;exact h.not C
   ·rw[show f+(2*v+2)=f+(2*v+1+1)by omega]at d;cases d.uniq E;exact h.refl _
  ·refine .ok ⟨.inl rfl,by omega,fun g x y j Z d a=>?_⟩;rcases j with rfl|rfl
   ·cases d.uniq a;exact h.refl _
   ·obtain⟨p,q,N,E,B⟩:=hb.2 e (by omega);rw[show f+(2*v+1)+1=f+(2*v+2)by omega]at E;cases d.uniq E;cases a.uniq N;exact B
 ·obtain⟨X,Y,T⟩:=M;simp(disch:=omega) only[jaj];refine Tot.lg (by omega) (by omega) fun x d=>Tot.lg (by omega) (by omega) fun y a=>Tot.cm h fun r4 H=>.iteN (fun K=>.dn ⟨F,fun i g u z D J o A t w=>?_⟩) (fun K=>?_)
  ·rw[H]at K;have B:=Ef.1 K;by_cases hi:i=v
   ·subst hi;cases t.uniq d;exact h.trans (T g _ _ o A w a) B
   ·exact G i g u z D hi o A t w
  ·have C:=h.not (H.1 K);refine Tot.swap (by omega) (by omega) fun x' y' Q S=>.nx ?_;cases d.uniq Q;cases a.uniq S;refine⟨(hi-c).toNat,by omega,rfl,by dsimp only;omega,by dsimp only;omega,F.trans (.swp d a (by omega) (by omega) (by omega) (by omega)),?_,?_⟩
   ·intro i g u z D J o A t w;dsimp only at J t w;by_cases e0:i=v
    ·subst e0;cases t.uniq (d.swp1 a);rcases d.swp a w with⟨j,rfl⟩|⟨_,j,rfl⟩|⟨_,_,k⟩
     ·exact C
     ·omega
     ·exact T g _ _ o A k a
    ·rcases d.swp a t with⟨j,rfl⟩|⟨_,j,rfl⟩|⟨_,_,I⟩
     ·omega
     ·omega
     ·rcases d.swp a w with⟨j,rfl⟩|⟨_,j,rfl⟩|⟨_,_,k⟩
      ·omega
      ·exact V i c u _ D (by omega) X Y I a
      ·exact G i g u z D e0 o A I k
   ·intro p g u z D J o A t w;dsimp only at J o t w;have e0:p=v:=by omega
    subst e0;cases t.uniq (d.swp1 a);rcases d.swp a w with⟨j,rfl⟩|⟨_,j,rfl⟩|⟨_,_,k⟩
    ·omega
    ·omega
    ·exact G c g _ _ (by omega) (by omega) o A a k
theorem Qe{f hi:Int}{l:List α}(o:0<=f)(g:Hp le l f 0 hi (-1))(p:f+hi<=l.length):∀(n:Nat)(j:Int)(x y:α),j=n->j<hi->At l f x->At l (f+j) y->le y x:=by
 intro n
 induction n using Nat.strongRecOn with
 |_ n k=>
  intro j x y m e b a;by_cases h0:j=0
  ·subst h0;rw[Int.add_zero]at a;cases b.uniq a;exact h.refl _
  ·obtain⟨z,d⟩:=At.ex (l:=l) (i:=f+(j-1)/2) (by omega) (by omega);exact h.trans (g ((j-1)/2) j z y (by omega) (by omega) (by omega) e d a) (k ((j-1)/2).toNat (by omega) ((j-1)/2) x z (by omega) (by omega) b d)
theorem heap{a b:Int}{l0:List α}(N:0<=a)(V:a<b)(X:b<=l0.length)(S:l0.length<=4294967296):
  Tot (heapSort l0 a b cmp) fun l=>R a b l0 l/\ jc le l a b:=by
 unfold heapSort;refine Tot.chk (by decide) ?_;simp(disch:=omega) only[jaj];have Q:(b-a-1).tdiv 2=(b-a-1)/2:=J2 (by omega);rw[Q];simp(disch:=omega) only[jaj];refine Tot.call (P:=fun l=>R a b l0 l/\ Hp le l a 0 (b-a) (-1)) ?_ fun Y I=>?_
 ·refine Tot.iter (fun m s=>s.1+1=(m:Int)/\ s.1<=4294967295/\ R a b l0 s.2/\ Hp le s.2 a (s.1+1) (b-a) (-1)) (n:=((b-a-1)/2+1).toNat) ⟨by dsimp only;omega,by dsimp only;omega,R.refl,fun i c x y e g q t _ _=>by dsimp only at e;omega⟩ ?_;rintro m ⟨v,l⟩ ⟨L,M,C,E⟩;dsimp only at L M C E;have O:=C.len;unfold z8;dsimp only
  simp(disch:=omega) only[jaj];refine .iteP (fun hc=>?_) (fun hc=>.dn ⟨C,?_⟩)
  ·refine Tot.call (sift h N hc (kR v) (by omega) (by omega) (by omega) (by omega) (fun i c x y e g q t A B=>E i c x y (by omega) (by omega) q t A B) (fun p c x y e g=>by omega)) fun l' d=>?_;refine .nx ⟨m-1,by omega,by dsimp only;omega,by dsimp only;omega,C.trans (d.1.wide (by omega) (by omega)),?_⟩;dsimp only
   rw[show v-1+1=v by omega];exact d.2
  ·rw[show v+1=0 by omega]at E;exact E
 ·refine Tot.iter (fun m s=>s.1+1=(m:Int)/\ s.1<b-a/\ R a b l0 s.2/\ Hp le s.2 a 0 (s.1+1) (-1)/\ ∀i j x y,a<=i->i<j->a+s.1<j->j<b->At s.2 i x->At s.2 j y->le x y) (n:=(b-a).toNat) ⟨by dsimp only;omega,by dsimp only;omega,I.1,?_,fun i j x y e g q t _ _=>by dsimp only at q;omega⟩ ?_
  ·dsimp only
   rw[show b-a-1+1=b-a by omega];exact I.2
  rintro m ⟨v,l⟩ ⟨L,M,C,E,H⟩;dsimp only at L M C E H;have O:=C.len;unfold zZ;dsimp only
  simp(disch:=omega) only[jaj];refine .iteP (fun hc=>?_) (fun hc=>.dn ⟨C,fun i j x y e g q A B=>H i j x y e g (by omega) q A B⟩);refine Tot.swap (by omega) (by omega) fun x y A B=>?_;have T:=R.swp A B (a:=a) (b:=b) (by omega) (by omega) (by omega) (by omega);have W:=T.len;have F:∀j z,a<=j->j<=a+v->At l j z->le z x:=fun j z e g o=>Qe h N E (by omega) (j-a).toNat (j-a) x z (by omega) (by omega) A (by rw[show a+(j-a)=j by omega];exact o);have D:∀i j u z,a<=i->i<j->a+v<=j->j<b->At (swp l a (a+v) x y) i u->At (swp l a (a+v) x y) j z->le u z:=by
   intro i j u z e g q t w o;rcases A.swp B o with⟨K,rfl⟩|⟨_,K,rfl⟩|⟨_,_,G⟩
   ·rcases A.swp B w with⟨J,rfl⟩|⟨_,J,rfl⟩|⟨_,_,k⟩
    ·omega
    ·exact F _ _ (by omega) (by omega) B
    ·exact F _ _ (by omega) (by omega) k
   ·omega
   ·rcases A.swp B w with⟨J,rfl⟩|⟨_,J,rfl⟩|⟨_,_,k⟩
    ·exact H a j _ _ (by omega) (by omega) (by omega) t A G
    ·exact H (a+v) j _ _ (by omega) (by omega) (by omega) t B G
    ·exact H i j _ _ e g (by omega) t k G
  refine Tot.call (sift h (f:=a) (lo:=0) (hi:=v) (r:=0) (l0:=swp l a (a+v) x y) N (by omega) (by omega) (by omega) (by omega) (by omega) (by omega) ?_ ?_) fun l' d=>?_
  ·intro i c u z e g q t w o;rw[uV (by omega) (by omega) (by omega) (by omega)]at w o;exact E i c u z e (by omega) q (by omega) w o
  ·intro p c u z e g;omega
  ·refine .nx ⟨m-1,by omega,by dsimp only;omega,by dsimp only;omega,(C.trans T).trans (d.1.wide (by omega) (by omega)),?_,?_⟩
   ·dsimp only
    rw[show v-1+1=v by omega];exact d.2
   ·intro i j u z e g q t w o;dsimp only at q w o;rw[d.1.out j z (by omega)]at o;by_cases hi:i<a+v
    ·obtain⟨i',K,J,k⟩:=d.1.inn i u e hi w;exact D i' j u z K (by omega) (by omega) t k o
    ·rw[d.1.out i u (by omega)]at w;exact D i j u z e g (by omega) t w o
end
set_option linter.unusedVariables false
set_option linter.unusedSimpArgs false
set_option linter.unusedVariables false
variable{α β:Type}
section
variable{cmp:α->α->Option Int}{le:α->α->Prop}(h:Lt cmp le)
include h
theorem Dc{l:List α}{a b s:Int}(d:0<=a/\ a<l.length)(hb:0<=b/\ b<l.length):Tot (order2 l a b s cmp) fun r=>(r.1=a/\ r.2.1=b) \/(r.1=b/\ r.2.1=a):=by
 unfold order2;exact Tot.lg hb.1 hb.2 fun x _=>Tot.lg d.1 d.2 fun y _=>Tot.cm h fun c _=>.iteP (fun _=>.ok (.inr ⟨rfl,rfl⟩)) (fun _=>.ok (.inl ⟨rfl,rfl⟩))
theorem IU{l:List α}{lo hi a b c s:Int}(h0:0<=lo)(g:hi<=l.length)(f:lo<=a/\ a<hi)(hb:lo<=b/\ b<hi)(hc:lo<=c/\ c<hi):Tot (median l a b c s cmp) fun r=>lo<=r.1/\ r.1<hi:=by
 unfold median;refine Tot.call (Dc h (by omega) (by omega)) fun r i=>?_;refine Tot.call (Dc h (by omega) (by omega)) fun j d=>?_;refine Tot.call (Dc h (by omega) (by omega)) fun k e=>?_;exact .ok (by dsimp only;omega)
theorem Cq{l:List α}{lo hi a s:Int}(h0:0<=lo)(d:hi<=l.length)(b:l.length<=4294967296)(f:lo<a/\ a+1<hi):Tot (medianAdjacent l a s cmp) fun r=>lo<=r.1/\ r.1<hi:=by
 unfold medianAdjacent;simp(disch:=omega) only[jaj];exact Tot.call (IU h h0 d (by omega) (by omega) (by omega)) fun r e=>.ok e
theorem PW{l:List α}{a b:Int}(h0:0<=a)(i:8<=b-a)(g:b<=l.length)(d:l.length<=4294967296):Tot (choosePivot l a b cmp) fun r=>a<=r.1/\ r.1<b:=by
 unfold choosePivot;refine Tot.chk (by decide) (Tot.chk (by decide) (Tot.chk (by decide) ?_));have e:w64 (b-a)=b-a:=jaj (by omega);have o:(b-a).tdiv 4=(b-a)/4:=J2 (by omega);rw[e,o];simp(disch:=omega) only[jaj];refine Tot.call (P:=fun(r:Int×Int)=>a<=r.1/\ r.1<b) (.iteP (fun _=>?_) (fun n=>absurd i n)) fun r f=>?_
 ·refine Tot.call (P:=fun(r:Int×Int×Int×Int)=>(a<=r.1/\ r.1<b)/\ (a<=r.2.1/\ r.2.1<b)/\ (a<=r.2.2.1/\ r.2.2.1<b)) (.iteP (fun _=>?_) (fun n=>.ok (by dsimp only;omega))) fun⟨t,u,w,z⟩ m=>?_
  ·refine Tot.call (Cq h h0 g d (by omega)) fun r f=>Tot.call (Cq h h0 g d (by omega)) fun p j=>Tot.call (Cq h h0 g d (by omega)) fun q k=>.ok ⟨f,j,k⟩
  ·exact Tot.call (IU h h0 g m.1 m.2.1 m.2.2) fun r f=>.ok f
 ·obtain⟨v,s⟩:=r;exact .ite (fun _=>.ok f) (fun _=>.ite (fun _=>.ok f) (fun _=>.ok f))
omit h in
theorem Oi{l0:List α}{a b:Int}(h0:0<=a)(p:a<=b)(u:b<=l0.length)(f:l0.length<=4294967296):Tot (reverseRange l0 a b cmp) fun l=>R a b l0 l:=by
 unfold reverseRange;simp(disch:=omega) only[jaj];refine Tot.iter (fun m s=>m=(s.2.1+1-s.1).toNat/\ a<=s.1/\ s.1<=s.2.1+2/\ s.2.1<b/\ R a b l0 s.2.2) (n:=(b-1+1-a).toNat) ⟨rfl,by dsimp only;omega,by dsimp only;omega,by dsimp only;omega,R.refl⟩ ?_;rintro m ⟨i,j,l⟩ ⟨g,k,e,o,d⟩;dsimp only at g k e o d;have q:=d.len;unfold yh;dsimp only
 refine .iteP (fun hc=>?_) (fun hc=>.dn d);simp(disch:=omega) only[jaj];exact Tot.swap (by omega) (by omega) fun x y r t=>.nx ⟨(j-1+1-(i+1)).toNat,by omega,rfl,by dsimp only;omega,by dsimp only;omega,by dsimp only;omega,d.trans (.swp r t (by omega) (by omega) (by omega) (by omega))⟩
omit h in
theorem uT{x m:Int}(f:1<=m)(g:m<=8589934592):0<=w64 (IntKind.u64.wrap ((BitVec.ofInt (IntKind.u64).bits x&&&BitVec.ofInt (IntKind.u64).bits (IntKind.u64.wrap (m-1))).toNat:Int))/\
  w64 (IntKind.u64.wrap ((BitVec.ofInt (IntKind.u64).bits x&&&BitVec.ofInt (IntKind.u64).bits (IntKind.u64.wrap (m-1))).toNat:Int))<m:=by
 have e:∀z:Int,0<=z->z<18446744073709551616->IntKind.u64.wrap z=z:=fun z a b=>by
  show z%18446744073709551616=z;exact vW a b
 rw[e (m-1) (by omega) (by omega)];have hb:(BitVec.ofInt (IntKind.u64).bits (m-1)).toNat=(m-1).toNat:=by
  show(BitVec.ofInt 64 (m-1)).toNat=_;rw[BitVec.toNat_ofInt];have:(m-1)%((2^64:Nat):Int)=m-1:=vW (by omega) (by omega);rw[this]
 have d:(BitVec.ofInt (IntKind.u64).bits x&&&BitVec.ofInt (IntKind.u64).bits (m-1)).toNat<=(m-1).toNat:=by
  rw[BitVec.toNat_and,hb];exact Nat.and_le_right
 rw[e _ (by omega) (by omega),jaj (by omega)];omega
structure AP(jh:Int->Option (IK .u64))(gU:IK .u64->Option (IK .u64×IK .u64)):Prop where
 jh:∀n,8<=n->n<=4294967296->Tot (jh n) fun m=>1<=m.v/\ m.v<=2*n
 gU:∀x,Tot (gU x) fun _=>True
omit h in
theorem Pn{jh:Int->Option (IK .u64)}{gU:IK .u64->Option (IK .u64×IK .u64)}(k:AP jh gU){l0:List α}{a b:Int}(h0:0<=a)(u:a<=b)(D:b<=l0.length)(i:l0.length<=4294967296):
  Tot (breakPatterns jh gU l0 a b cmp) fun l=>R a b l0 l:=by
 unfold breakPatterns;have e:w64 (b-a)=b-a:=jaj (by omega);have g:(b-a).tdiv 4=(b-a)/4:=J2 (by omega);rw[e,g];refine .iteP (fun hc=>?_) (fun _=>.ok R.refl);refine Tot.call (k.jh _ hc (by omega)) fun r A=>Tot.chk (by decide) ?_;simp(disch:=omega) only[jaj];refine Tot.iter (fun m s=>m=(a+(b-a)/4*2+2-s.1).toNat/\ a<=s.1/\ s.1<=b/\ R a b l0 s.2.1) (n:=(a+(b-a)/4*2+2-(a+(b-a)/4*2-1)).toNat) ⟨rfl,by dsimp only;omega,by dsimp only;omega,R.refl⟩ ?_;rintro m ⟨v,l,F⟩ ⟨q,t,f,d⟩;dsimp only at q t f d;have z:=d.len;unfold Ae;dsimp only
 rw[e,g];refine Tot.chk (by decide) ?_;simp(disch:=omega) only[jaj];refine .iteP (fun w=>?_) (fun _=>.dn d);refine Tot.call (k.gU _) fun p _=>?_;have j:=uT (x:=p.1.v) (m:=r.v) A.1 (by omega);revert j;generalize w64 (IntKind.u64.wrap ((BitVec.ofInt (IntKind.u64).bits p.1.v&&&BitVec.ofInt (IntKind.u64).bits (IntKind.u64.wrap (r.v-1))).toNat:Int))=o;intro j;refine Tot.call (P:=fun(o':Int)=>0<=o'/\ o'<b-a) (.iteP (fun _=>?_) (fun _=>.ok (by omega))) fun o' E=>?_
 ·simp(disch:=omega) only[jaj];exact .ok (by omega)
 ·simp(disch:=omega) only[jaj];exact Tot.swap (by omega) (by omega) fun x y B C=>.nx ⟨(a+(b-a)/4*2+2-(v+1)).toNat,by omega,rfl,by dsimp only;omega,by dsimp only;omega,d.trans (.swp B C (by omega) (by omega) (by omega) (by omega))⟩
end
set_option linter.unusedVariables false
set_option linter.unusedSimpArgs false
set_option linter.unusedVariables false
variable{α β:Type}
def Low(le:α->α->Prop)(l:List α)(a b:Int):Prop:=0<a->∀y k x,At l (a-1) y->a<=k->k<b->At l k x->le y x
theorem Low.R{le:α->α->Prop}{l l':List α}{a b:Int}(h:Low le l a b)(d:R a b l l'):Low le l' a b:=by
 intro h0 y k x o i m n;obtain⟨j,e,f,g⟩:=d.inn k x i m n;exact h h0 y j x ((d.out _ _ (by omega)).1 o) e f g
theorem jc.R{le:α->α->Prop}{l l':List α}{a b c d:Int}(h:jc le l a b)(e:R c d l l')(hc:b<=c):jc le l' a b:=
 fun i j x y f g k m n=>h i j x y f g k ((e.out _ _ (by omega)).1 m) ((e.out _ _ (by omega)).1 n)
theorem Bu{A B:Type}{b:B}{P:A->Prop}{Q:B->Prop}(h:Q b):(∀a',(Lp.dn b:Lp A B)=.nx a'->P a')/\ ∀a,(Lp.dn b:Lp A B)=.dn a->Q a:=⟨fun _ e=>(by cases e),fun _ e=>(by cases e;exact h)⟩
section
variable{cmp:α->α->Option Int}{le:α->α->Prop}(h:Lt cmp le)
include h
theorem jc.ext{l:List α}{a v:Int}(hs:jc le l a v){x y:α}(f:At l (v-1) y)(n:At l v x)(b:le y x):jc le l a (v+1):=by
 intro i j u z e k o d g;by_cases m:j=v
 ·subst m;cases g.uniq n;by_cases hi:i=j-1
  ·subst hi;cases d.uniq f;exact b
  ·exact h.trans (hs i (j-1) _ _ e (by omega) (by omega) d f) b
 ·exact hs i j _ _ e k (by omega) d g
theorem NJ{l:List α}{a b v:Int}(u:0<=a)(t:a+1<=v)(o:v<=b)(w:b<=l.length)(i:l.length<=4294967296)(hs:jc le l a v):
  Tot (iter (wC b cmp l) v) fun d=>v<=d/\ d<=b/\ jc le l a d/\ (d<b->∃x y,At l d x/\ At l (d-1) y/\ ¬le y x):=by
 refine Tot.iter (fun m s=>m=(b-s).toNat/\ v<=s/\ s<=b/\ jc le l a s) (n:=(b-v).toNat) ⟨rfl,by omega,o,hs⟩ ?_;rintro m s ⟨r,j,k,g⟩;unfold wC;simp(disch:=omega) only[jaj];refine Tot.call (yN h (fun _=>by omega) (fun _=>by omega)) fun c hc=>.ite (fun e=>?_) (fun e=>.dn ⟨j,k,g,fun hb=>hc.2 e hb⟩);obtain⟨hb,x,y,p,q,f⟩:=hc.1 e;exact .nx ⟨(b-(s+1)).toNat,by omega,rfl,by omega,by omega,jc.ext h g q p f⟩
theorem NI{l0:List α}{a v:Int}(X:0<=a)(K:a<v)(Y:v<=l0.length)(M:l0.length<=4294967296)(w:Low le l0 a v)(hs:∀i j x y,a<=i->i<j->j<v->j≠v-1->At l0 i x->At l0 j y->le x y):
  Tot (iter (wB cmp) (v-1,l0)) fun l=>R a v l0 l/\ jc le l a v:=by
 refine Tot.iter (fun m s=>s.1=a+m/\ s.1<v/\ R a v l0 s.2/\ ∀i j x y,a<=i->i<j->j<v->j≠s.1->At s.2 i x->At s.2 j y->le x y) (n:=(v-1-a).toNat) ⟨by dsimp only;omega,by dsimp only;omega,R.refl,hs⟩ ?_;rintro m ⟨I,l⟩ ⟨K,Q,o,b⟩;dsimp only at K Q o b;have S:=o.len;have G:=w.R o;unfold wB;dsimp only
 refine .iteP (fun hc=>?_) (fun hc=>.dn ⟨o,fun i j x y T V W e f=>b i j x y T V W (by omega) e f⟩);simp(disch:=omega) only[jaj];refine Tot.lg (by omega) (by omega) fun p H=>Tot.lg (by omega) (by omega) fun q D=>Tot.cm h fun r N=>.iteN (fun C=>.dn ⟨o,fun i j u z E J O t B=>?_⟩) (fun C=>?_)
 ·rw[N]at C;have d:=Ef.1 C;by_cases L:j=I
  ·subst L;cases B.uniq H;by_cases hi:i=j-1
   ·subst hi;cases t.uniq D;exact d
   ·exact h.trans (b i (j-1) _ _ E (by omega) (by omega) (by omega) t D) d
  ·exact b i j _ _ E J (by omega) L t B
 ·have A:=N.1 C;by_cases F:I=a
  ·subst F;exact absurd (G (by omega) _ I _ D (by omega) (by omega) H) A
  have d:=h.not A;refine Tot.swap (by omega) (by omega) fun x y e f=>.nx ?_;cases e.uniq H;cases f.uniq D;refine⟨m-1,by omega,by dsimp only;omega,by dsimp only;omega,o.trans (.swp e f (by omega) (by omega) (by omega) (by omega)),?_⟩;intro i j u z E J O P t B;dsimp only at P t B;rcases e.swp f t with⟨rfl,rfl⟩|⟨_,rfl,rfl⟩|⟨Z,i2,g⟩<;>rcases e.swp f B with⟨rfl,rfl⟩|⟨_,rfl,rfl⟩|⟨j1,j2,k⟩
  all_goals first|(exfalso;omega)|exact d|exact b _ _ _ _ (by omega) (by omega) (by omega) (by omega) g k|exact b _ _ _ _ (by omega) (by omega) (by omega) (by omega) e k|exact b _ _ _ _ (by omega) (by omega) (by omega) (by omega) f k|exact b _ _ _ _ (by omega) (by omega) (by omega) (by omega) g f|exact b _ _ _ _ (by omega) (by omega) (by omega) (by omega) g e
theorem NH{l0:List α}{v b:Int}(u:0<=v)(e:v<b)(w:b<=l0.length)(f:l0.length<=4294967296):
  Tot (iter (wz b cmp) (v+1,l0)) fun l=>R v b l0 l:=by
 refine Tot.iter (fun m s=>m=(b-s.1).toNat/\ v<s.1/\ s.1<=b/\ R v b l0 s.2) (n:=(b-(v+1)).toNat) ⟨rfl,by dsimp only;omega,by dsimp only;omega,R.refl⟩ ?_;rintro m ⟨t,l⟩ ⟨e,g,d,a⟩;dsimp only at e g d a;have i:=a.len;unfold wz;dsimp only
 refine .iteP (fun hc=>?_) (fun hc=>.dn a);simp(disch:=omega) only[jaj];refine Tot.lg (by omega) (by omega) fun p z=>Tot.lg (by omega) (by omega) fun q A=>Tot.cm h fun r B=>.iteN (fun j=>.dn a) (fun j=>?_);exact Tot.swap (by omega) (by omega) fun x y k o=>.nx ⟨(b-(t+1)).toNat,by omega,rfl,by dsimp only;omega,by dsimp only;omega,a.trans (.swp k o (by omega) (by omega) (by omega) (by omega))⟩
theorem QO{l0:List α}{a b:Int}(S:0<=a)(H:a+1<=b)(hl:b<=l0.length)(T:l0.length<=4294967296)(w:Low le l0 a b):
  Tot (partialInsertionSort l0 a b cmp) fun r=>R a b l0 r.2/\ (r.1=true->jc le r.2 a b):=by
 unfold partialInsertionSort;refine Tot.flb ?_;simp(disch:=omega) only[jaj];refine(Tot.iter (fun m s=>m=(5-s.2.1).toNat/\ a+1<=s.1/\ s.1<=b/\ 0<=s.2.1/\ R a b l0 s.2.2/\ jc le s.2.2 a s.1) (Q:=fun v=>(∀r:Bool×List α,v=.ret r->R a b l0 r.2/\ (r.1=true->jc le r.2 a b))/\ ∀u,v=.go u->R a b l0 u) (n:=5) ⟨rfl,kR _,H,kR _,R.refl,fun i j x y G B t _ _=>by dsimp only at t;omega⟩ ?_).mono fun v V=>⟨V.1,fun u e=>.ok ⟨V.2 u e,nofun⟩⟩;rintro m ⟨v,X,l⟩ ⟨G,B,t,Z,g,O⟩;dsimp only at G B t Z g O;have ab:=g.len;unfold yD;dsimp only
 refine .iteP (fun hc=>?_) (fun hc=>.dn ⟨fun r e=>(by cases e),fun u e=>(by cases e;exact g)⟩);refine Tot.flb (Tot.call (NJ h S B t (by omega) (by omega) O) fun o ⟨k1,k2,W,k4⟩=>.ite (fun e=>.ret (Bu ⟨fun r e'=>?_,fun u e'=>(by cases e')⟩)) (fun e=>?_))
 ·cases e';have:o=b:=by simpa using e
  subst this;exact⟨g,fun _=>W⟩
 have A:o<b:=by
  have:o≠b:=by simpa using e
  omega
 obtain⟨x,y,I,K,ac⟩:=k4 A;refine .iteP (fun _=>.ret (Bu ⟨fun r e'=>?_,fun u e'=>(by cases e')⟩)) (fun _=>?_)
 ·cases e';exact⟨g,nofun⟩
 simp(disch:=omega) only[jaj];refine Tot.swap (by omega) (by omega) fun x' y' J L=>?_;cases I.uniq J;cases K.uniq L;have D:R a b l (swp l o (o-1) x y):=.swp I K (by omega) (by omega) (by omega) (by omega);have ad:=D.len;have q:=(w.R g).R D;refine Tot.call (P:=fun M=>R a b l0 M/\ jc le M a o) (.iteP (fun p=>?_) (fun p=>.ok ⟨g.trans D,fun i j x y G B t _ _=>by omega⟩)) fun M f=>?_
 ·refine Tot.call (NI h (l0:=swp l o (o-1) x y) S (by omega) (by omega) (by omega) (fun h0 z k u E F N C=>q h0 z k u E F (by omega) C) fun i j u z F N Y e4 C E=>?_) fun l' d=>.ok ⟨(g.trans D).trans (d.1.wide (by omega) (by omega)),d.2⟩;rw[uV I.1 K.1 (by omega) (by omega)]at C E;exact W i j u z F N Y C E
 ·have aa:=f.1.len;refine .iteP (fun p=>?_) (fun p=>.go ?_)
  ·refine Tot.call (NH h (by omega) A (by omega) (by omega)) fun l' d=>.go ?_;simp(disch:=omega) only[jaj];exact .nx ⟨(5-(X+1)).toNat,by omega,rfl,by dsimp only;omega,by dsimp only;omega,by dsimp only;omega,f.1.trans (d.wide (by omega) (by omega)),f.2.R d (by omega)⟩
  ·simp(disch:=omega) only[jaj];exact .nx ⟨(5-(X+1)).toNat,by omega,rfl,by dsimp only;omega,by dsimp only;omega,by dsimp only;omega,f.1,f.2⟩
theorem QG{l0:List α}{a b B:Int}(ha:0<=a)(h1:a<=B)(h2:B<b)(hl:b<=l0.length)(T:l0.length<=4294967296)(F:∀p k x,At l0 B p->a<=k->k<b->At l0 k x->le p x):
  Tot (partitionEqual l0 a b B cmp) fun r=>a<r.1/\ r.1<=b/\ R a b l0 r.2/\ ∀i j x y,a<=i->i<r.1->a<=j->j<b->At r.2 i x->At r.2 j y->le x y:=by
 unfold partitionEqual;refine Tot.swap (i:=a) (j:=B) (by omega) (by omega) fun x p W L=>?_;have V:R a b l0 (swp l0 a B x p):=.swp W L (by omega) (by omega) (by omega) (by omega);have D:=W.swp1 L;have ac:=V.len;simp(disch:=omega) only[jaj];refine Tot.call (P:=fun(r:Int×List α)=>a<r.1/\ r.1<=b/\ R a b l0 r.2/\ ∀i x,a<=i->i<r.1->At r.2 i x->le x p) ?_ fun⟨ad,l⟩ G=>.ok ⟨G.1,G.2.1,G.2.2.1,fun i j u z w A Z e4 f g=>h.trans (G.2.2.2 i u w A f) ?_⟩
 ·refine Tot.iter (fun m s=>m=(s.2.1+1-s.1).toNat/\ a<s.1/\ s.1<=s.2.1+1/\ s.2.1<b/\ R a b l0 s.2.2/\ At s.2.2 a p/\ ∀i x,a<=i->i<s.1->At s.2.2 i x->le x p) (n:=(b-1+1-(a+1)).toNat) ⟨rfl,by dsimp only;omega,by dsimp only;omega,by dsimp only;omega,V,D,fun i u w A f=>?_⟩ ?_
  ·dsimp only at A f;have:i=a:=by omega
   subst this;cases f.uniq D;exact h.refl _
  rintro m ⟨i,j,l⟩ ⟨g1,g2,Q,g4,J,C,S⟩;dsimp only at g1 g2 Q g4 J C S;have aa:=J.len;unfold yA;dsimp only
  refine Tot.call (P:=fun(d:Int)=>i<=d/\ d<=j+1/\ (∀k x,a<=k->k<d->At l k x->le x p)/\ (d<=j->∀x,At l d x->¬le x p)) ?_ fun d ⟨u1,u2,Y,u4⟩=>?_
  ·refine Tot.iter (fun m s=>m=(j+1-s).toNat/\ i<=s/\ s<=j+1/\ ∀k x,a<=k->k<s->At l k x->le x p) (n:=(j+1-i).toNat) ⟨rfl,kR _,Q,S⟩ ?_;rintro m s ⟨q1,I,N,X⟩;unfold yC;refine Tot.call (yN h (fun _=>by omega) (fun _=>by omega)) fun c hc=>.ite (fun e=>?_) (fun e=>.dn ⟨I,N,X,fun E u f=>?_⟩)
   ·obtain⟨E,u,z,f,g,o⟩:=hc.1 e;cases f.uniq C;simp(disch:=omega) only[jaj];refine .nx ⟨(j+1-(s+1)).toNat,by omega,rfl,by omega,by omega,fun k t w A H=>?_⟩;by_cases K:k=s
    ·subst K;cases H.uniq g;exact o
    ·exact X k t w (by omega) H
   ·obtain⟨u',z,v,g,o⟩:=hc.2 e E;cases v.uniq C;cases g.uniq f;exact o
  refine Tot.call (P:=fun(q:Int)=>d-1<=q/\ q<=j/\ (d<=q->∀x,At l q x->le x p)) ?_ fun q ⟨d1,d2,O⟩=>?_
  ·refine Tot.iter (fun m s=>m=(s+1-d).toNat/\ d-1<=s/\ s<=j) (n:=(j+1-d).toNat) ⟨rfl,by omega,kR _⟩ ?_;rintro m s ⟨q1,I,N⟩;unfold yB;refine Tot.call (yO h (fun _=>by omega) (fun _=>by omega)) fun c hc=>.ite (fun e=>?_) (fun e=>.dn ⟨I,N,fun E u f=>?_⟩)
   ·obtain⟨E,_⟩:=hc.1 e;simp(disch:=omega) only[jaj];exact .nx ⟨(s-1+1-d).toNat,by omega,rfl,by omega,by omega⟩
   ·obtain⟨u',z,v,g,o⟩:=hc.2 e E;cases v.uniq C;cases g.uniq f;exact o
  refine .iteP (fun hc=>.dn ⟨by dsimp only;omega,by dsimp only;omega,J,Y⟩) (fun hc=>?_);refine Tot.swap (i:=d) (j:=q) (by omega) (by omega) fun u z f g=>?_;have ab:d<q:=by
   rcases Int.lt_or_le d q with h'|h'
   ·exact h'
   ·have:d=q:=by omega
    subst this;exact absurd (O (by omega) u f) (u4 (by omega) u f)
  simp(disch:=omega) only[jaj];refine .nx ⟨(q-1+1-(d+1)).toNat,by omega,rfl,by dsimp only;omega,by dsimp only;omega,by dsimp only;omega,J.trans (.swp f g (by omega) (by omega) (by omega) (by omega)),(uV f.1 g.1 (by omega) (by omega)).2 C,fun k t w A H=>?_⟩;dsimp only at A H;rcases f.swp g H with⟨e,_⟩|⟨_,_,rfl⟩|⟨_,_,M⟩
  ·omega
  ·exact O (by omega) _ g
  ·exact Y k t w (by omega) M
 ·obtain⟨k,q1,I,K⟩:=G.2.2.1.inn j z Z e4 g;exact F p k z L q1 I K
theorem ju0{l:List α}{a i j:Int}{p:α}(J:0<=a)(E:a<i)(b:i<=j+1)(K:j<l.length)(A:l.length<=4294967296)(g:At l a p)(h0:∀k x,a<k->k<i->At l k x->le x p):
  Tot (iter (uG a cmp j l) i) fun v=>i<=v/\ v<=j+1/\ (∀k x,a<k->k<v->At l k x->le x p)/\ (v<=j->∀x,At l v x->le p x):=by
 refine Tot.iter (fun m s=>m=(j+1-s).toNat/\ i<=s/\ s<=j+1/\ ∀k x,a<k->k<s->At l k x->le x p) (n:=(j+1-i).toNat) ⟨rfl,kR _,b,h0⟩ ?_;rintro m s ⟨q1,G,H,C⟩;unfold uG;refine Tot.call (yO h (fun _=>by omega) (fun _=>by have:=g.lt;omega)) fun c hc=>.ite (fun e=>?_) (fun e=>.dn ⟨G,H,C,fun w u o=>?_⟩)
 ·obtain⟨w,u,z,o,r,f⟩:=hc.1 e;cases r.uniq g;simp(disch:=omega) only[jaj];refine .nx ⟨(j+1-(s+1)).toNat,by omega,rfl,by omega,by omega,fun k t D I B=>?_⟩;by_cases F:k=s
  ·subst F;cases B.uniq o;exact h.not f
  ·exact C k t D (by omega) B
 ·obtain⟨L,z,q,r,d⟩:=hc.2 e w;cases q.uniq o;cases r.uniq g;exact d
theorem Gg{l:List α}{a b i j:Int}{p:α}(J:0<=a)(D:a<i)(E:i<=j+1)(K:j<l.length)(w:l.length<=4294967296)(f:At l a p)(h0:∀k x,j<k->k<b->At l k x->le p x):
  Tot (iter (uF a cmp l i) j) fun v=>i-1<=v/\ v<=j/\ (∀k x,v<k->k<b->At l k x->le p x)/\ (i<=v->∀x,At l v x->¬le p x):=by
 refine Tot.iter (fun m s=>m=(s+1-i).toNat/\ i-1<=s/\ s<=j/\ ∀k x,s<k->k<b->At l k x->le p x) (n:=(j+1-i).toNat) ⟨rfl,by omega,kR _,h0⟩ ?_;rintro m s ⟨q1,G,H,B⟩;unfold uF;refine Tot.call (yN h (fun _=>by omega) (fun _=>by have:=f.lt;omega)) fun c hc=>.ite (fun e=>?_) (fun e=>.dn ⟨G,H,B,fun r u g=>?_⟩)
 ·obtain⟨r,u,z,g,q,d⟩:=hc.1 e;cases q.uniq f;simp(disch:=omega) only[jaj];refine .nx ⟨(s-1+1-i).toNat,by omega,rfl,by omega,by omega,fun k t I C A=>?_⟩;by_cases F:k=s
  ·subst F;cases A.uniq g;exact d
  ·exact B k t (by omega) C A
 ·obtain⟨L,z,o,q,d⟩:=hc.2 e r;cases o.uniq g;cases q.uniq f;exact d
theorem OJ{l0:List α}{a b o:Int}(Z:0<=a)(h1:a<=o)(h2:o<b)(hl:b<=l0.length)(ac:l0.length<=4294967296):
  Tot (partition l0 a b o cmp) fun r=>a<=r.1/\ r.1<b/\ R a b l0 r.2.2/\ ∃p,At r.2.2 r.1 p/\ (∀k x,a<=k->k<r.1->At r.2.2 k x->le x p)/\ ∀k x,r.1<k->k<b->At r.2.2 k x->le p x:=by
 have fin:∀{l:List α}{v:Int}{x p:α},R a b l0 l->a<=v->v<b->At l v x->At l a p->(∀k x,a<k->k<=v->At l k x->le x p)->(∀k x,v<k->k<b->At l k x->le p x)->R a b l0 (swp l v a x p)/\ ∃p',At (swp l v a x p) v p'/\ (∀k u,a<=k->k<v->At (swp l v a x p) k u->le u p')/\ ∀k u,v<k->k<b->At (swp l v a x p) k u->le p' u:=by
  intro l v x p hr M N C H X f2;refine⟨hr.trans (.swp C H (by omega) (by omega) (by omega) (by omega)),p,C.swp1 H,fun k u B E d=>?_,fun k u B E d=>?_⟩
  ·rcases C.swp H d with⟨_,rfl⟩|⟨_,e,_⟩|⟨_,_,q⟩
   ·exact X v u (by omega) (kR _) C
   ·omega
   ·exact X k u (by omega) (by omega) q
  ·rcases C.swp H d with⟨_,rfl⟩|⟨_,e,_⟩|⟨_,_,q⟩
   ·omega
   ·omega
   ·exact f2 k u B E q
 unfold partition;refine Tot.swap (i:=a) (j:=o) (by omega) (by omega) fun x p C H=>?_;have S:R a b l0 (swp l0 a o x p):=.swp C H (by omega) (by omega) (by omega) (by omega);have f:=C.swp1 H;have T:=S.len;have M:yx l0 a b o cmp p x=uG a cmp (w64 (b-1)) (swp l0 a o x p):=rfl;have N:∀F,yw l0 a o cmp p x F=uF a cmp (swp l0 a o x p) F:=fun _=>rfl;have e3:(l0.set a.toNat p).set o.toNat x=swp l0 a o x p:=rfl;simp only[M,N,e3];revert S f T;generalize swp l0 a o x p=D;intro S f T;simp(disch:=omega) only[jaj];refine Tot.call (ju0 h Z (by omega) (by omega) (by omega) (by omega) f fun k x B E _=>by omega) fun F ⟨u1,u2,V,W⟩=>?_;refine Tot.call (Gg h (b:=b) Z (by omega) (by omega) (by omega) (by omega) f fun k x B E _=>by omega) fun J ⟨d1,d2,K,L⟩=>?_;refine .iteP (fun hc=>?_) (fun hc=>?_)
 ·refine Tot.swap (i:=J) (j:=a) (by omega) (by omega) fun u z d g=>.ok ?_;cases g.uniq f;exact⟨by dsimp only;omega,by dsimp only;omega,fin S (by omega) (by omega) d f (fun k x B E=>V k x B (by omega)) K⟩
 ·refine Tot.swap (i:=F) (j:=J) (by omega) (by omega) fun u z d g=>?_;have G:F<J:=by
   rcases Int.lt_or_le F J with h'|h'
   ·exact h'
   ·have:F=J:=by omega
    subst this;exact absurd (W (by omega) u d) (L (by omega) u d)
  have step:∀{l:List α}{i j:Int}{u z:α},a<i->i<j->j<b->At l i u->At l j z->(∀k x,a<k->k<i->At l k x->le x p)->(∀k x,j<k->k<b->At l k x->le p x)->le p u->le z p->(∀k x,a<k->k<i+1->At (swp l i j u z) k x->le x p)/\ ∀k x,j-1<k->k<b->At (swp l i j u z) k x->le p x:=by
   intro l i j u z B E k3 d g X f2 c1 c2;refine⟨fun k t M N ht=>?_,fun k t M N ht=>?_⟩
   ·rcases d.swp g ht with⟨e,_⟩|⟨_,_,rfl⟩|⟨_,_,I⟩
    ·omega
    ·exact c2
    ·exact X k t M (by omega) I
   ·rcases d.swp g ht with⟨_,rfl⟩|⟨_,e,_⟩|⟨_,_,I⟩
    ·exact c1
    ·omega
    ·exact f2 k t (by omega) N I
  have hs:=step (by omega) G (by omega) d g V K (W (by omega) u d) (h.not (L (by omega) z g));refine Tot.call (P:=fun(r:Int×List α)=>a<=r.1/\ r.1<b/\ R a b l0 r.2/\ At r.2 a p/\ (∀k x,a<k->k<=r.1->At r.2 k x->le x p)/\ ∀k x,r.1<k->k<b->At r.2 k x->le p x) ?_ fun⟨ab,l⟩ ⟨q1,q2,q3,q4,q5,q6⟩=>?_
  ·simp(disch:=omega) only[jaj];refine Tot.iter (fun m s=>m=(s.2.1+1-s.1).toNat/\ a<s.1/\ s.1<=s.2.1+1/\ s.2.1<b/\ R a b l0 s.2.2/\ At s.2.2 a p/\ (∀k x,a<k->k<s.1->At s.2.2 k x->le x p)/\ ∀k x,s.2.1<k->k<b->At s.2.2 k x->le p x) (n:=(J-1+1-(F+1)).toNat) ⟨rfl,by dsimp only;omega,by dsimp only;omega,by dsimp only;omega,S.trans (.swp d g (by omega) (by omega) (by omega) (by omega)),(uV d.1 g.1 (by omega) (by omega)).2 f,hs.1,hs.2⟩ ?_;rintro m ⟨i,j,l⟩ ⟨g1,g2,g3,g4,Y,O,g7,g8⟩;dsimp only at g1 g2 g3 g4 Y O g7 g8;have Q:=Y.len;unfold yu;dsimp only
   refine Tot.call (ju0 h Z g2 g3 (by omega) (by omega) O g7) fun w ⟨u1,u2,V,W⟩=>?_;refine Tot.call (Gg h (b:=b) Z (by omega) (by omega) (by omega) (by omega) O g8) fun A ⟨d1,d2,K,L⟩=>?_;refine .iteP (fun hc=>.dn ⟨by dsimp only;omega,by dsimp only;omega,Y,O,fun k x B E=>V k x B (by dsimp only at E;omega),K⟩) (fun hc=>?_);refine Tot.swap (i:=w) (j:=A) (by omega) (by omega) fun u z d g=>?_;have G:w<A:=by
    rcases Int.lt_or_le w A with h'|h'
    ·exact h'
    ·have:w=A:=by omega
     subst this;exact absurd (W (by omega) u d) (L (by omega) u d)
   have hs:=step (by omega) G (by omega) d g V K (W (by omega) u d) (h.not (L (by omega) z g));simp(disch:=omega) only[jaj];exact .nx ⟨(A-1+1-(w+1)).toNat,by omega,rfl,by dsimp only;omega,by dsimp only;omega,by dsimp only;omega,Y.trans (.swp d g (by omega) (by omega) (by omega) (by omega)),(uV d.1 g.1 (by omega) (by omega)).2 O,hs.1,hs.2⟩
  ·dsimp only at q1 q2 q3 q4 q5 q6;have Q:=q3.len;dsimp only at Q ⊢;refine Tot.swap (i:=ab) (j:=a) (by omega) (by omega) fun u' z' q aa=>.ok ?_;cases aa.uniq q4;exact⟨q1,q2,fin q3 q1 q2 q q4 q5 q6⟩
end
set_option linter.unusedVariables false
set_option linter.unusedSimpArgs false
set_option linter.unusedVariables false
variable{α β:Type}
def Dn(le:α->α->Prop)(l:List α)(a b d e:Int):Prop:=∀i j x y,a<=i->i<j->j<b->(i<d \/e<=j)->At l i x->At l j y->le x y
theorem Dn.R{le:α->α->Prop}{l l':List α}{a b d e:Int}(hd:Dn le l a b d e)(v:a<=d)(w:e<=b)(f:R d e l l'):Dn le l' a b d e:=by
 intro i j x y o t p u k g;by_cases hi:i<d \/e<=i
 ·rw[f.out i x hi]at k;by_cases s:j<d \/e<=j
  ·rw[f.out j y s]at g;exact hd i j x y o t p u k g
  ·obtain⟨j',q,r,n⟩:=f.inn j y (by omega) (by omega) g;exact hd i j' x y o (by omega) (by omega) (by omega) k n
 ·rw[f.out j y (by omega)]at g;obtain⟨i',q,r,m⟩:=f.inn i x (by omega) (by omega) k;exact hd i' j x y (by omega) (by omega) p (by omega) m g
theorem Dn.fin{le:α->α->Prop}{l l':List α}{a b d e:Int}(hd:Dn le l a b d e)(m:a<=d)(n:e<=b)(o:Pdq.R d e l l')(hs:jc le l' d e):jc le l' a b:=by
 intro i j x y p k q f g;by_cases hc:i<d \/e<=j
 ·exact hd.R m n o i j x y p k q hc f g
 ·exact hs i j x y (by omega) k (by omega) f g
theorem Dn.low{le:α->α->Prop}{l0 l:List α}{a b d f:Int}(hd:Dn le l a b d f)(o:a<=d)(p:f<=b)(m:Pdq.R a b l0 l)(j:Low le l0 a b):Low le l d f:=by
 intro h0 y k x i n q g;by_cases e:d=a
 ·subst e;exact(j.R m) h0 y k x i n (by omega) g
 ·exact hd (d-1) k y x (by omega) (by omega) (by omega) (by omega) i g
section
variable{cmp:α->α->Option Int}{le:α->α->Prop}(h:Lt cmp le)
include h
theorem jtq{jh:Int->Option (IK .u64)}{gU:IK .u64->Option (IK .u64×IK .u64)}(hp:AP jh gU):∀(n:Nat)(l0:List α)(a b limit:Int),0<=a->a<=b->b<=l0.length->l0.length<=4294967296->b-a<n->Low le l0 a b->
  Tot (qD jh gU cmp n l0 a b limit) fun l=>R a b l0 l/\ jc le l a b:=by
 intro n
 induction n with
 |zero=>intro l0 a b limit h1 h2 h3 h4 h5;omega
 |succ n ih=>
  intro l0 a b limit ha af hl ay hn aa;unfold qD wu;refine Tot.iter (fun m s=>m=(s.2.1-s.1).toNat/\ a<=s.1/\ s.1<=s.2.1/\ s.2.1<=b/\ R a b l0 s.2.2.2.2.2/\ Dn le s.2.2.2.2.2 a b s.1 s.2.1) (n:=(b-a).toNat) ⟨rfl,kR _,af,kR _,R.refl,fun i j x y G E W k4 _ _=>by dsimp only at k4;omega⟩ ?_;rintro m ⟨o,q,aE,aq,ad,l⟩ ⟨g1,w,g3,t,N,V⟩;dsimp only at g1 w g3 t N V;have aD:=N.len;have ab:=V.low w t N aa;unfold yt;dsimp only
  simp(disch:=omega) only[jaj];refine .iteP (fun hc=>?_) (fun hc=>?_)
  ·exact Tot.call (Qg h (by omega) g3 (by omega) (by omega)) fun l' D=>.dn ⟨N.trans (D.1.wide w t),V.fin w t D.1 D.2⟩
  refine .ite (fun _=>?_) (fun _=>?_)
  ·exact Tot.call (heap h (by omega) (by omega) (by omega) (by omega)) fun l' D=>.dn ⟨N.trans (D.1.wide w t),V.fin w t D.1 D.2⟩
  refine Tot.call (P:=fun(r:Int×List α)=>R o q l r.2) (.ite (fun _=>Tot.call (Pn hp (by omega) g3 (by omega) (by omega)) fun r hr=>.ok hr) (fun _=>.ok R.refl)) fun⟨d,l2⟩ r2=>?_;dsimp only at r2;have az:l2.length=l.length:=r2.len;refine Tot.call (PW h (l:=l2) (by omega) (by omega) (by omega) (by omega)) fun⟨pv,ax⟩ Q=>?_;dsimp only at Q ⊢;refine Tot.call (P:=fun(r:Int×Int×List α)=>o<=r.1/\ r.1<q/\ R o q l r.2.2) (.ite (fun _=>Tot.call (Oi (by omega) g3 (by omega) (by omega)) fun r hr=>?_) (fun _=>.ok ⟨Q.1,Q.2,r2⟩)) fun⟨S,aj,l3⟩ ⟨p1,p2,T⟩=>?_
  ·simp(disch:=omega) only[jaj];exact .ok ⟨by dsimp only;omega,by dsimp only;omega,r2.trans hr⟩
  dsimp only at p1 p2 T ⊢;have aA:l3.length=l.length:=T.len;refine Tot.flb (Tot.call (P:=fun _=>True) (.ite (fun _=>.ite (fun _=>.ok trivial) (fun _=>.ok trivial)) (fun _=>.ok trivial)) fun v _=>?_);have M:∀X,R o q l X->Tot ((if(decide (0<o))=true then(idx X (w64 (o-1))).bind fun e6=>(idx X S).bind fun e7=>(cmp e6 e7).bind fun ar=>some (!(decide (ar<0)))else some false).bind fun(v1:Bool)=>
    if v1=true then
     (partitionEqual X o q S cmp).bind fun ae=>
     some (Lp.nx (ae.1,q,d,aq,ad,ae.2))
    else
     (partition X o q S cmp).bind fun f=>
     (chk ((8:Int)≠0)).bind fun u=>
     if(decide ((w64 (f.1-o))<(w64 (q-f.1))))=true then
      (qD jh gU cmp n f.2.2 o f.1 d).bind fun au=>
      some (.nx ((w64 (f.1+1)),q,d,(decide ((w64 ((q-o).tdiv 8))<=(w64 (f.1-o)))),f.2.1,au))
     else
      (qD jh gU cmp n f.2.2 (w64 (f.1+1)) q d).bind fun aw=>
      some (.nx (o,f.1,d,(decide ((w64 ((q-o).tdiv 8))<=(w64 (q-f.1)))),f.2.1,aw))) fun r=>(∀a',r=Lp.nx a'->∃k',k'<m/\ (k'=(a'.2.1-a'.1).toNat/\ a<=a'.1/\ a'.1<=a'.2.1/\ a'.2.1<=b/\ R a b l0 a'.2.2.2.2.2/\ Dn le a'.2.2.2.2.2 a b a'.1 a'.2.1))/\ ∀b',r=Lp.dn b'->R a b l0 b'/\ jc le b' a b:=by
   intro X L;have aB:=L.len;have d4:=V.R w t L;have ac:=ab.R L;have R4:=N.trans (L.wide w t);simp(disch:=omega) only[jaj];refine Tot.call (yN h (fun _=>by omega) (fun _=>by omega)) fun c ah=>.ite (fun e=>?_) (fun e=>?_)
   ·obtain⟨h0,u,z,hu,hz,ak⟩:=ah.1 e;refine Tot.call (QG h (by omega) p1 p2 (by omega) (by omega) fun p k x am G E g=>?_) fun⟨B,l5⟩ ⟨q1,q2,J,Y⟩=>.nx ?_
    ·cases am.uniq hz;exact h.trans ak (ac h0 u k x hu G E g)
    ·dsimp only at q1 q2 J Y ⊢;have d5:=d4.R w t J;refine⟨(q-B).toNat,by omega,rfl,by omega,by omega,t,R4.trans (J.wide w t),fun i j x y G E W k4 g A=>?_⟩;by_cases hi:i<o \/q<=j
     ·exact d5 i j x y G E W hi g A
     ·exact Y i j x y (by omega) (by omega) (by omega) (by omega) g A
   ·refine Tot.call (OJ h (by omega) p1 p2 (by omega) (by omega)) fun⟨B,al,l5⟩ ⟨q1,q2,J,p,I,Y,q5⟩=>Tot.chk (by decide) ?_;dsimp only at q1 q2 J I Y q5 ⊢;have aC:=J.len;have d5:=d4.R w t J;have ap:=ac.R J;have R5:=R4.trans (J.wide w t);simp(disch:=omega) only[jaj];refine .iteP (fun _=>?_) (fun _=>?_)
    ·refine Tot.call (ih l5 o B d (by omega) q1 (by omega) (by omega) (by omega) fun h0 y k x A G E g=>ap h0 y k x A G (by omega) g) fun l6 ⟨H,s6⟩=>.nx ?_;dsimp only
     have d6:=d5.R w t (H.wide (kR _) (by omega));have C:=(H.out B p (by omega)).2 I;refine⟨(q-(B+1)).toNat,by omega,rfl,by omega,by omega,t,R5.trans (H.wide w (by omega)),fun i j x y G E W k4 g A=>?_⟩;by_cases hi:i<o \/q<=j
     ·exact d6 i j x y G E W hi g A
     have up:∀i x,o<=i->i<B->At l6 i x->le x p:=fun i x K e2 g=>by
      obtain⟨i',f1,f2,F⟩:=H.inn i x K e2 g;exact Y i' x f1 f2 F
     by_cases hj:j<B
     ·exact s6 i j x y (by omega) E hj g A
     by_cases O:j=B
     ·subst O;cases A.uniq C;exact up i x (by omega) (by omega) g
     ·have ao:=(H.out j y (by omega)).1 A;have K:=q5 j y (by omega) (by omega) ao;by_cases Z:i=B
      ·subst Z;cases g.uniq C;exact K
      ·exact h.trans (up i x (by omega) (by omega) g) K
    ·refine Tot.call (ih l5 (B+1) q d (by omega) (by omega) (by omega) (by omega) (by omega) fun h0 y k x A G E g=>?_) fun l6 ⟨H,s6⟩=>.nx ?_
     ·rw[show B+1-1=B by omega]at A;cases A.uniq I;exact q5 k x (by omega) E g
     dsimp only
     have d6:=d5.R w t (H.wide (by omega) (kR _));have C:=(H.out B p (by omega)).2 I;refine⟨(B-o).toNat,by omega,rfl,w,q1,by omega,R5.trans (H.wide (by omega) t),fun i j x y G E W k4 g A=>?_⟩;by_cases hi:i<o \/q<=j
     ·exact d6 i j x y G E W hi g A
     have up:∀i x,B<i->i<q->At l6 i x->le p x:=fun i x K e2 g=>by
      obtain⟨i',f1,f2,F⟩:=H.inn i x (by omega) e2 g;exact q5 i' x (by omega) f2 F
     by_cases Z:B<i
     ·exact s6 i j x y (by omega) E (by omega) g A
     by_cases ai:i=B
     ·subst ai;cases g.uniq C;exact up j y (by omega) (by omega) A
     ·have F:=(H.out i x (by omega)).1 g;have K:=Y i x (by omega) (by omega) F;by_cases O:j=B
      ·subst O;cases A.uniq C;exact K
      ·exact h.trans K (up j y (by omega) (by omega) A)
  refine .ite (fun _=>?_) (fun _=>.go ?_)
  ·refine Tot.call (QO h (by omega) (by omega) (by omega) (by omega) (ab.R T)) fun r7 ⟨L,s4⟩=>.ite (fun e=>.ret (Bu ⟨N.trans ((T.trans L).wide w t),V.fin w t (T.trans L) (s4 e)⟩)) (fun e=>.go ?_);have:=M r7.2 (T.trans L);revert this;simp(disch:=omega) only[jaj];exact id
  ·have:=M l3 T;revert this;simp(disch:=omega) only[jaj];exact id
omit h in
theorem jc.pair{l:List α}(hs:jc le l 0 l.length):l.Pairwise le:=by
 rw[Au];intro i j hi b a;exact hs i j _ _ (by omega) (by omega) (by omega) ⟨by omega,by simp[fO hi]⟩ ⟨by omega,by simp[fO b]⟩
theorem NK{jh:Int->Option (IK .u64)}{gU:IK .u64->Option (IK .u64×IK .u64)}(d:AP jh gU){l:List α}{limit:Int}(b:l.length<4294967296):Tot (pdq jh gU cmp l 0 l.length limit) fun l'=>l'.Perm l/\ l'.Pairwise le:=by
 unfold pdq;refine(jtq h d 4294967296 l 0 l.length limit (by omega) (by omega) (by omega) (by omega) (by omega) fun h0=>by omega).mono fun l' a=>⟨a.1.perm,?_⟩;have:=a.2;rw[<-a.1.len]at this;exact jc.pair this
end
set_option linter.unusedVariables false
set_option linter.unusedSimpArgs false
section
variable{α:Type}
def xM(lt:α->α->Bool)(x:α):List α->List α
 |[]=>[x]
 |y::r=>bif lt x y then y::xM lt x r else x::y::r
def insE(lt:α->α->Bool)(x:α)(l:List α):List α:=(xM lt x l.reverse).reverse
def isort(lt:α->α->Bool)(l:List α):List α:=l.foldl (fun o x=>insE lt x o) []
variable{lt:α->α->Bool}{x:α}
theorem HZ:insE lt x []=[x]:=rfl
theorem IJ(o:List α)(y:α):insE lt x (o++[y])=bif lt x y then insE lt x o++[y]else o++[y]++[x]:=by
 unfold insE;rw[List.reverse_append];show(bif lt x y then y::xM lt x o.reverse else x::y::o.reverse).reverse=_;cases lt x y
 ·simp
 ·simp
theorem zf{l:List α}(h:0<l.length):∃o z,l=o++[z]:=by
 have a:l≠[]:=Aw.1 h;exact⟨l.dropLast,l.getLast a,(Ec a).symm⟩
theorem insE_slot:∀(n:Nat){o:List α}{k:Nat},o.length=n->k<=o.length->(∀y∈o.drop k,lt x y=true)->(∀y,0<k->o[k-1]? =some y->lt x y=false)->o.take k++[x]++o.drop k=insE lt x o
 |0,o,k,g,i,_,_=>by
  have:o=[]:=kK.1 g;subst this;simp[HZ]
 |n+1,o,k,g,i,e,f=>by
  obtain⟨p,y,rfl⟩:=zf (l:=o) (by omega);have j:(p++[y]).length=p.length+1:=by simp
  rw[IJ];by_cases a:k=(p++[y]).length
  ·have:=f y (by omega) (by rw[a,j];simp);rw[this,a,rD,List.drop_length];simp
  ·have m:=e y (by rw[AJ (by omega)];simp);have q:=insE_slot n (o:=p) (k:=k) (by omega) (by omega) (fun z b=>e z (by rw[AJ (by omega)];simp[b])) (fun z b d=>f z b (by rw[jK (by omega)];exact d));rw[m,cond_true,<-q,List.take_append_of_le_length (by omega),AJ (by omega),eU,eU,eU]
theorem II(o:List α):(insE lt x o).Perm (o++[x]):=by
 have:∀l:List α,(xM lt x l).Perm (x::l):=by
  intro l
  induction l with
  |nil=>exact .refl _
  |cons y r a=>
   unfold xM;cases lt x y
   ·exact .refl _
   ·exact(List.Perm.cons y a).trans (.swap x y r)
 unfold insE;refine(List.reverse_perm _).trans ((this _).trans ?_);exact((List.reverse_perm o).cons x).trans (List.perm_append_comm (l₁:=[x]))
theorem isort_snoc(l:List α)(y:α):isort lt (l++[y])=insE lt y (isort lt l):=by unfold isort;rw[List.foldl_append];rfl
theorem isort_perm(l:List α):(isort lt l).Perm l:=by
 have:∀n (l:List α),l.length=n->(isort lt l).Perm l:=by
  intro n
  induction n with
  |zero=>
   intro l a;have:l=[]:=kK.1 a;subst this;exact .refl _
  |succ n b=>
   intro l a;obtain⟨p,y,rfl⟩:=zf (l:=l) (by omega);rw[isort_snoc];exact(II _).trans ((b p (by simpa using a)).append_right [y])
 exact this _ l rfl
theorem isort_len(l:List α):(isort lt l).length=l.length:=(isort_perm l).length_eq
theorem jmp(tr:∀a b c,lt b a=false->lt c b=false->lt c a=false)(bZ:∀a b,lt a b=true->lt b a=false){o:List α}(h:o.Pairwise fun a b=>lt b a=false):(insE lt x o).Pairwise fun a b=>lt b a=false:=by
 have:∀n (o:List α),o.length=n->o.Pairwise (fun a b=>lt b a=false)->(insE lt x o).Pairwise fun a b=>lt b a=false:=by
  intro n
  induction n with
  |zero=>
   intro o d _;have:o=[]:=kK.1 d;subst this;rw[HZ];simp
  |succ n f=>
   intro o d h;obtain⟨p,y,rfl⟩:=zf (l:=o) (by omega);rw[D6]at h;rw[IJ];cases e:lt x y with
   |true=>
    rw[cond_true,D6];refine⟨f p (by simpa using d) h.1,by simp,fun a ha b hb=>?_⟩;have hb:b=y:=by simpa using hb
    subst hb;rcases fA.1 ((II p).mem_iff.1 ha)with ha|ha
    ·exact h.2.2 a ha b (by simp)
    ·have:a=x:=by simpa using ha
     subst this;exact bZ _ _ e
   |false=>
    rw[cond_false,D6];refine⟨D6.2 h,by simp,fun a ha b hb=>?_⟩;have hb:b=x:=by simpa using hb
    subst hb;rcases fA.1 ha with ha|ha
    ·exact tr _ _ _ (h.2.2 a ha y (by simp)) e
    ·have:a=y:=by simpa using ha
     subst this;exact e
 exact this _ o rfl h
theorem isort_sorted(tr:∀a b c,lt b a=false->lt c b=false->lt c a=false)(bZ:∀a b,lt a b=true->lt b a=false)(l:List α):(isort lt l).Pairwise fun a b=>lt b a=false:=by
 have:∀n (l:List α),l.length=n->(isort lt l).Pairwise fun a b=>lt b a=false:=by
  intro n
  induction n with
  |zero=>
   intro l d;have:l=[]:=kK.1 d;subst this;simp[isort]
  |succ n e=>
   intro l d;obtain⟨p,y,rfl⟩:=zf (l:=l) (by omega);rw[isort_snoc];exact jmp tr bZ (e p (by simpa using d))
 exact this _ l rfl
variable{cmp:α->α->Option Int}{U:α->Prop}(hc:∀x y,U x->U y->∃c,cmp x y=some c/\ decide (c<0)=lt x y)
include hc
theorem jsf(A:List α)(x:α)(a:List α)(M:A.length<=4294967296)(u:U x)(t:∀y∈A,U y):Tot (iter (insertionSort_L1 0 cmp) ((A.length:Int),A++x::a)) fun r=>r=insE lt x A++a:=by
 refine Tot.iter (fun m s=>s.1=(m:Int)/\ m<=A.length/\ s.2=A.take m++x::(A.drop m++a)/\ ∀y∈A.drop m,lt x y=true) (n:=A.length) ⟨rfl,dQ _,by simp,by simp⟩ ?_;rintro m ⟨v,d⟩ ⟨I,L,hd,j⟩;simp only at I hd;subst I;subst hd;have H:(A.take m).length=m:=by rw[eF];omega
 have E:(A.take m++x::(A.drop m++a))[m]? =some x:=by
  rw[kg (by omega),H,ow];rfl
 unfold insertionSort_L1;refine .call (P:=fun b=>(b=true->0<m/\ ∃y,A[m-1]? =some y/\ lt x y=true)/\ (b=false->∀y,0<m->A[m-1]? =some y->lt x y=false)) (.iteP (fun h0=>?_) fun h0=>.ok ⟨nofun,fun _ y h _=>absurd h (by omega)⟩) fun b hb=>.ite (fun D=>?_) (fun K=>.dn ?_)
 ·obtain⟨y,f⟩:=jak (l:=A) (i:=m-1) (by omega);have q:w64 ((m:Int)-1)=((m-1:Nat):Int):=by rw[jaj (by omega)];omega
  have e:(A.take m++x::(A.drop m++a))[m-1]? =some y:=by
   rw[jK (by omega),kL (by omega)];exact f
  obtain⟨c,w,g⟩:=hc x y u (t y (bT f));rw[q];refine .eq (ixs E) (.eq (ixs e) (.eq w (.ok ⟨fun h=>⟨by omega,y,f,by rw[<-g];exact h⟩,fun h z _ hz=>?_⟩)));rw[f]at hz;cases hz;rw[<-g];exact h
 ·obtain⟨h0,y,f,F⟩:=hb.1 D;have q:w64 ((m:Int)-1)=((m-1:Nat):Int):=by rw[jaj (by omega)];omega
  have e:(A.take m++x::(A.drop m++a))[m-1]? =some y:=by
   rw[jK (by omega),kL (by omega)];exact f
  have J:A.take m=A.take (m-1)++[y]:=by
   have:=jap f
   rwa [show m-1+1=m by omega]at this
  have G:A.drop (m-1)=y::A.drop m:=by
   have:=um (l:=A) (i:=m-1) (by omega);rw[this,show m-1+1=m by omega];congr 1;exact(cK.1 f).2
  have C:(A.take (m-1)).length=m-1:=by rw[eF];omega
  have p:((A.take m++x::(A.drop m++a)).set m y).set (m-1) x=A.take (m-1)++x::(A.drop (m-1)++a):=by
   rw[DZ _ _ (by omega),H,ow,xV,J,eU,DZ _ _ (by omega),C,ow,G];rfl
  have B:((A.take m++x::(A.drop m++a)).set m y)[m-1]? =some y:=by
   rw[iN (by omega)];exact e
  rw[q];refine .eq (ixs e) (.eq (ixs E) (.eq (ixs E) ?_));rw[gI,gI];refine .eq (ixs B) (.nx ⟨m-1,by omega,rfl,by omega,p,fun z hz=>?_⟩);rw[G]at hz;rcases dY.1 hz with rfl|hz
  ·exact F
  ·exact j z hz
 ·have:=insE_slot (lt:=lt) (x:=x) A.length (o:=A) (k:=m) rfl L j (hb.2 K);rw[<-this];simp
theorem insertion_stU(l:List α)(q:l.length<=4294967295)(hU:∀x∈l,U x):insertionSort l 0 (l.length:Int) cmp=some (isort lt l):=by
 unfold insertionSort;have o:w64 (0+1)=1:=rfl;rw[o];cases l with
 |nil=>rw[Cn];unfold insertionSort_L2;rfl
 |cons a l=>
  refine Tot.val (Tot.iter (fun m s=>∃i:Nat,s.1=(i:Int)/\ 1<=i/\ m+i=(a::l).length/\ s.2=isort lt ((a::l).take i)++(a::l).drop i) (n:=l.length) ⟨1,rfl,by omega,by simp,rfl⟩ ?_);rintro m ⟨v,d⟩ ⟨i,g,p,t,hd⟩;simp only at g hd;subst g;subst hd;unfold insertionSort_L2;refine .iteP (fun h=>?_) (fun h=>.dn ?_)
  ·obtain⟨x,f⟩:=jak (l:=a::l) (i:=i) (by omega);have e:(a::l).drop i=x::(a::l).drop (i+1):=by
    rw[um (by omega)];congr 1;exact(cK.1 f).2
   have b:(isort lt ((a::l).take i)).length=i:=by rw[isort_len,eF];omega
   rw[e];have hi:=jsf hc (isort lt ((a::l).take i)) x ((a::l).drop (i+1)) (by omega) (hU x (bT f)) fun y k=>hU y (rE ((isort_perm _).mem_iff.1 k));rw[b]at hi;refine .call hi fun r j=>.nx ⟨m-1,by omega,i+1,jai (by omega),by omega,by omega,?_⟩;rw[j,jap f,isort_snoc]
  ·have:i=(a::l).length:=by omega
   subst this;rw[rD,List.drop_length,mD]
end
end Go.Ab.Pdq
end
