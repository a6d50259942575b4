/- My own layer: to know less (by the kernel); tests, joins, loops, a body's end. -/
import Derived.Test.YtimecodbnhcnoaaGreatAbEx2
namespace Go.Ab
set_option linter.unusedVariables false
set_option linter.unusedSimpArgs false

def oldN(ren:List (Nat×Nat))(o:Nat):Option Nat:=
 match ren with
 |[]=>none
 |(a,b)::r=>bif Nat.beq b o then some a else oldN r o

def refV(ren:List (Nat×Nat)):AV->AV
 | .ref o i=>match oldN ren o with
  |some a=>.ref a i
  |none=>.unk
 |_=>.unk
def wkV(k:Nat)(σ:Objs)(ren:List (Nat×Nat))(nils:List Nat)(m:Md):AV->AV
 | .dat d=>match m with
  | .k=>.dat d
  | .z es=>(match d with
   | .sc (.slice none 0 0)=>.dat (.sl es [])
   |d=>.dat d)
  | .o n=>(match d with
   | .sc (.slice none 0 0)=>bif memB n nils then .own n else .unk
   |d=>.dat d)
  |_=>(match d with
   | .sc (.slice none 0 0)=>.unk
   |d=>.dat d)
 | .own o=>match oldN ren o with
  |some a=>.own a
  |none=>match slO σ o with
   |some (es,l)=>bif Nat.ble k o then .dat (.sl es l)else .unk
   |none=>.unk
 | .row o g i j=>match oldN ren o with
  |some a=>match jb0 σ o g with
   |some _=>.row a a i j
   |none=>.unk
  |none=>.unk
 | .rref o g q j es i c=>match oldN ren o with
  |some a=>match jb0 σ o g with
   |some _=>.rref a a q j es i c
   |none=>.unk
  |none=>.unk
 | .vw o g q j es lo m=>match oldN ren o with
  |some a=>match jb0 σ o g with
   |some _=>.vw a a q j es lo m
   |none=>.unk
  |none=>.unk
 | .ref o i=>match oldN ren o with
  |some a=>.ref a i
  |none=>.unk
 | .eref o es i j=>match oldN ren o with
  |some a=>.eref a es i j
  |none=>.unk
 | .fp l=>.fp l
 | .und=>.und
 | .fn f l=>.fn f (l.map (refV ren))
 |_=>.unk
def wkC(k:Nat)(σ:Objs)(ren:List (Nat×Nat))(nils:List Nat):List Md->List AV->List AV
 |m::ms,x::l=>wkV k σ ren nils m x::wkC k σ ren nils ms l
 |[],x::l=>wkV k σ ren nils .k x::wkC k σ ren nils [] l
 |_,[]=>[]
def wkS(k:Nat)(σ:Objs)(ren:List (Nat×Nat))(nils:List Nat)(ms:List Md):AV->AV
 | .aggv l=>jd3 (wkC k σ ren nils ms l)
 | .dat (.agg l)=>match ms with
  |[]=>.dat (.agg l)
  |m::a=>jd3 (wkC k σ ren nils (m::a) (l.map .dat))
 | .tup l=>.tup (wkC k σ ren nils ms l)
 | .fn f l=>.fn f (wkC k σ ren nils [] l)
 |x=>wkV k σ ren nils (ms.headD .k) x

structure WP where
 keep:List (Nat×List Md)
 objs:List (Nat×Nat×List Md)
 nils:List (Nat×TypeId×Nat×List (Option TypeId))
 nx:Nat

def wkO(k:Nat)(σ:Objs)(ren:List (Nat×Nat))(nils:List Nat)(ms:List Md)(n:Nat):Option Obj'->Option Obj'
 |some (.box T l)=>match ms with
  | .bd E::_=>match l with
   |[.dat (.sc (.pointer none)),.dat (.sc (.slice none 0 0))]=>some (.bld T E [] n)
   |_=>none
  |_=>some (.box T (wkC k σ ren nils ms l))
 |some (.bld T E l _)=>match ms with
  | .f::_=>none
  |_=>some (.bld T E l n)
 |some (.mp t l)=>match ms with
  | .f::_=>none
  |_=>some (.mp t l)
 |some (.arr e es l)=>match ms with
  | .t mask::_=>match l with
   |[]=>bif Nat.ble mask.length es then some (.tab e es mask [] n none)else none
   |_=>none
  |_=>some (.arr e es l)
 |some (.tab e es mask l g hole)=>match ms with
  | .f::_=>match hole with
   |none=>some (.arr e es l)
   |some _=>none
  |_=>some (.tab e es mask l n hole)
 |none=>none
def nilO(q:Nat×TypeId×Nat×List (Option TypeId)):Obj':=match q.2.2.2 with
 |[]=>.arr q.2.1 q.2.2.1 []
 |m::ms=>.tab q.2.1 q.2.2.1 (m::ms) [] q.1 none
def isF:List Md->Bool
 | .f::_=>true
 |_=>false
def frOf(os:List (Nat×Nat×List Md)):List Nat:=(os.filter fun q=>isF q.2.2).map fun q=>q.2.1
def renB(k:Nat)(ren:List (Nat×Nat))(nils:List (Nat×TypeId×Nat×List (Option TypeId)))(nx:Nat):Bool:=
 jef (ren.map (·.1))&&jef (ren.map (·.2))&&nils.all (fun n=> !memB n.1 (ren.map (·.1))&&Nat.blt n.1 nx&&(Nat.blt 0 n.2.2.1&&Nat.ble n.2.2.2.length n.2.2.1))&&ren.all (fun p=>Nat.blt p.1 nx)&&
  (List.range k).all (fun j=>ren.any fun p=>Nat.beq p.1 j&&Nat.beq p.2 j)

def wkX(n k:Nat)(p:WP)(x:X):X:=
 let ren:=p.objs.map fun q=>(q.1,q.2.1)
 let nl:=p.nils.map (·.1)
 ⟨p.keep.map fun q=>(q.1,wkS k (obo x.L) ren nl q.2 (bif Nat.blt q.1 n then lkA x.A q.1 else .und)),(p.objs.map fun q=>(q.1,wkO k (obo x.L) ren nl q.2.2 q.1 (obo x.L q.2.1)))++p.nils.map fun q=>(q.1,some (nilO q)),p.nx⟩
def wkOK(k:Nat)(p:WP):Bool:=renB k (p.objs.map fun q=>(q.1,q.2.1)) p.nils p.nx

section
variable{k:Nat}{σ:Objs}{ren:List (Nat×Nat)}{nils:List Nat}

theorem jcs:∀{ren:List (Nat×Nat)}{o a:Nat},oldN ren o=some a->(a,o)∈ren
 |[],o,a,h=>by cases h
 |(x,y)::r,o,a,h=>by
  unfold oldN at h;cases hb:Nat.beq y o with
  |true=>
   rw[hb]at h;cases h;have:=Nat.eq_of_beq_eq_true hb;subst this;exact List.mem_cons_self ..
  |false=>rw[hb]at h;exact List.mem_cons_of_mem _ (jcs h)
theorem jlb:∀{ren:List (Nat×Nat)}{o:Nat},oldN ren o=none->o∉ren.map Prod.snd
 |[],o,h=>by simp
 |(x,y)::r,o,h=>by
  unfold oldN at h;cases hb:Nat.beq y o with
  |true=>rw[hb]at h;cases h
  |false=>
   rw[hb]at h;have a:=jlb (o:=o) h;simp only[List.map_cons,List.mem_cons,not_or];refine⟨fun e=>?_,a⟩;subst e;simp at hb

theorem jti{L:Nat}:∀{x:AV},VLe L σ ren nils x (refV ren x):=by
 intro x;unfold refV;split
 ·split
  ·rename_i a h;exact jo2 (jcs h)
  ·exact jb6 _
 ·exact jb6 _
theorem jm9{L:Nat}:∀{l:List AV},VLes L σ ren nils l (l.map (refV ren))
 |[]=>jgr
 |_::_=>jfg jti jm9
theorem jm3{m:Md}:∀{x:AV},VLe k σ ren nils x (wkV k σ ren nils m x):=by
 intro x;unfold wkV;split
 ·split
  ·exact jji rfl
  ·split
   ·exact jrw
   ·exact jji rfl
  ·rename_i n;split
   ·cases h:memB n nils with
    |true=>exact js7 (jle h)
    |false=>exact jb6 _
   ·exact jji rfl
  ·split
   ·exact jb6 _
   ·exact jji rfl
 ·rename_i o;split
  ·rename_i a h;exact js6 (jcs h)
  ·rename_i h;split
   ·rename_i es l e;cases d:Nat.ble k o with
    |true=>exact js8 e (jlb h) (Nat.le_of_ble_eq_true d) rfl
    |false=>exact jb6 _
   ·exact jb6 _
 ·rename_i o g i j;split
  ·rename_i a h;split
   ·rename_i t b;unfold VLe;exact .inr ⟨a,rfl,jcs h,t,b⟩
   ·exact jb6 _
  ·exact jb6 _
 ·rename_i o g q j es i c;split
  ·rename_i a h;split
   ·rename_i t b;unfold VLe;exact .inr ⟨a,rfl,jcs h,t,b⟩
   ·exact jb6 _
  ·exact jb6 _
 ·rename_i o g q j es lo m;split
  ·rename_i a h;split
   ·rename_i t b;unfold VLe;exact .inr ⟨a,rfl,jcs h,t,b⟩
   ·exact jb6 _
  ·exact jb6 _
 ·split
  ·rename_i a h;exact jo2 (jcs h)
  ·exact jb6 _
 ·split
  ·rename_i a h;unfold VLe;exact .inr ⟨a,rfl,jcs h⟩
  ·exact jb6 _
 ·unfold VLe;exact .inr rfl
 ·exact js5
 ·rename_i f l;unfold VLe;exact .inr ⟨l.map (refV ren),rfl,jm9⟩
 ·exact jb6 _
theorem jg5:∀{ms:List Md}{l:List AV},VLes k σ ren nils l (wkC k σ ren nils ms l)
 |m::ms,x::l=>by unfold wkC;exact jfg jm3 jg5
 |[],x::l=>by unfold wkC;exact jfg jm3 jg5
 |[],[]=>by unfold wkC;exact jgr
 |m::ms,[]=>by unfold wkC;exact jgr

theorem jel:∀{l:List AV}{ds:List D},toDs l=some ds->l=ds.map .dat
 |[],ds,h=>by simp only[toDs,Option.some.injEq]at h;subst h;rfl
 |x::l,ds,h=>by
  simp only[toDs]at h;split at h
  ·rename_i d r a b;cases h;have:=jel b;cases x with
   |dat d'=>simp only[AV.toD,Option.some.injEq]at a;subst a;rw[this];rfl
   |_=>simp[AV.toD]at a
  ·cases h
theorem jo1:∀{l:List AV}{ds:List D},VLes k σ ren nils l (ds.map .dat)->VLed k σ ren nils l ds
 |[],ds,h=>by
  unfold VLes at h;unfold VLed;cases ds with
  |nil=>rfl
  |cons=>cases h
 |x::l,ds,h=>by
  unfold VLes at h;unfold VLed;obtain⟨y,r,a,b,c⟩:=h;cases ds with
  |nil=>cases a
  |cons d ds=>
   simp only[List.map_cons,List.cons.injEq]at a;obtain⟨rfl,rfl⟩:=a;exact⟨d,ds,rfl,b,jo1 c⟩
theorem js9{l l':List AV}(h:VLes k σ ren nils l l'):VLe k σ ren nils (.aggv l) (jd3 l'):=by
 unfold jd3;split
 ·rename_i ds hd;unfold VLe;refine .inr (.inr ⟨ds,rfl,jo1 ?_⟩);rw[<-jel hd];exact h
 ·unfold VLe;exact .inr (.inl ⟨l',rfl,h⟩)
theorem juw{d d':D}{L:Nat}(h:VLe L σ ren nils (.dat d) (.dat d')):DLe d d':=by
 unfold VLe at h;rcases h with h|⟨d2,h,a⟩|⟨_,o,h,_⟩
 ·cases h
 ·cases h;exact a
 ·cases h
theorem jq7:∀{l:List D}{ds:List D},VLes k σ ren nils (l.map .dat) (ds.map .dat)->DLes l ds
 |[],ds,h=>by
  simp only[List.map_nil]at h;unfold VLes at h;unfold DLes;cases ds with
  |nil=>rfl
  |cons=>cases h
 |x::l,ds,h=>by
  simp only[List.map_cons]at h;unfold VLes at h;unfold DLes;obtain⟨y,r,a,b,c⟩:=h;cases ds with
  |nil=>cases a
  |cons d ds=>
   simp only[List.map_cons,List.cons.injEq]at a;obtain⟨rfl,rfl⟩:=a;exact⟨d,ds,rfl,juw b,jq7 c⟩
theorem juj{ms:List Md}:∀{x:AV},VLe k σ ren nils x (wkS k σ ren nils ms x) \/∃l m a,ms=m::a/\ x=.dat (.agg l)/\ toDs (wkC k σ ren nils (m::a) (l.map .dat))=none:=by
 intro x;unfold wkS;split
 ·exact .inl (js9 jg5)
 ·rename_i l;cases ms with
  |nil=>exact .inl (jm3 (m:=.k) (x:=.dat (.agg l)))
  |cons m a=>
   show VLe k σ ren nils _ (jd3 (wkC k σ ren nils (m::a) (l.map .dat))) \/_;cases hd:toDs (wkC k σ ren nils (m::a) (l.map .dat))with
   |none=>exact .inr ⟨l,m,a,rfl,rfl,hd⟩
   |some ds=>
    left;unfold jd3;rw[hd];unfold VLe;refine .inr (.inl ⟨_,rfl,?_⟩);unfold DLe;refine⟨ds,rfl,jq7 (k:=k) (σ:=σ) (ren:=ren) (nils:=nils) ?_⟩;rw[<-jel hd];exact jg5
 ·left;unfold VLe;exact .inr ⟨_,rfl,jg5⟩
 ·left;unfold VLe;exact .inr ⟨_,rfl,jg5⟩
 ·exact .inl jm3
end

def ju3(k:Nat)(σ:Objs)(ren:List (Nat×Nat))(nils:List Nat)(ms:List Md):AV->Bool
 | .dat (.agg l)=>match ms with
  |[]=>true
  |m::a=>(toDs (wkC k σ ren nils (m::a) (l.map .dat))).isSome
 |_=>true
def jgm(n k:Nat)(p:WP)(x:X):Bool:=
 wkOK k p&&p.keep.all (fun q=>ju3 k (obo x.L) (p.objs.map fun q=>(q.1,q.2.1)) (p.nils.map (·.1)) q.2 (bif Nat.blt q.1 n then lkA x.A q.1 else .und))&&p.objs.all (fun q=>(wkO k (obo x.L) (p.objs.map fun q=>(q.1,q.2.1)) (p.nils.map (·.1)) q.2.2 q.1 (obo x.L q.2.1)).isSome)

section
variable{cx:Cx}{n:Nat}

theorem jqh{f:Nat×List Md->AV}:∀{l:List (Nat×List Md)}{t:Nat}{v:AV},lkA (l.map fun q=>(q.1,f q)) t=v->v=.unk \/∃q∈l,q.1=t/\ v=f q
 |[],t,v,h=>.inl h.symm
 |q::l,t,v,h=>by
  simp only[List.map_cons,lkA]at h;cases hb:Nat.beq t q.1 with
  |true=>
   rw[hb]at h;exact .inr ⟨q,List.mem_cons_self ..,(Nat.eq_of_beq_eq_true hb).symm,h.symm⟩
  |false=>
   rw[hb]at h;rcases jqh h with h|⟨c,a,b⟩
   ·exact .inl h
   ·exact .inr ⟨c,List.mem_cons_of_mem _ a,b⟩

theorem jiw{L:Nat}{σ:Objs}{ren:List (Nat×Nat)}{nils:List Nat}{f g:Nat->AV}:∀{l:List Nat},(∀t∈l,VLe L σ ren nils (f t) (g t))->VLes L σ ren nils (l.map f) (l.map g)
 |[],_=>jgr
 |t::l,h=>jfg (h t (List.mem_cons_self ..)) (jiw fun u a=>h u (List.mem_cons_of_mem _ a))

theorem jp2:∀{L:List (Nat×Option Obj')},(∀p∈L,p.2.isSome)->∃os:List (Nat×Obj'),obo L=obs os/\ ∀p∈os,(p.1,some p.2)∈L
 |[],_=>⟨[],rfl,by simp⟩
 |(a,none)::r,h=>by have:=h _ (List.mem_cons_self ..);cases this
 |(a,some y)::r,h=>by
  obtain⟨os,b,c⟩:=jp2 (L:=r) fun p hp=>h p (List.mem_cons_of_mem _ hp);refine⟨(a,y)::os,?_,?_⟩
  ·funext t;show(bif Nat.beq t a then some y else obo r t)=(bif Nat.beq t a then some y else obs os t);rw[b]
  ·intro p hp;rcases List.mem_cons.1 hp with rfl|hp
   ·exact List.mem_cons_self ..
   ·exact List.mem_cons_of_mem _ (c p hp)

theorem Wk_X{x:X}{k:Nat}(S:cx.L=k)(p:WP)(h:jgm n k p x=true):Wk cx (x.st n) ((wkX n k p x).st n):=by
 unfold jgm wkOK renB at h;simp only[Bool.and_eq_true]at h;obtain⟨⟨⟨⟨⟨⟨U,R⟩,K⟩,V⟩,W⟩,Y⟩,Z⟩:=h;have G:∀q∈(wkX n k p x).L,q.2.isSome=true:=by
  intro q s;unfold wkX at s;simp only[List.mem_append,List.mem_map]at s;rcases s with⟨d,o,rfl⟩|⟨d,o,rfl⟩
  ·exact List.all_eq_true.1 Z d o
  ·rfl
 obtain⟨os,M,N⟩:=jp2 G;show Wk cx ⟨envX n x.A,obo x.L,x.nx⟩ ⟨envX n (wkX n k p x).A,obo (wkX n k p x).L,p.nx⟩;rw[M];refine jvi (p.objs.map fun q=>(q.1,q.2.1)) (p.nils.map (·.1)) (frOf p.objs) os ⟨jbn U,jbn R,?_,?_⟩ ?_ ?_ ?_ ?_
 ·intro m B;obtain⟨q,s,rfl⟩:=List.mem_map.1 B;have:=List.all_eq_true.1 K q s;simp only[Bool.and_eq_true,Bool.not_eq_true']at this;exact je3 this.1.1
 ·intro j hj;have:=List.all_eq_true.1 W j (List.mem_range.2 (by omega));obtain⟨q,s,w⟩:=List.any_eq_true.1 this;simp only[Bool.and_eq_true]at w;have u:=Nat.eq_of_beq_eq_true w.1;have c:=Nat.eq_of_beq_eq_true w.2;obtain⟨a,b⟩:=q;simp only at u c;subst u;subst c;exact s
 ·rw[S];refine jiw fun t ht=>?_;have O:t<n:=List.mem_range.1 ht;have hb:Nat.blt t n=true:=by simpa[Nat.blt_eq]using O
  rcases jqh (v:=lkA (wkX n k p x).A t) rfl with hu|⟨q,s,rfl,hv⟩
  ·rw[hu];exact jb6 _
  ·rw[hv,hb];simp only[cond_true];rcases juj (k:=k) (σ:=obo x.L) (ren:=p.objs.map fun q=>(q.1,q.2.1)) (nils:=p.nils.map (·.1)) (ms:=q.2) (x:=lkA x.A q.1)with hw|⟨l,m_,aa,i,hl,hd⟩
   ·exact hw
   ·have:=List.all_eq_true.1 Y q s;rw[hb]at this;simp only[cond_true,hl,i,ju3,hd]at this;cases this
 ·intro q s;have B:=N q s;unfold wkX at B;simp only[List.mem_append,List.mem_map]at B;rcases B with⟨d,o,e⟩|⟨d,o,e⟩
  ·left;simp only[Prod.mk.injEq]at e;obtain⟨u,c⟩:=e;cases P:obo x.L d.2.1 with
   |none=>
    rw[P]at c;cases c
   |some y=>
    rw[P]at c;refine⟨d.2.1,y,List.mem_map.2 ⟨d,o,by rw[<-u]⟩,P,?_⟩;rw[S];have D:isF d.2.2=false->d.2.1∉frOf p.objs:=fun hf H=>by
     unfold frOf at H;obtain⟨J,w,Q⟩:=List.mem_map.1 H;obtain⟨I,C⟩:=List.mem_filter.1 w;have r:=jbn R;rw[List.map_map]at r;have:J=d:=by
      have key:∀{l:List (Nat×Nat×List Md)},(l.map ((fun p:Nat×Nat=>p.2)∘fun q=>(q.1,q.2.1))).Nodup->J∈l->d∈l->J=d:=by
       intro l
       induction l with
       |nil=>intro _ h _;cases h
       |cons z l ih=>
        intro r ha hb;simp only[List.map_cons,List.nodup_cons]at r;rcases List.mem_cons.1 ha with ha|ha
        ·rcases List.mem_cons.1 hb with hb|hb
         ·rw[ha,hb]
         ·exact absurd (List.mem_map.2 ⟨d,hb,by simp only[Function.comp];rw[<-Q,ha]⟩) r.1
        ·rcases List.mem_cons.1 hb with hb|hb
         ·exact absurd (List.mem_map.2 ⟨J,ha,by simp only[Function.comp];rw[Q,hb]⟩) r.1
         ·exact ih r.2 ha hb
      exact key r I o
     subst this;rw[hf]at C;cases C
    cases y with
    |box T l=>
     simp only[wkO]at c;split at c
     ·rename_i E _ i;split at c
      ·simp only[Option.some.injEq]at c;exact .inr ⟨rfl,⟨E,by rw[<-c,u]⟩,D (by rw[i];rfl)⟩
      ·cases c
     ·simp only[Option.some.injEq]at c;rw[<-c];exact .inl ⟨_,rfl,jg5⟩
    |bld T E l g=>
     simp only[wkO]at c;split at c
     ·cases c
     ·rename_i i;simp only[Option.some.injEq]at c;refine⟨by rw[<-c,u],D ?_⟩;cases F:d.2.2 with
      |nil=>rfl
      |cons m ms=>
       cases m
       case f=>exact absurd F (i ms)
       all_goals rfl
    |mp t l=>
     simp only[wkO]at c;split at c
     ·cases c
     ·simp only[Option.some.injEq]at c;exact c.symm
    |arr e es l=>
     simp only[wkO]at c;split at c
     ·rename_i mask _ _;split at c
      ·cases hb:Nat.ble mask.length es with
       |false=>rw[hb]at c;cases c
       |true=>
        rw[hb]at c;simp only[cond_true,Option.some.injEq]at c;exact .inr ⟨rfl,mask,by rw[<-c,u],Nat.le_of_ble_eq_true hb⟩
      ·cases c
     ·simp only[Option.some.injEq]at c;exact .inl c.symm
    |tab e es mask l g hole=>
     simp only[wkO]at c;split at c
     ·rename_i i;split at c
      ·simp only[Option.some.injEq]at c;refine .inr ⟨rfl,c.symm,?_⟩;unfold frOf;exact List.mem_map.2 ⟨d,List.mem_filter.2 ⟨o,by rw[i];rfl⟩,rfl⟩
      ·cases c
     ·rename_i i;simp only[Option.some.injEq]at c;refine .inl ⟨by rw[<-c,u],D ?_⟩;cases F:d.2.2 with
      |nil=>rfl
      |cons m ms=>
       cases m
       case f=>exact absurd F (i ms)
       all_goals rfl
  ·right;simp only[Prod.mk.injEq,Option.some.injEq]at e;obtain⟨u,c⟩:=e;have:=List.all_eq_true.1 K d o;simp only[Bool.and_eq_true]at this;refine⟨List.mem_map.2 ⟨d,o,u⟩,d.2.1,d.2.2.1,by simpa[Nat.blt_eq]using this.2.1,?_⟩;unfold nilO at c;split at c
   ·exact .inl c.symm
   ·rename_i m ms B;refine .inr ⟨m::ms,by rw[<-c,u],?_⟩;rw[<-B];exact Nat.le_of_ble_eq_true this.2.2
 ·intro q s;have:=List.all_eq_true.1 V q s;simpa[Nat.blt_eq]using this
 ·intro m B;obtain⟨q,s,rfl⟩:=List.mem_map.1 B;have:=List.all_eq_true.1 K q s;simp only[Bool.and_eq_true]at this;simpa[Nat.blt_eq]using this.1.2
end
end Go.Ab
