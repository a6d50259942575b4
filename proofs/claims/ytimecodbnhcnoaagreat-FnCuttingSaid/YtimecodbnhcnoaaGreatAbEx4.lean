/- My own layer: tests, joins, loops; a body's end; contracts by a model. -/
import Derived.Test.YtimecodbnhcnoaaGreatAbEx3b
namespace Go.Ab
set_option linter.unusedVariables false
set_option linter.unusedSimpArgs false

inductive Lp(A B:Type) where
 |nx (a:A)
 |dn (b:B)
inductive Fl(R V:Type) where
 |ret (r:R)
 |go (a:V)

def je6{A B:Type}(step:A->Option (Lp A B)):Nat->A->Option B
 |0,_=>none
 |n+1,a=>match step a with
  |none=>none
  |some (.nx a')=>je6 step n a'
  |some (.dn b)=>some b
theorem jgc{A B:Type}{step:A->Option (Lp A B)}{b:B}:∀{n m:Nat}{a:A},n<=m->je6 step n a=some b->je6 step m a=some b
 |0,m,a,_,h=>by cases h
 |n+1,0,a,h,_=>by omega
 |n+1,m+1,a,c,h=>by
  unfold je6 at h ⊢;cases hs:step a with
  |none=>rw[hs]at h;cases h
  |some r=>
   rw[hs]at h;cases r with
   |nx a'=>exact jgc (Nat.le_of_succ_le_succ c) h
   |dn d=>exact h
open Classical in
noncomputable def iter{A B:Type}(step:A->Option (Lp A B))(a:A):Option B:=
 if h:∃n b,je6 step n a=some b then je6 step h.choose a else none
theorem jhs{A B:Type}{step:A->Option (Lp A B)}{a:A}{b:B}:iter step a=some b↔∃n,je6 step n a=some b:=by
 unfold iter;constructor
 ·intro h;split at h
  ·exact⟨_,h⟩
  ·cases h
 ·rintro⟨n,h⟩;have d:∃n b,je6 step n a=some b:=⟨n,b,h⟩;rw[dif_pos d];obtain⟨e,c⟩:=d.choose_spec;rcases Nat.le_total n d.choose with hl|hl
  ·exact jgc hl h
  ·have:=jgc hl c;rw[h]at this;cases this;exact c
theorem jmm{A B:Type}(step:A->Option (Lp A B))(a:A):iter step a=match step a with
  |none=>none
  |some (.nx a')=>iter step a'
  |some (.dn b)=>some b:=by
 apply Option.ext;intro b;rw[jhs];cases hs:step a with
 |none=>
  constructor
  ·rintro⟨n,h⟩;cases n with
   |zero=>cases h
   |succ n=>unfold je6 at h;rw[hs]at h;cases h
  ·intro h;cases h
 |some r=>
  cases r with
  |nx a'=>
   simp only[jhs];constructor
   ·rintro⟨n,h⟩;cases n with
    |zero=>cases h
    |succ n=>unfold je6 at h;rw[hs]at h;exact⟨n,h⟩
   ·rintro⟨n,h⟩;exact⟨n+1,by unfold je6;rw[hs];exact h⟩
  |dn c=>
   simp only[];constructor
   ·rintro⟨n,h⟩;cases n with
    |zero=>cases h
    |succ n=>unfold je6 at h;rw[hs]at h;exact h
   ·intro h;exact⟨1,by unfold je6;rw[hs];exact h⟩
theorem jgb{A B:Type}{step:A->Option (Lp A B)}{a a':A}(h:step a=some (.nx a')):iter step a=iter step a':=by rw[jmm,h]
theorem je5{A B:Type}{step:A->Option (Lp A B)}{a:A}{b:B}(h:step a=some (.dn b)):iter step a=some b:=by rw[jmm,h]

def chk(p:Prop)[Decidable p]:Option Unit:=if p then some ()else none
def idx{α:Type}(l:List α)(i:Int):Option α:=if 0<=i then l[i.toNat]? else none

theorem jaf{α β:Type}{m:Option α}{f:α->Option β}{y:β}(h:m.bind f=some y):∃x,m=some x/\ f x=some y:=by
 cases m with
 |none=>cases h
 |some x=>exact⟨x,rfl,h⟩
theorem ob2{α β γ:Type}{m:Option α}{k:α->Option β}{f:α->β->Option γ}{y:γ}(h:(m.bind fun x=>(k x).bind (f x))=some y):∃x,m=some x/\ ∃z,k x=some z/\ f x z=some y:=by
 obtain⟨x,a,b⟩:=jaf h;obtain⟨z,c,d⟩:=jaf b;exact⟨x,a,z,c,d⟩
theorem ob3{α β γ δ:Type}{m:Option α}{k:α->Option β}{l:α->β->Option γ}{f:α->β->γ->Option δ}{y:δ}(h:(m.bind fun x=>(k x).bind fun z=>(l x z).bind (f x z))=some y):∃x,m=some x/\ ∃z,k x=some z/\ ∃u,l x z=some u/\ f x z u=some y:=by
 obtain⟨x,a,b⟩:=jaf h;obtain⟨z,c,d⟩:=jaf b;obtain⟨u,e,g⟩:=jaf d;exact⟨x,a,z,c,u,e,g⟩
theorem jeb{p:Prop}[Decidable p]{u:Unit}(h:chk p=some u):p:=by
 unfold chk at h;split at h
 ·assumption
 ·cases h
theorem jts{α:Type}{l:List α}{i:Int}{x:α}(h:idx l i=some x):0<=i/\ l[i.toNat]? =some x:=by
 unfold idx at h;split at h
 ·exact⟨‹_›,h⟩
 ·cases h
theorem juq{α:Type}{f:α->D}{l:List α}{i:Int}{x:α}(h:idx l i=some x):0<=i/\ (l.map f)[i.toNat]? =some (f x):=by
 obtain⟨a,b⟩:=jts h;exact⟨a,by rw[List.getElem?_map,b];rfl⟩
theorem jbo{α:Type}{f:α->D}{l:List α}{i:Int}{x:α}(h:idx l i=some x):(l.map f)[i.toNat]? =some (f x):=(juq h).2
theorem jkd{α:Type}{f:α->D}{l:List α}{i:Int}{x:α}(h:idx l i=some x):0<=i/\ i<((l.map f).length:Int):=by
 obtain⟨a,b⟩:=jts h;have:=(List.getElem?_eq_some_iff.1 b).1;rw[List.length_map];exact⟨a,by omega⟩
theorem jhu{α:Type}{l:List α}{i:Int}{x y:α}(h:idx l i=some x):idx (l.set i.toNat y) i=some y:=by
 obtain⟨a,b⟩:=jts h;have:=(List.getElem?_eq_some_iff.1 b).1;unfold idx;rw[if_pos a,List.getElem?_set_self this]
theorem jto{α:Type}(f:α->D)(l:List α):(((l.map f).length:Nat):Int)=(l.length:Int):=by rw[List.length_map]
theorem je1{α:Type}(f:α->D)(l:List α)(i:Nat)(x:α):(l.map f).set i (f x)=(l.set i x).map f:=by rw[List.map_set]
theorem ju1{α:Type}(f:α->D)(l r:List α):l.map f++r.map f=(l++r).map f:=by rw[List.map_append]
theorem jma{α:Type}(f:α->D)(n:Nat)(x:α):List.replicate n (f x)=(List.replicate n x).map f:=by rw[List.map_replicate]
theorem juv{α:Type}(f:α->D)(l:List α)(i:Nat):(l.map f).drop i=(l.drop i).map f:=by rw[List.map_drop]
theorem jvg{α:Type}(f:α->D)(l:List α)(i j:Nat):((l.map f).take j).drop i=((l.take j).drop i).map f:=by rw[List.map_drop,List.map_take]
theorem it{β:Type}{b:Bool}{x z:Option β}{y:β}(hb:b=true)(h:(if b=true then x else z)=some y):x=some y:=by rw[if_pos hb]at h;exact h
theorem ie{β:Type}{b:Bool}{x z:Option β}{y:β}(hb:b=false)(h:(if b=true then x else z)=some y):z=some y:=by rw[if_neg (by simp[hb])]at h;exact h

section
variable{P:Program}{cx:Cx}{Q:Exit->St->Prop}{n:Nat}{x:X}

theorem jn5{c:Operand}{t e:Code}(b:Bool)(hc:evX n x.A c=.dat (.sc (.bool b)))(d:b=true->Ok P cx t Q (x.st n))(a:b=false->Ok P cx e Q (x.st n)):Ok P cx (.cond c t e) Q (x.st n):=
 jui b (by rw[<-hc,jlw];rfl) d a
theorem jae(h:Q .normal (x.st n)):Ok P cx .skip Q (x.st n):=juf h

theorem ju7{V:Type}(S:V->X)(v:V){st:St}{c y:Code}(a:Ok P cx c (Then (fun s=>Wk cx s ((S v).st n)) Q) st)(b:Ok P cx y Q ((S v).st n)):Ok P cx (.seq c y) Q st:=by
 refine jab (Ok.mono a ?_);intro e s h;cases e with
 |normal=>exact jai h b
 |_=>exact h
theorem jue{R V:Type}(S:V->X)(v:Fl R V){st:St}{c y:Code}(a:Ok P cx c (Then (fun s=>∃u,v=.go u/\ Wk cx s ((S u).st n)) Q) st)(b:∀u,v=.go u->Ok P cx y Q ((S u).st n)):Ok P cx (.seq c y) Q st:=by
 refine jab (Ok.mono a ?_);intro e s h;cases e with
 |normal=>
  obtain⟨u,d,f⟩:=h;exact jai f (b u d)
 |_=>exact h

theorem ju6{A B:Type}{step:A->Option (Lp A B)}(S:A->X){g:A}{b:B}(o:iter step g=some b){st:St}(p:Wk cx st ((S g).st n)){c:Code}
  (f:∀a r,step a=some r->(∀i,r=.dn i->i=b)->Ok P cx c (Then (fun s=>∃a',r=.nx a'/\ Wk cx s ((S a').st n)) Q) ((S a).st n)):Ok P cx (.loop c) Q st:=by
 obtain⟨k,l⟩:=jhs.1 o;refine jl1 (fun m s=>∃a,je6 step m a=some b/\ s=(S a).st n) k ⟨_,p,g,l,rfl⟩ ?_;rintro m s ⟨a,d,rfl⟩;cases m with
 |zero=>cases d
 |succ m=>
  unfold je6 at d;cases hs:step a with
  |none=>rw[hs]at d;cases d
  |some r=>
   rw[hs]at d;refine Ok.mono (f a r hs ?_) ?_
   ·rintro i rfl;simp only[Option.some.injEq]at d;exact d
   ·intro e s h;cases e with
    |normal=>
     obtain⟨a',rfl,j⟩:=h;exact⟨m,_,by omega,j,a',d,rfl⟩
    |_=>exact h

def atJ(ns:List Nat)(o:Nat):Option Nat:=go ns 0
 where
 go:List Nat->Nat->Option Nat
  |[],_=>none
  |a::r,j=>bif Nat.beq a o then some j else go r (j+1)
theorem jrg{o:Nat}:∀{ns:List Nat}{j i:Nat},atJ.go o ns j=some i->j<=i/\ ns[i-j]? =some o
 |[],j,i,h=>by cases h
 |a::r,j,i,h=>by
  unfold atJ.go at h;cases hb:Nat.beq a o with
  |true=>
   rw[hb]at h;cases h;have:=Nat.eq_of_beq_eq_true hb;subst this;simp
  |false=>
   rw[hb]at h;obtain⟨c,b⟩:=jrg (o:=o) (ns:=r) h;refine⟨by omega,?_⟩;have:i-j=(i-(j+1))+1:=by omega
   rw[this];simpa using b
theorem jnw{o:Nat}:∀{ns:List Nat}{j:Nat},atJ.go o ns j=none->o∉ns
 |[],j,h=>by simp
 |a::r,j,h=>by
  unfold atJ.go at h;cases hb:Nat.beq a o with
  |true=>rw[hb]at h;cases h
  |false=>
   rw[hb]at h;have b:=jnw (o:=o) h;simp only[List.mem_cons,not_or];refine⟨fun e=>?_,b⟩;subst e;simp at hb

def exV(k:Nat)(σ:Objs)(ns:List Nat)(m:Md):AV->AV
 | .dat d=>match m with
  | .z es=>(match d with
   | .sc (.slice none 0 0)=>.dat (.sl es [])
   |d=>.dat d)
  |_=>.dat d
 | .own o=>match atJ ns o with
  |some j=>.own j
  |none=>match slO σ o with
   |some (es,l)=>bif Nat.ble k o then .dat (.sl es l)else .tup []
   |_=>.tup []
 | .ref o i=>match atJ ns o with
  |some j=>.ref j i
  |none=>.tup []
 |_=>.tup []
def exC(k:Nat)(σ:Objs)(ns:List Nat):List Md->List AV->List AV
 |m::ms,x::l=>exV k σ ns m x::exC k σ ns ms l
 |[],x::l=>exV k σ ns .k x::exC k σ ns [] l
 |_,[]=>[]
def badB:AV->Bool
 | .tup _=>true
 |_=>false
def exS(k:Nat)(σ:Objs)(ns:List Nat)(ms:List Md):AV->Option AV
 | .aggv l=>let c:=exC k σ ns ms l
  bif c.any badB then none else some (jd3 c)
 | .dat d=>match ms with
  |[]=>some (.dat d)
  |m::a=>(match d with
   | .agg l=>(match toDs (exC k σ ns (m::a) (l.map .dat))with
    |some ds=>some (.dat (.agg ds))
    |none=>none)
   |d=>let v:=exV k σ ns m (.dat d)
    bif badB v then none else some v)
 |x=>let v:=exV k σ ns (ms.headD .k) x
  bif badB v then none else some v
def exSs(k:Nat)(σ:Objs)(ns:List Nat):List (List Md)->List AV->Option (List AV)
 |m::ms,x::l=>match exS k σ ns m x,exSs k σ ns ms l with
  |some y,some r=>some (y::r)
  |_,_=>none
 |[],x::l=>match exS k σ ns [] x,exSs k σ ns [] l with
  |some y,some r=>some (y::r)
  |_,_=>none
 |_,[]=>some []
def exT(k:Nat)(σ:Objs)(ns:List Nat)(ms:List (List Md)):AV->Option AV
 | .tup l=>match exSs k σ ns ms l with
  |some l'=>some (.tup l')
  |none=>none
 |x=>exS k σ ns (ms.headD []) x

section
variable{k:Nat}{σ:Objs}{ns:List Nat}
theorem jnr{m:Md}:∀{x:AV},badB (exV k σ ns m x)=true \/Exp k σ ns x (exV k σ ns m x):=by
 intro x;unfold exV;split
 ·split
  ·split
   ·exact .inr (jt0 rfl)
   ·exact .inr (jmq rfl)
  ·exact .inr (jmq rfl)
 ·rename_i o;split
  ·rename_i j h;right;unfold Exp;obtain⟨b,a⟩:=jrg (j:=0) h;exact .inr ⟨j,by simpa using a,rfl⟩
  ·rename_i h;split
   ·rename_i es l d;cases c:Nat.ble k o with
    |true=>exact .inr (jtz d (jnw h) (Nat.le_of_ble_eq_true c) rfl)
    |false=>exact .inl rfl
   ·exact .inl rfl
 ·rename_i o i;split
  ·rename_i j h;right;unfold Exp;obtain⟨b,a⟩:=jrg (j:=0) h;exact .inr ⟨j,by simpa using a,rfl⟩
  ·exact .inl rfl
 ·exact .inl rfl
theorem jns:∀{ms:List Md}{l:List AV},(exC k σ ns ms l).any badB=false->ExpL k σ ns l (exC k σ ns ms l)
 |m::ms,x::l,h=>by
  unfold exC at h ⊢;simp only[List.any_cons,Bool.or_eq_false_iff]at h;rcases jnr (k:=k) (σ:=σ) (ns:=ns) (m:=m) (x:=x)with h1|h1
  ·rw[h1]at h;cases h.1
  ·exact jfw h1 (jns h.2)
 |[],x::l,h=>by
  unfold exC at h ⊢;simp only[List.any_cons,Bool.or_eq_false_iff]at h;rcases jnr (k:=k) (σ:=σ) (ns:=ns) (m:=.k) (x:=x)with h1|h1
  ·rw[h1]at h;cases h.1
  ·exact jfw h1 (jns h.2)
 |[],[],_=>by unfold exC;exact jg1
 |m::ms,[],_=>by unfold exC;exact jg1
theorem jq1:∀{l:List AV}{ds:List D},ExpL k σ ns l (ds.map .dat)->ExpD k σ ns l ds
 |[],ds,h=>by
  unfold ExpL at h;unfold ExpD;cases ds with
  |nil=>rfl
  |cons=>cases h
 |x::l,ds,h=>by
  unfold ExpL at h;unfold ExpD;obtain⟨y,r,a,b,c⟩:=h;cases ds with
  |nil=>cases a
  |cons d ds=>
   simp only[List.map_cons,List.cons.injEq]at a;obtain⟨rfl,rfl⟩:=a;exact⟨d,ds,rfl,b,jq1 c⟩
theorem jnu:∀{l:List D}{ds:List D},ExpL k σ ns (l.map .dat) (ds.map .dat)->DLes l ds
 |[],ds,h=>by
  simp only[List.map_nil]at h;unfold ExpL at h;unfold DLes;cases ds with
  |nil=>rfl
  |cons=>cases h
 |x::l,ds,h=>by
  simp only[List.map_cons]at h;unfold ExpL at h;unfold DLes;obtain⟨y,r,a,b,f⟩:=h;cases ds with
  |nil=>cases a
  |cons d ds=>
   simp only[List.map_cons,List.cons.injEq]at a;obtain⟨rfl,rfl⟩:=a;unfold Exp at b;obtain⟨d',c,e⟩:=b;cases c;exact⟨d,ds,rfl,e,jnu f⟩
theorem jmw:∀{ds:List D},(ds.map AV.dat).any badB=false:=by intro ds;simp[badB]
theorem jq3{ms:List Md}{x y:AV}(h:exS k σ ns ms x=some y):Exp k σ ns x y:=by
 unfold exS at h;split at h
 ·rename_i l;simp only[]at h;cases hb:(exC k σ ns ms l).any badB with
  |true=>rw[hb]at h;cases h
  |false=>
   rw[hb]at h;cases h;have:=jns hb;unfold jd3;split
   ·rename_i ds hd;rw[jel hd]at this;exact jt1 (jq1 this)
   ·exact jsi this
 ·rename_i d;split at h
  ·cases h;exact jmq rfl
  ·rename_i m a;split at h
   ·rename_i l;split at h
    ·rename_i ds hd;cases h;have h0:(exC k σ ns (m::a) (l.map .dat)).any badB=false:=by rw[jel hd];exact jmw
     have:=jns h0;rw[jel hd]at this;unfold Exp;exact⟨_,rfl,by unfold DLe;exact⟨ds,rfl,jnu this⟩⟩
    ·cases h
   ·simp only[]at h;cases hb:badB (exV k σ ns m (.dat d))with
    |true=>rw[hb]at h;cases h
    |false=>
     rw[hb]at h;cases h;rcases jnr (k:=k) (σ:=σ) (ns:=ns) (m:=m) (x:=.dat d)with h1|h1
     ·rw[h1]at hb;cases hb
     ·exact h1
 ·simp only[]at h;cases hb:badB (exV k σ ns (ms.headD .k) x)with
  |true=>rw[hb]at h;cases h
  |false=>
   rw[hb]at h;cases h;rcases jnr (k:=k) (σ:=σ) (ns:=ns) (m:=ms.headD .k) (x:=x)with h1|h1
   ·rw[h1]at hb;cases hb
   ·exact h1
theorem jmr:∀{ms:List (List Md)}{l l':List AV},exSs k σ ns ms l=some l'->ExpL k σ ns l l'
 |m::ms,x::l,l',h=>by
  unfold exSs at h;split at h
  ·rename_i y r a b;cases h;exact jfw (jq3 a) (jmr b)
  ·cases h
 |[],x::l,l',h=>by
  unfold exSs at h;split at h
  ·rename_i y r a b;cases h;exact jfw (jq3 a) (jmr b)
  ·cases h
 |[],[],l',h=>by unfold exSs at h;cases h;exact jg1
 |m::ms,[],l',h=>by unfold exSs at h;cases h;exact jg1
theorem juu{ms:List (List Md)}{x y:AV}(h:exT k σ ns ms x=some y):Exp k σ ns x y:=by
 unfold exT at h;split at h
 ·split at h
  ·rename_i l' a;cases h;exact jty (jmr a)
  ·cases h
 ·exact jq3 h
end

def jj2(ty:TypeId->Option TyE)(σ:Objs)(n:Nat)(A:List (Nat×AV)):ResultVar->Option AV
 | .tmp t=>some (evX n A (.tmp t))
 | .cell a t=>
  match evX n A (.tmp a),ty t with
  | .ref o i,some T=>
   match σ o with
   |some (.box _ l)=>bif T.isAgg then(bif Nat.ble (i+T.size) l.length then some (.aggv ((l.drop i).take T.size))else none)else l[i]?
   |_=>none
  |_,_=>none
def jhh(ty:TypeId->Option TyE)(σ:Objs)(n:Nat)(A:List (Nat×AV)):List ResultVar->Option (List AV)
 |[]=>some []
 |x::l=>match jj2 ty σ n A x,jhh ty σ n A l with
  |some v,some r=>some (v::r)
  |_,_=>none
def resX(ty:TypeId->Option TyE)(σ:Objs)(n:Nat)(A:List (Nat×AV))(rs:List ResultVar):Option AV:=
 match jhh ty σ n A rs with
 |some [x]=>some x
 |some l=>some (.tup l)
 |none=>none
theorem jom{ty:TypeId->Option TyE}{σ:Objs}{A:List (Nat×AV)}{r:ResultVar}{v:AV}(h:jj2 ty σ n A r=some v):jhg ty σ (envX n A) r=some v:=by
 cases r with
 |tmp t=>unfold jj2 at h;unfold jhg;simp only[]at h ⊢;rw[jdg];exact h
 |cell a t=>
  unfold jj2 at h;unfold jhg;simp only[]at h ⊢;rw[jdg];have b:evX n A (.tmp a)=bif Nat.blt a n then lkA A a else .und:=rfl;rw[b]at h;split at h
  ·rename_i o i T c d;rw[c,d];simp only[];split at h
   ·rename_i l e;rw[e];simp only[];cases hA:T.isAgg with
    |true=>
     rw[hA]at h;simp only[cond_true]at h;cases hb:Nat.ble (i+T.size) l.length with
     |true=>rw[hb]at h;rw[if_pos rfl,if_pos (Nat.le_of_ble_eq_true hb)];exact h
     |false=>rw[hb]at h;cases h
    |false=>rw[hA]at h;simpa using h
   ·cases h
  ·cases h
theorem jf6{ty:TypeId->Option TyE}{σ:Objs}{A:List (Nat×AV)}:∀{rs:List ResultVar}{l:List AV},jhh ty σ n A rs=some l->jfm ty σ (envX n A) rs=some l
 |[],l,h=>by unfold jhh at h;unfold jfm;exact h
 |r::rs,l,h=>by
  unfold jhh at h;unfold jfm;split at h
  ·rename_i v c a b;rw[jom a,jf6 b];exact h
  ·cases h
theorem jth{ty:TypeId->Option TyE}{σ:Objs}{A:List (Nat×AV)}{rs:List ResultVar}{v:AV}(h:resX ty σ n A rs=some v):jps ty rs σ (envX n A)=some v:=by
 unfold resX at h;unfold jps;split at h
 ·rename_i y c;rw[jf6 c];exact h
 ·rename_i l h0 c;rw[jf6 c];cases l with
  |nil=>exact h
  |cons a l=>cases l with
   |nil=>exact absurd rfl (h0 a)
   |cons b l=>exact h
 ·cases h

def finX(ty:TypeId->Option TyE)(rs:List ResultVar)(n k:Nat)(ns:List Nat)(ms:List (List Md))(x:X):Option (AV×List Obj'×List Obj'):=
 match resX ty (obo x.L) n x.A rs with
 |some v=>
  match exT k (obo x.L) ns ms v,jex (obo x.L) ns,jir (obo x.L) (ixN (List.range k++ns)) (List.range k)with
  |some r,some new,some ob=>bif jef ns&&ns.all (fun m=>Nat.ble k m)&&new.all (nlB new.length)&&ob.all (nlB (ob.length+new.length))then some (r,new,ob)else none
  |_,_,_=>none
 |none=>none

theorem ju8{ty:TypeId->Option TyE}{rs:List ResultVar}{k:Nat}{d:AV}{a b:List Obj'}(ns:List Nat)(ms:List (List Md))(h:finX ty rs n k ns ms x=some (d,a,b)){e:Exit}(q:(match e with| .normal| .ret=>True|_=>False)):
  Fin ty rs k (fun r new ob=>r=d/\ new=a/\ ob=b) e (x.st n):=by
 unfold finX at h;split at h
 ·rename_i v t;split at h
  ·rename_i r new ob l o p;cases hb:(jef ns&&ns.all (fun m=>Nat.ble k m)&&new.all (nlB new.length)&&ob.all (nlB (ob.length+new.length)))with
   |false=>rw[hb]at h;cases h
   |true=>
    rw[hb]at h;cases h;simp only[Bool.and_eq_true]at hb;obtain⟨⟨⟨f,g⟩,i⟩,j⟩:=hb;exact⟨q,v,d,ns,a,b,jth t,juu l,⟨rfl,rfl,rfl⟩,o,p,jbn f,fun m s=>Nat.le_of_ble_eq_true (List.all_eq_true.1 g m s),fun y c=>jgf (List.all_eq_true.1 i y c),fun y c=>jgf (List.all_eq_true.1 j y c)⟩
  ·cases h
 ·cases h
end

def modS{α β:Type}(lend:List Pt)(encD:α->List D)(encO:α->List Obj')(m:α->Option β)(res:β->AV)(new:β->List Obj')(ob:α->β->List Obj'):FnSpec:=
 ⟨lend,fun ds obs=>∃x y,ds=encD x/\ obs=encO x/\ m x=some y,fun ds obs r b a=>∃x y,ds=encD x/\ obs=encO x/\ m x=some y/\ r=res y/\ b=new y/\ a=ob x y,[],fun _ _ _ _ _ _=>⟨fun j h=>(by cases h),fun h=>absurd rfl h⟩,[],fun _ _ _ _ _ _ p h=>by cases h⟩
section
variable{α β:Type}{lend:List Pt}{encD:α->List D}{encO:α->List Obj'}{m:α->Option β}{res:β->AV}{new:β->List Obj'}{ob:α->β->List Obj'}
theorem jqa:jkr (modS lend encD encO m res new ob):=by
 rintro ds obs ⟨x,y,rfl,rfl,h⟩;exact⟨_,_,_,x,y,rfl,rfl,h,rfl,rfl,rfl⟩
theorem jqb(a:∀x x',encD x=encD x'->encO x=encO x'->x=x'){x:α}{y:β}(h:m x=some y):jd9 (modS lend encD encO m res new ob) (encD x) (encO x) (res y) (new y) (ob x y):=by
 refine⟨⟨x,y,rfl,rfl,h⟩,?_⟩;rintro g c f ⟨x',i,d,e,b,rfl,rfl,rfl⟩;have:=a x x' d e;subst this;rw[h]at b;cases b;exact⟨rfl,rfl,rfl⟩

theorem jsp{cx:Cx}{env b:List AV}{σ:Objs}{nx:Nat}(d:b.length=env.length)(h:∀t,b.getD t .und=env.getD t .und \/b.getD t .und=.unk):Wk cx ⟨env,σ,nx⟩ ⟨b,σ,nx⟩:=by
 intro κ F a w ⟨c,e⟩;refine⟨κ,F,fun _ h=>h,⟨by rw[c.size];exact d.symm,c.dfr,fun t=>?_,fun t=>?_⟩,e⟩
 ·rcases h t with h|h
  ·rw[h];exact c.rv t
  ·rw[h];unfold RV;trivial
 ·rcases h t with h|h
  ·rw[h];exact c.nb t
  ·rw[h];unfold NB;trivial

def hdX:Nat->List AV->List (Nat×AV)
 |_,[]=>[]
 |i,x::l=>(i,x)::hdX (i+1) l
def jit:Nat->List Obj'->List (Nat×Option Obj')
 |_,[]=>[]
 |i,x::l=>(i,some (x.regen i))::jit (i+1) l
theorem jsx:∀(l:List AV)(i t:Nat),lkA (hdX i l) t=.unk \/(i<=t/\ l[t-i]? =some (lkA (hdX i l) t))
 |[],i,t=>.inl rfl
 |x::l,i,t=>by
  unfold hdX lkA;cases hb:Nat.beq t i with
  |true=>
   have:=Nat.eq_of_beq_eq_true hb;subst this;right;simp
  |false=>
   have b:t≠i:=fun e=>by subst e;simp at hb
   rcases jsx l (i+1) t with h|⟨c,a⟩
   ·left;simpa using h
   ·right;refine⟨by omega,?_⟩;have:t-i=(t-(i+1))+1:=by omega
    rw[this];simpa using a
theorem jnj:∀(l:List Obj')(i t:Nat),obo (jit i l) t=if i<=t then(l[t-i]?).map (·.regen t)else none
 |[],i,t=>by simp[jit,obo]
 |x::l,i,t=>by
  unfold jit obo;cases hb:Nat.beq t i with
  |true=>
   have:=Nat.eq_of_beq_eq_true hb;subst this;simp
  |false=>
   have a:t≠i:=fun e=>by subst e;simp at hb
   simp only[cond_false,jnj l (i+1) t];by_cases h:i<=t
   ·have:t-i=(t-(i+1))+1:=by omega
    rw[if_pos h,if_pos (by omega),this];simp
   ·rw[if_neg h,if_neg (by omega)]
theorem jke:∀(ls:List Pt)(ds:List D)(k:Nat),(ja1 ls ds k).length=ls.length
 |[],ds,k=>by unfold ja1;rfl
 |p::ls,[],k=>by unfold ja1;simp[jke ls [] k]
 |p::ls,d::ds,k=>by unfold ja1;simp[jke ls ds (k+p.n)]

theorem jse{P:Program}{J:Inv}{ty:TypeId->Option TyE}(i:∀t x,ty t=some x->TyOK P t x){f:Nat}{fn:Func}{c:Code}(hc:∀args w,(callFunc f args).run P w=.ok (.enter f args) w)(B:P.funcs[f]? =some fn)(hb:fn.body=some c)
  (rs:List ResultVar) (g:fn.results.toList=rs) (n:Nat) (E:fn.ntmps=n) (N:Nat) (hN:(Nat.ble (Pt.ns lend) N&&Nat.ble lend.length n)=true) (K:Nat) (hO:∀x,(encO x).length<=N/\ K<=(encO x).length)
  (h:∀x y cx,m x=some y->cx.L=K->cx.J=J->Ok P cx c (Fin ty rs K (fun r o b=>r=res y/\ o=new y/\ b=ob x y)) ((⟨hdX 0 (ja1 lend (encD x) 0),jit 0 (encO x),N⟩:X).st n)):FnOK P J f (modS lend encD encO m res new ob):=by
 simp only[Bool.and_eq_true]at hN;have z:=Nat.le_of_ble_eq_true hN.1;have F:=Nat.le_of_ble_eq_true hN.2;refine jtu i (modS lend encD encO m res new ob) N hc B hb z K rs g n E (by rintro ds obs ⟨x,y,rfl,rfl,_⟩;exact hO x) ?_;rintro ds obs cx ⟨x,y,rfl,rfl,j⟩ hL hJ;have C:=jke lend (encD x) 0;have a:jhr (encO x)=obo (jit 0 (encO x)):=by
  funext t;rw[jnj];simp[jhr]
 refine jai (s':=(⟨hdX 0 (ja1 lend (encD x) 0),jit 0 (encO x),N⟩:X).st n) ?_ (Ok.mono (h x y cx j hL hJ) ?_)
 ·show Wk cx ⟨_,jhr (encO x),N⟩ ⟨envX n _,obo (jit 0 (encO x)),N⟩;rw[a];refine jsp ?_ fun t=>?_
  ·simp only[envX,List.length_map,List.length_range,List.length_append,List.length_replicate];show n=(ja1 lend (encD x) 0).length+(n-(ja1 lend (encD x) 0).length);omega
  ·rw[jdg];by_cases l:t<n
   ·have:Nat.blt t n=true:=by simpa[Nat.blt_eq]using l
    rw[this];simp only[cond_true];rcases jsx (ja1 lend (encD x) 0) 0 t with h|⟨_,h⟩
    ·exact .inr h
    ·left;simp only[Nat.sub_zero]at h;have d:t<(ja1 lend (encD x) 0).length:=(List.getElem?_eq_some_iff.1 h).1;rw[List.getD_eq_getElem?_getD];show _=(((ja1 lend (encD x) 0)++_)[t]?).getD .und;rw[List.getElem?_append_left d,h];rfl
   ·have:Nat.blt t n=false:=by
     cases hb:Nat.blt t n with
     |true=>exact absurd (by simpa[Nat.blt_eq]using hb) l
     |false=>rfl
    rw[this];left;rw[List.getD_eq_getElem?_getD,List.getElem?_eq_none]
    ·rfl
    ·simp only[List.length_append,List.length_replicate];show(ja1 lend (encD x) 0).length+(n-(ja1 lend (encD x) 0).length)<=t;omega
 ·rintro e s ⟨A,v,r,ns,o,b,p,q,⟨rfl,rfl,rfl⟩,u⟩;exact⟨A,v,_,ns,_,_,p,q,⟨x,y,rfl,rfl,j,rfl,rfl,rfl⟩,u⟩
end
end Go.Ab
