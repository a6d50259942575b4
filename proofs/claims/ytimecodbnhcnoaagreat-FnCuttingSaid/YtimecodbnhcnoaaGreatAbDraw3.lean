/- My own layer, seventeenth part: the text's order serves for every order. -/
import Derived.Test.YtimecodbnhcnoaaGreatAbDraw2
namespace Go.Ab
set_option linter.unusedVariables false
set_option linter.unusedSimpArgs false

def jq6(ops:Array Oper)(i j:Nat):Bool:=
 ((ops[i]?).any fun o=>o.after.any fun e=>Region.binds .any e&&e.on==j)||((ops[j]?).any fun o=>o.after.any fun e=>Region.binds .any e&&e.on==i)

def jmx(tab:List Nat):List Edge->Nat
 |[]=>0
 |e::r=>bif Region.binds .any e then Nat.lor (Nat.lor (Nat.shiftLeft 1 e.on) (tab.getD e.on 0)) (jmx tab r)else jmx tab r
def ancT:List Oper->List Nat->List Nat
 |[],tab=>tab
 |o::r,tab=>ancT r (tab++[jmx tab o.after.toList])
def bitB(m i:Nat):Bool:=Nat.testBit m i
def jea(ops:Array Oper)(i j:Nat):Bool:=
 jq6 ops i j||(bitB ((ancT ops.toList []).getD j 0) i||bitB ((ancT ops.toList []).getD i 0) j)

def jtb(ty:TypeId->Option TyE)(Γ:Nat->Option FnSpec)(M:Nat->List Nat)(ops:Array Oper)(i:Nat):Bool:=
 (List.range ops.size).all fun k=>k==i|| !((ops[k]?).any (mutB ty Γ)&&(M k).any fun n=>(M i).any fun m=>Nat.beq n m)||jea ops i k

def jiv(ty:TypeId->Option TyE)(Γ:Nat->Option FnSpec)(M:Nat->List Nat)(ops:Array Oper)(i:Nat):Bool:=
 !((ops[i]?).any (mutB ty Γ))||jtb ty Γ M ops i

def ldK(ty:TypeId->Option TyE)(e:Operand->AV)(M:Nat->List Nat)(k:Nat)(o:Oper):Bool:=
 match o.op with
 | .load t a=>match e a,ty t with
  | .ref n i,some T=>Nat.blt 0 (bif T.isAgg then T.size else 1)&&(List.range (bif T.isAgg then T.size else 1)).all fun d=>bif Nat.blt (i+d) 1000 then(M (k+10000)).any (fun q=>Nat.beq q (n*1000+(i+d)))else false
  |_,_=>false
 |_=>false
def OkM(ty:TypeId->Option TyE)(Γ:Nat->Option FnSpec)(ops:Array Oper)(M:Nat->List Nat)(i:Nat)(o:Oper)(env:List AV)(σ:Objs):Prop:=
 bif mutB ty Γ o then(∀n∈jbt σ (jau env) o,n∈M i \/(n∈jfs Γ σ (jau env) o/\ ∀k ok,ops[k]? =some ok->mutB ty Γ ok=true->k≠i->jea ops i k=false->n∉M k))/\ ∀q∈M (i+10000),q∈jiu Γ σ (jau env) o
 else∀k ok,ops[k]? =some ok->mutB ty Γ ok=true->k≠i->jea ops i k=false->∀n∈jbt σ (jau env) o,n∉M k \/ldK ty (jau env) M k o=true

def runD(ty:TypeId->Option TyE)(Γ:Nat->Option FnSpec)(ops:Array Oper)(M:Nat->List Nat)(K:List AV->Objs->Nat->Prop):List Oper->Nat->Nat->List AV->Objs->Prop
 |[],_,nm,env,σ=>K env σ nm
 |o::r,k,nm,env,σ=>OkM ty Γ ops M k o env σ/\ (jb1 ty Γ ops σ env nm o).T fun av δ=>runD ty Γ ops M K r (k+1) (nm+16) (putA env o.dst av) (app δ σ)

def lexM(ty:TypeId->Option TyE)(Γ:Nat->Option FnSpec)(M:Nat->List Nat)(ops:Array Oper):Bool:=(List.range ops.size).all (jiv ty Γ M ops)

section
variable{P:Program}{cx:Cx}{κ:Kap}{F:Nat->Prop}{w:World}{nm:Nat}{σ:Objs}{ty:TypeId->Option TyE}{Γ:Nat->Option FnSpec}{ops:Array Oper}{M:Nat->List Nat}{base:Nat}

theorem jly(δ:jbd):∀(σ:Objs)(n:Nat),(∀p∈δ,p.1≠n)->app δ σ n=σ n:=by
 induction δ with
 |nil=>intro σ n _;rfl
 |cons p δ b=>
  intro σ n h;obtain⟨o,x⟩:=p;simp only[app];rw[b _ n fun q a=>h q (List.mem_cons_of_mem _ a),jbz (Ne.symm (h (o,x) (List.mem_cons_self ..)))]

theorem jg3(δ:jbd):∀(σ σ':Objs)(n:Nat),((∃p∈δ,p.1=n) \/σ n=σ' n)->app δ σ n=app δ σ' n:=by
 induction δ with
 |nil=>
  intro σ σ' n h;rcases h with⟨p,c,_⟩|h
  ·cases c
  ·exact h
 |cons p δ d=>
  intro σ σ' n h;obtain⟨o,x⟩:=p;simp only[app];refine d _ _ n ?_;by_cases b:n=o
  ·subst b;right;rw[jax,jax]
  ·rcases h with⟨q,hq,a⟩|h
   ·rcases List.mem_cons.1 hq with rfl|hq
    ·exact absurd a.symm b
    ·exact .inl ⟨q,hq,a⟩
   ·right;rw[jbz b,jbz b];exact h

theorem jpz(env:List AV){x y:Option Tmp}(v u:AV)(h:∀d,x=some d->y≠some d):putA (putA env x v) y u=putA (putA env y u) x v:=by
 cases x with
 |none=>rfl
 |some d=>
  cases y with
  |none=>rfl
  |some e=>
   have a:d≠e:=fun b=>h d rfl (b▸rfl);simp only[putA];exact List.set_comm _ _ a

def Ul(base:Nat)(a:Array Bool)(n:Nat):Prop:=n<base \/∃i,a.getD i false=true/\ Rng (base+16*i) n

structure NBE(U:Nat->Prop)(env:List AV)(σ:Objs):Prop where
 env:∀t,NB U (env.getD t .und)
 ob:∀o x,σ o=some x->U o/\ NBo U x

theorem NBE.eval{U:Nat->Prop}{env:List AV}(h:NBE U env σ)(x:Operand):NB U (jau env x):=by
 cases x with
 |tmp t=>exact h.env t
 |const v=>
  simp only[jau];cases v
  case agg cs=>simp only[jcu];split<;>(unfold NB;trivial)
  all_goals (simp only[jcu];unfold NB;trivial)
 |global g=>simp only[jau];unfold NB;trivial
 |func f=>simp only[jau];unfold NB NBs;trivial

theorem jo7(e:Live Γ){U:Nat->Prop}{env:List AV}(h:NBE U env σ){o:Oper}:jcw U nm (fun n=>mutB ty Γ o=true/\ n∈jbt σ (jau env) o) (jb1 ty Γ ops σ env nm o):=by
 have hs:=jo6 e (nm:=nm) (ty:=ty) (Γ:=Γ) (σ:=σ) (fun _=>rfl) (fun x=>h.eval x) h.ob (o:=o);have d:jcw U nm (fun n=>mutB ty Γ o=true/\ n∈jbt σ (jau env) o) jk3:=jaq fun _=>jas (by unfold NB;trivial);unfold jb1;split
 ·exact hs
 ·split
  ·exact jad
  ·split
   ·exact d
   ·have c:∀a b:Bool,jcw U nm (fun n=>mutB ty Γ o=true/\ n∈jbt σ (jau env) o) (bif a then Spec.split b (spec ty Γ σ (jau env) nm o) jk3 else Spec.split b jk3 (spec ty Γ σ (jau env) nm o)):=by
     intro a b;cases a
     ·exact jf4 d hs
     ·exact jf4 hs d
    exact c _ _
   ·exact jad

theorem NBE.put{U:Nat->Prop}{env:List AV}{W:Nat->Prop}{d:Option Tmp}{av:AV}{δ:jbd}(h:NBE U env σ)(f:Tame U nm W av δ):NBE (Un U nm) (putA env d av) (app δ σ):=by
 refine⟨fun t=>?_,fun o x b=>?_⟩
 ·have old:NB (Un U nm) (env.getD t .und):=NB.mono (fun _ h=>ja3 h) (h.env t);cases d with
  |none=>exact old
  |some d=>
   simp only[putA];rw[List.getD_eq_getElem?_getD];by_cases hd:d=t
   ·subst hd;by_cases c:d<env.length
    ·rw[List.getElem?_set_self c];exact f.nb
    ·rw[List.set_eq_of_length_le (Nat.le_of_not_lt c),<-List.getD_eq_getElem?_getD];exact old
   ·rw[List.getElem?_set_ne hd,<-List.getD_eq_getElem?_getD];exact old
 ·have key:∀(δ:jbd)(σ:Objs),(∀p∈δ,∀x,p.2=some x->Un U nm p.1/\ NBo (Un U nm) x)->(∀o x,σ o=some x->Un U nm o/\ NBo (Un U nm) x)->∀o x,app δ σ o=some x->Un U nm o/\ NBo (Un U nm) x:=by
   intro δ
   induction δ with
   |nil=>intro σ _ hs o x b;exact hs o x b
   |cons p δ i=>
    intro σ hd hs o x b;obtain⟨n,y⟩:=p;refine i (upd σ n y) (fun q g=>hd q (List.mem_cons_of_mem _ g)) (fun o' x' a=>?_) o x b;by_cases e:o'=n
    ·subst e;rw[jax]at a;exact hd (o',y) (List.mem_cons_self ..) x' a
    ·rw[jbz e]at a;exact hs o' x' a
  exact key δ σ f.ob (fun o x b=>⟨ja3 (h.ob o x b).1,NBo.mono (fun _ h=>ja3 h) (h.ob o x b).2⟩) o x b

def TA(ty:TypeId->Option TyE)(Γ:Nat->Option FnSpec)(ops:Array Oper)(M:Nat->List Nat)(base:Nat)(i:Nat)(env:List AV)(σ:Objs)(K:List AV->Objs->Prop):Prop:=
 match ops[i]? with
 |none=>False
 |some o=>OkM ty Γ ops M i o env σ/\ (jb1 ty Γ ops σ env (base+16*i) o).T fun av δ=>K (putA env o.dst av) (app δ σ)

def anyA(ty:TypeId->Option TyE)(Γ:Nat->Option FnSpec)(ops:Array Oper)(M:Nat->List Nat)(base:Nat)(K:List AV->Objs->Prop):Nat->Array Bool->List AV->Objs->Prop
 |0,a,env,σ=>NBE (Ul base a) env σ->Region.ready .any ops a=[]/\ K env σ
 |fuel+1,a,env,σ=>NBE (Ul base a) env σ->(Region.ready .any ops a=[]->K env σ)/\
   ∀i∈Region.ready .any ops a,TA ty Γ ops M base i env σ (anyA ty Γ ops M base K fuel (a.setIfInBounds i true))

theorem jo3{a:Array Bool}{i:Nat}(hi:i<a.size):Un (Ul base a) (base+16*i)=Ul base (a.setIfInBounds i true):=by
 funext n;simp only[Un,Ul,Rng,eq_iff_iff];constructor
 ·rintro((h|⟨j,c,h⟩)|h)
  ·exact .inl h
  ·exact .inr ⟨j,getD_set_true c,h⟩
  ·exact .inr ⟨i,by simp[hi],h⟩
 ·rintro(h|⟨j,c,h⟩)
  ·exact .inl (.inl h)
  ·by_cases b:i=j
   ·subst b;exact .inr h
   ·rw[getD_set_ne false b]at c;exact .inl (.inr ⟨j,c,h⟩)

theorem jdj{a:Array Bool}{i n:Nat}(hi:a.getD i false=false)(h:Rng (base+16*i) n):¬Ul base a n:=by
 rintro(b|⟨j,d,b⟩)
 ·have:=h.1;omega
 ·have c:i=j:=by have:=h.1;have:=h.2;have:=b.1;have:=b.2;omega
  subst c;rw[hi]at d;cases d

theorem jcj:∀{U:Nat->Prop}{x:AV},NB U x->∀n∈x.names,U n:=by
 intro U;have key:(∀x:AV,NB U x->∀n∈x.names,U n)/\ True:=⟨?_,trivial⟩;exact fun{x}=>key.1 x;intro x;exact AV.rec (motive_1:=fun x=>NB U x->∀n∈x.names,U n) (motive_2:=fun l=>NBs U l->∀n∈jan l,U n)
  (fun d _ n hn=>by simp[AV.names]at hn) (fun o h n hn=>by unfold NB at h;simp[AV.names]at hn;subst hn;exact h) (fun o i h n hn=>by unfold NB at h;simp[AV.names]at hn;subst hn;exact h)
  (fun o es k j h n hn=>by unfold NB at h;simp[AV.names]at hn;subst hn;exact h) (fun o g k j h n hn=>by unfold NB at h;simp[AV.names]at hn;subst hn;exact h.1) (fun o g k j es i c h n hn=>by unfold NB at h;simp[AV.names]at hn;subst hn;exact h.1) (fun o g k j es lo m h n hn=>by unfold NB at h;simp[AV.names]at hn;subst hn;exact h.1) (fun l _ n hn=>by simp[AV.names]at hn)
  (fun l a h n hn=>by unfold NB at h;unfold AV.names at hn;exact a h n hn) (fun l a h n hn=>by unfold NB at h;unfold AV.names at hn;exact a h n hn) (fun f l a h n hn=>by unfold NB at h;unfold AV.names at hn;exact a h n hn)
  (fun _ n hn=>by simp[AV.names]at hn) (fun _ n hn=>by simp[AV.names]at hn)
  (fun _ n hn=>by simp[jan]at hn)
  (fun x l e b h n hn=>by
   unfold NBs at h;unfold jan at hn;rcases List.mem_append.1 hn with hn|hn
   ·exact e h.1 n hn
   ·exact b h.2 n hn) x

theorem jhi{U:Nat->Prop}{env:List AV}(h:NBE U env σ)(o:Oper):∀n∈ja6 (jau env) o,U n:=by
 intro n hn;unfold ja6 at hn;split at hn
 ·exact jcj (h.eval _) n hn
 ·rename_i a x _;have b:=jcj (h.eval a);split at hn
  ·rename_i f;rw[f]at b;rcases List.mem_cons.1 hn with rfl|hn
   ·exact b n (by simp[AV.names])
   ·exact jcj (h.eval x) n hn
  ·exact b n hn
 ·rename_i e;have:∀(l:List (Nat×Operand)),n∈jan (l.map fun p=>jau env p.2)->U n:=by
   intro l
   induction l with
   |nil=>intro hn;simp[jan]at hn
   |cons x l d=>
    intro hn;simp only[List.map_cons]at hn;unfold jan at hn;rcases List.mem_append.1 hn with hn|hn
    ·exact jcj (h.eval x.2) n hn
    ·exact d hn
  exact this _ hn
 ·exact jcj (h.eval _) n hn
 ·exact jcj (h.eval _) n hn
 ·exact jcj (h.eval _) n hn
 ·exact jcj (h.eval _) n hn
 ·exact jcj (h.eval _) n hn
 ·rename_i args _ _;have:∀(l:List Operand),n∈jan (l.map (jau env))->U n:=by
   intro l
   induction l with
   |nil=>intro hn;simp[jan]at hn
   |cons x l d=>
    intro hn;simp only[List.map_cons]at hn;unfold jan at hn;rcases List.mem_append.1 hn with hn|hn
    ·exact jcj (h.eval x) n hn
    ·exact d hn
  rcases List.mem_append.1 hn with hn|hn
  ·exact this _ hn
  ·rename_i callee _ _ _;cases callee with
   |value c=>exact jcj (h.eval c) n hn
   |_=>cases hn
 ·cases hn

theorem jme{U:Nat->Prop}:∀{l:List AV},NBs U l->∀n∈jgo l,U n
 |[],_,n,hn=>by cases hn
 |x::l,h,n,hn=>by
  unfold NBs at h;unfold jgo at hn;split at hn
  ·rename_i heq;cases heq
  ·rename_i o l' heq;cases heq;rcases List.mem_cons.1 hn with rfl|hn
   ·have:=h.1;unfold NB at this;exact this
   ·exact jme h.2 n hn
  ·rename_i y l' _ heq;cases heq;exact jme h.2 n hn
theorem jeq{U:Nat->Prop}{env:List AV}(h:NBE U env σ)(o:Oper):∀n∈jbt σ (jau env) o,U n:=by
 have key:∀(l:List Nat),∀n∈inn σ l,U n:=by
  intro l
  induction l with
  |nil=>intro n hn;cases hn
  |cons a l c=>
   intro n hn;unfold inn at hn;rcases List.mem_append.1 hn with hn|hn
   ·split at hn
    ·rename_i cs b;exact jme (h.ob a _ b).2 n hn
    ·cases hn
   ·exact c n hn
 intro n hn;unfold jbt at hn;rcases List.mem_append.1 hn with hn|hn
 ·exact jhi h o n hn
 ·unfold xset at hn;split at hn
  ·exact key _ n hn
  ·cases hn

theorem jh4{i j:Nat}{d f:Oper}(hi:ops[i]? =some d)(l:ops[j]? =some f)(g:∀e∈f.after,Region.binds .any e=true->e.on≠i)(k:∀e∈d.after,Region.binds .any e=true->e.on≠j):jq6 ops i j=false:=by
 have a:(ops[i]?.any fun o=>o.after.any fun e=>Region.binds .any e&&e.on==j)=false:=by
  rw[hi];simp only[Option.any_some];rw[Bool.eq_false_iff];intro h;obtain⟨e,c,hb⟩:=Array.any_eq_true'.1 h;simp only[Bool.and_eq_true,beq_iff_eq]at hb;exact k e c hb.1 hb.2
 have b:(ops[j]?.any fun o=>o.after.any fun e=>Region.binds .any e&&e.on==i)=false:=by
  rw[l];simp only[Option.any_some];rw[Bool.eq_false_iff];intro h;obtain⟨e,c,hb⟩:=Array.any_eq_true'.1 h;simp only[Bool.and_eq_true,beq_iff_eq]at hb;exact g e c hb.1 hb.2
 unfold jq6;rw[a,b];rfl

inductive Bef(ops:Array Oper):Nat->Nat->Prop where
 |one {j:Nat} {o:Oper} {e:Edge}:ops[j]? =some o->e∈o.after->Region.binds .any e=true->Bef ops e.on j
 |far {i j:Nat} {o:Oper} {e:Edge}:ops[j]? =some o->e∈o.after->Region.binds .any e=true->Bef ops i e.on->Bef ops i j

theorem jlz{tab:List Nat}{j:Nat}{o:Oper}(a:ops[j]? =some o)(c:∀k i,bitB (tab.getD k 0) i=true->Bef ops i k):∀(l:List Edge),(∀e∈l,e∈o.after)->∀i,bitB (jmx tab l) i=true->Bef ops i j
 |[],_,i,h=>by simp[jmx,bitB]at h
 |e::l,b,i,h=>by
  have d:=jlz a c l (fun e f=>b e (List.mem_cons_of_mem _ f)) i;unfold jmx at h;cases hb:Region.binds .any e with
  |false=>rw[hb]at h;exact d h
  |true=>
   rw[hb]at h;simp only[cond_true]at h;unfold bitB at h
   change Nat.testBit ((((1:Nat)<<<e.on)|||(tab.getD e.on 0))|||jmx tab l) i=true at h
   rw[Nat.testBit_or,Nat.testBit_or,Bool.or_eq_true,Bool.or_eq_true]at h;rcases h with(h|h)|h
   ·have:e.on=i:=by
     rw[Nat.one_shiftLeft,Nat.testBit_two_pow]at h;exact of_decide_eq_true h
    subst this;exact .one a (b e (List.mem_cons_self ..)) hb
   ·exact .far a (b e (List.mem_cons_self ..)) hb (c _ _ h)
   ·exact d h

theorem jkp:∀(l:List Oper)(tab:List Nat),(∀k,l[k]? =ops[tab.length+k]?)->(∀k i,bitB (tab.getD k 0) i=true->Bef ops i k)->∀k i,bitB ((ancT l tab).getD k 0) i=true->Bef ops i k
 |[],tab,_,a,k,i,h=>a k i h
 |o::l,tab,b,a,k,i,h=>by
  unfold ancT at h;refine jkp l _ (fun k=>?_) ?_ k i h
  ·have:=b (k+1);simp only[List.getElem?_cons_succ,List.length_append,List.length_cons,List.length_nil]at this ⊢;rw[this];congr 1;omega
  ·intro k i hb;have h0:ops[tab.length]? =some o:=by simpa using(b 0).symm
   rw[List.getD_eq_getElem?_getD]at hb;rcases Nat.lt_trichotomy k tab.length with hk|hk|hk
   ·rw[List.getElem?_append_left hk,<-List.getD_eq_getElem?_getD]at hb;exact a k i hb
   ·subst hk;rw[List.getElem?_append_right (Nat.le_refl _)]at hb;simp only[Nat.sub_self,List.getElem?_cons_zero,Option.getD_some]at hb;exact jlz h0 a _ (fun e c=>Array.mem_toList_iff.1 c) i hb
   ·rw[List.getElem?_eq_none (by simp only[List.length_append,List.length_cons,List.length_nil];omega)]at hb;simp[bitB]at hb

def jfe(ops:Array Oper)(a:Array Bool):Prop:=∀j o,ops[j]? =some o->a.getD j false=true->∀e∈o.after,Region.binds .any e=true->a.getD e.on false=true

theorem jjf{a:Array Bool}(hc:jfe ops a){i j:Nat}(h:Bef ops i j):(∀o,ops[j]? =some o->∀e∈o.after,Region.binds .any e=true->a.getD e.on false=true)->a.getD i false=true:=by
 induction h with
 |one f c hb=>intro h;exact h _ f _ c hb
 |far f c hb l k=>
  intro h;refine k fun o g e' d b=>?_;exact hc _ o g (h _ f _ c hb) e' d b

theorem jms{n:Nat}:jfe ops (Array.replicate n false):=by
 intro j o _ h;rw[Array.getD_eq_getD_getElem?,Array.getElem?_replicate]at h;split at h<;>simp at h

theorem jjd{a:Array Bool}{i:Nat}(hc:jfe ops a)(h:∀o,ops[i]? =some o->∀e∈o.after,Region.binds .any e=true->a.getD e.on false=true):jfe ops (a.setIfInBounds i true):=by
 have mono:∀k,a.getD k false=true->(a.setIfInBounds i true).getD k false=true:=by
  intro k c;rw[Array.getD_eq_getD_getElem?]at c ⊢;rw[Array.getElem?_setIfInBounds];split
  ·rename_i d;subst d;split
   ·rfl
   ·rename_i hs;rw[Array.getElem?_eq_none (by omega)]at c;simp at c
  ·exact c
 intro j o g l e f hb;by_cases b:j=i
 ·subst b;exact mono _ (h o g e f hb)
 ·refine mono _ (hc j o g ?_ e f hb);rw[Array.getD_eq_getD_getElem?,Array.getElem?_setIfInBounds_ne (Ne.symm b),<-Array.getD_eq_getD_getElem?]at l;exact l

theorem jou{a:Array Bool}{i j:Nat}{n p:Oper}(hc:jfe ops a)(hi:ops[i]? =some n)(g:ops[j]? =some p)(l:a.getD i false=false)(m:a.getD j false=false)
  (d:∀e∈p.after,Region.binds .any e=true->a.getD e.on false=true) (f:∀e∈n.after,Region.binds .any e=true->a.getD e.on false=true):jea ops i j=false/\ jea ops j i=false:=by
 have s:jq6 ops i j=false:=jh4 hi g (fun e b hb heq=>by have:=d e b hb;rw[heq,l]at this;cases this) (fun e b hb heq=>by have:=f e b hb;rw[heq,m]at this;cases this);have t:jq6 ops j i=false:=jh4 g hi (fun e b hb heq=>by have:=f e b hb;rw[heq,m]at this;cases this) (fun e b hb heq=>by have:=d e b hb;rw[heq,l]at this;cases this);have q:bitB ((ancT ops.toList []).getD j 0) i=false:=by
  rw[Bool.eq_false_iff];intro h;have:=jjf hc (jkp (ops:=ops) ops.toList [] (by simp) (by intro k i h;simp[bitB]at h) j i h) (fun o c e b hb=>by rw[g]at c;cases c;exact d e b hb);rw[l]at this;cases this
 have r:bitB ((ancT ops.toList []).getD i 0) j=false:=by
  rw[Bool.eq_false_iff];intro h;have:=jjf hc (jkp (ops:=ops) ops.toList [] (by simp) (by intro k i h;simp[bitB]at h) i j h) (fun o c e b hb=>by rw[hi]at c;cases c;exact f e b hb);rw[m]at this;cases this
 unfold jea;rw[s,t,q,r];exact⟨rfl,rfl⟩

theorem jks{i j:Nat}{c:Oper}(b:ops[j]? =some c)(f:mutB ty Γ c=true)(d:((M j).any fun n=>(M i).any fun m=>Nat.beq n m)=true)(a:j≠i)(e:jea ops i j=false):jtb ty Γ M ops i=false:=by
 rw[Bool.eq_false_iff];intro h;unfold jtb at h;have:=(List.all_eq_true.1 h) j (List.mem_range.2 (Array.getElem?_eq_some_iff.1 b).1);simp[b,f,d,e,a]at this

theorem jqc{l l':List Nat}{n:Nat}(h:n∈l)(a:n∈l'):(l.any fun n=>l'.any fun m=>Nat.beq n m)=true:=
 List.any_eq_true.2 ⟨n,h,List.any_eq_true.2 ⟨n,a,Nat.beq_refl n⟩⟩

theorem jj5{i:Nat}{o:Oper}{env:List AV}(h:OkM ty Γ ops M i o env σ)(a:mutB ty Γ o=true){n:Nat}(b:n∈jbt σ (jau env) o):n∈M i \/(n∈jfs Γ σ (jau env) o/\ ∀k ok,ops[k]? =some ok->mutB ty Γ ok=true->k≠i->jea ops i k=false->n∉M k):=by
 unfold OkM at h;rw[a]at h;exact h.1 n b

theorem jdt{ns:List Nat}{nm:Nat}:∀{l:List AV},nrB l=true->NBs (· <ns.length) (rens (ixN ns) l)->rens (jgp nm ns ns.length) (rens (ixN ns) l)=l
 |[],_,_=>rfl
 |x::l,h,a=>by
  have c:∀o,ixN ns o<ns.length->jgp nm ns ns.length (ixN ns o)=o:=fun o e=>by
   unfold jgp;rw[show Nat.blt (ixN ns o) ns.length=true by simpa[Nat.blt_eq]using e];simp only[cond_true];rw[List.getD_eq_getElem?_getD,jlh e];rfl
  simp only[rens]at a ⊢;unfold NBs at a;cases x with
  |dat d=>rw[jdt (l:=l) h a.2];rfl
  |own o=>
   have b:=a.1;simp only[AV.ren]at b ⊢;unfold NB at b;rw[jdt (l:=l) h a.2,c o b]
  |ref o i=>
   have b:=a.1;simp only[AV.ren]at b ⊢;unfold NB at b;rw[jdt (l:=l) h a.2,c o b]
  |und=>rw[jdt (l:=l) h a.2];rfl
  |unk=>rw[jdt (l:=l) h a.2];rfl
  |_=>cases h
theorem jqm{nm f:Nat}{args:List AV}{g:List TypeId}{S:FnSpec}{s:List D}{ns rd:List Nat}(hS:Γ f=some S)(d:ja8 σ S.lend args=some (s,ns,rd)){av:AV}{δ:jbd}(e:(jbi ty Γ σ nm f args g).pre)(hR:(jbi ty Γ σ nm f args g).R av δ){n:Nat}(B:n∈S.kp.filterMap fun j=>ns[j]?)(hb:jrd σ n=true)(A:¬Rng nm n):app δ σ n=σ n:=by
 unfold jbi at e hR;simp only[hS,d,Option.map_some]at e hR;cases a:jex σ ns with
 |none=>rw[a]at e;exact e.elim
 |some obs=>
  rw[a]at e hR;obtain⟨_,L,I,N,K,J⟩:=(show _/\ _/\ _/\ _/\ _/\ _ from e);obtain⟨r,new,obs',b,_,rfl⟩:=(show∃r new obs',_/\ _/\ _ from hR);have y:=J r new obs' b;obtain⟨q,v⟩:=jdb a;obtain⟨j,u,k⟩:=List.mem_filterMap.1 B;obtain⟨G,H⟩:=S.kpok _ obs r new obs' b;have m:=H (fun h=>by rw[h]at u;cases u);obtain⟨x,z,C⟩:=v j n k;have few:=y.few;have i:∀(δ ε:jbd)(σ:Objs),app (δ++ε) σ=app ε (app δ σ):=by
   intro δ
   induction δ with
   |nil=>intro ε σ;rfl
   |cons p δ E=>intro ε σ;obtain⟨o,x⟩:=p;exact E ε _
  rw[i,jfc,if_neg (fun h=>A ⟨h.1,by omega⟩),(jei ns obs' nm new.length σ n I (by omega)).1 j k,G j u,z];have c:=hb;unfold jrd at c;rw[C]at c ⊢;cases x with
  |box T l=>
   have t:=K _ (List.mem_of_getElem? z);simp only[Obj'.ren,Obj'.regen,NBl]at t;rw[q]at t;simp only[Option.map_some,Obj'.ren,Obj'.regen];rw[m,q,jdt c t]
  |_=>cases c
theorem jmb{f:Nat->Nat}:∀{l:List AV}{c:Nat},(rens f l)[c]? =(l[c]?).map (AV.ren f)
 |[],c=>rfl
 |x::l,0=>rfl
 |x::l,c+1=>by
  show(rens f l)[c]? =_;rw[jmb (l:=l)];rfl
theorem jj3{f:Nat->Nat}:∀{l:List AV},(rens f l).length=l.length
 |[]=>rfl
 |x::l=>by simp only[rens,List.length_cons,jj3 (l:=l)]
def jss(σ σ':Objs)(n c:Nat):Prop:=∃T l l' d,σ n=some (.box T l)/\ σ' n=some (.box T l')/\ l'.length=l.length/\ l[c]? =some (.dat d)/\ l'[c]? =some (.dat d)
theorem jop{nm f:Nat}{args:List AV}{i:List TypeId}{S:FnSpec}{o:List D}{ns rd:List Nat}(hS:Γ f=some S)(c:ja8 σ S.lend args=some (o,ns,rd)){av:AV}{δ:jbd}(g:(jbi ty Γ σ nm f args i).pre)(hR:(jbi ty Γ σ nm f args i).R av δ){q:Nat×Nat}(B:q∈S.kc){n:Nat}(p:ns[q.1]? =some n)(z:∀n∈ns,¬Rng nm n):jss σ (app δ σ) n q.2:=by
 unfold jbi at g hR;simp only[hS,c,Option.map_some]at g hR;cases a:jex σ ns with
 |none=>rw[a]at g;exact g.elim
 |some obs=>
  rw[a]at g hR;obtain⟨_,O,L,Q,U,N⟩:=(show _/\ _/\ _/\ _/\ _/\ _ from g);obtain⟨r,new,obs',b,_,rfl⟩:=(show∃r new obs',_/\ _/\ _ from hR);have m:=N r new obs' b;obtain⟨A,s⟩:=jdb a;obtain⟨T,l,l',d,e,I,J,u,K⟩:=S.kcok _ obs r new obs' b q B;obtain⟨x,E,H⟩:=s q.1 n p;have few:=m.few;have C:=m.same;rw[E]at e;have j:app (jcl nm new.length ns obs'++jdo nm new) σ n=some (.box T (rens (jgp nm ns obs'.length) l')):=by
   rw[jjh,jfc,if_neg (fun h=>z n (List.mem_of_getElem? p) ⟨h.1,by omega⟩),(jei ns obs' nm new.length σ n L (by omega)).1 q.1 p,I];rfl
  cases x with
  |box v l0=>
   simp only[Obj'.ren,Obj'.regen,Option.some.injEq,Obj'.box.injEq]at e;obtain⟨rfl,rfl⟩:=e;rw[jmb]at u;obtain⟨y,G,k⟩:=Option.map_eq_some_iff.1 u;have t:y=.dat d:=by cases y<;>simp[AV.ren]at k;rw[k]
   subst t;exact⟨v,l0,_,d,H,j,by rw[jj3,J,jj3],G,by rw[jmb,K];rfl⟩
  |arr=>simp[Obj'.ren,Obj'.regen]at e
  |tab=>simp[Obj'.ren,Obj'.regen]at e
  |bld=>simp[Obj'.ren,Obj'.regen]at e
  |mp=>simp[Obj'.ren,Obj'.regen]at e
theorem jkb{nm:Nat}{env:List AV}{o:Oper}{av:AV}{δ:jbd}(a:(jb1 ty Γ ops σ env nm o).pre)(hR:(jb1 ty Γ ops σ env nm o).R av δ){n:Nat}(c:n∈jfs Γ σ (jau env) o)(m:¬Rng nm n):app δ σ n=σ n:=by
 have key:∀av δ,(spec ty Γ σ (jau env) nm o).pre->(spec ty Γ σ (jau env) nm o).R av δ->app δ σ n=σ n:=by
  intro av δ a hR;have hb:=(jtp c).2;unfold jfs at c;split at c
  ·rename_i f args at_ heq;split at c
   ·rename_i S hS;split at c
    ·rename_i k ns rd e;unfold joq at c;have hs:spec ty Γ σ (jau env) nm o=jbi ty Γ σ nm f (args.toList.map (jau env)) at_.toList:=by
      unfold spec;rw[heq];simp only[jau,List.append_nil]
     rw[hs]at a hR;exact jqm hS e a hR (List.mem_filter.1 c).1 hb m
    ·cases c
   ·cases c
  ·cases c
 have skip:∀av δ,jk3.R av δ->app δ σ n=σ n:=by
  intro av δ h;obtain⟨_,rfl⟩:=h;rfl
 unfold jb1 at a hR;cases i:o.guard with
 |none=>rw[i]at a hR;exact key _ _ a hR
 |some l=>
  obtain⟨j,g⟩:=l;rw[i]at a hR;simp only[]at a hR;cases hd:(ops[j]?).bind (·.dst)with
  |none=>rw[hd]at hR;exact hR.elim
  |some d=>
   rw[hd]at a hR;simp only[]at a hR;generalize env.getD d .und=v at a hR;split at hR
   ·exact skip _ _ hR
   ·rename_i b;cases g<;>cases b
    ·exact key _ _ a hR
    ·exact skip _ _ hR
    ·exact skip _ _ hR
    ·exact key _ _ a hR
   ·exact hR.elim
theorem jql{nm:Nat}{U:Nat->Prop}{env:List AV}{o:Oper}{av:AV}{δ:jbd}(hN:NBE U env σ)(hU:∀n,U n->¬Rng nm n)(a:(jb1 ty Γ ops σ env nm o).pre)(hR:(jb1 ty Γ ops σ env nm o).R av δ){n c:Nat}(hc:c<1000)(k:n*1000+c∈jiu Γ σ (jau env) o):jss σ (app δ σ) n c \/app δ σ=σ:=by
 have key:∀av δ,(spec ty Γ σ (jau env) nm o).pre->(spec ty Γ σ (jau env) nm o).R av δ->jss σ (app δ σ) n c:=by
  intro av δ a hR;unfold jiu at k;split at k
  ·rename_i f args at_ heq;split at k
   ·rename_i S hS;split at k
    ·rename_i p ns rd i;obtain⟨q,A,g⟩:=List.mem_filterMap.1 k;have hs:spec ty Γ σ (jau env) nm o=jbi ty Γ σ nm f (args.toList.map (jau env)) at_.toList:=by
      unfold spec;rw[heq];simp only[jau,List.append_nil]
     rw[hs]at a hR;split at g
     ·rename_i B r;cases hb:Nat.blt q.2 1000 with
      |false=>rw[hb]at g;cases g
      |true=>
       rw[hb]at g;have y:q.2<1000:=by simpa[Nat.blt_eq]using hb
       have e:=Option.some.inj g;obtain⟨rfl,t⟩:B=n/\ q.2=c:=by omega
       subst t;refine jop hS i a hR A r fun m z=>hU m (jeq hN o m ?_);have x:=jc5 S.lend _ p ns rd i m z;unfold jbt xset;have h0:ja6 (jau env) o=jan (args.toList.map (jau env)):=by
        unfold ja6;rw[heq];simp only[jd5,jau,AV.names,jan,List.append_nil]
       rw[heq,h0];exact x
     ·cases g
    ·cases k
   ·cases k
  ·cases k
 have skip:∀av δ,jk3.R av δ->app δ σ=σ:=by
  intro av δ h;obtain⟨_,rfl⟩:=h;rfl
 unfold jb1 at a hR;cases s:o.guard with
 |none=>rw[s]at a hR;exact .inl (key _ _ a hR)
 |some u=>
  obtain⟨j,l⟩:=u;rw[s]at a hR;simp only[]at a hR;cases hd:(ops[j]?).bind (·.dst)with
  |none=>rw[hd]at hR;exact hR.elim
  |some d=>
   rw[hd]at a hR;simp only[]at a hR;generalize env.getD d .und=v at a hR;split at hR
   ·exact .inr (skip _ _ hR)
   ·rename_i b;cases l<;>cases b
    ·exact .inl (key _ _ a hR)
    ·exact .inr (skip _ _ hR)
    ·exact .inr (skip _ _ hR)
    ·exact .inl (key _ _ a hR)
   ·exact hR.elim
theorem jqg{σ':Objs}{t:TypeId}{n i:Nat}{T:TyE}(k:ty t=some T)(h:∀d,d<(bif T.isAgg then T.size else 1)->jss σ σ' n (i+d))(h0:(bif T.isAgg then T.size else 1)=0->σ' n=σ n):jbe ty σ' t (.ref n i)=jbe ty σ t (.ref n i):=by
 by_cases r:(bif T.isAgg then T.size else 1)=0
 ·unfold jbe;simp only[k,h0 r]
 have hb:∃a l l',σ n=some (.box a l)/\ σ' n=some (.box a l')/\ l'.length=l.length:=by
  obtain⟨a,l,l',d,b,c,e,_⟩:=h 0 (by omega);exact⟨a,l,l',b,c,e⟩
 obtain⟨a,l,l',b,c,e⟩:=hb;have hc:∀d,d<(bif T.isAgg then T.size else 1)->l'[i+d]? =l[i+d]?:=fun d hd=>by
  obtain⟨s,m,u,x,f,g,_,o,p⟩:=h d hd;rw[b]at f;rw[c]at g;cases f;cases g;rw[o,p]
 unfold jbe;simp only[k,b,c,e];cases hA:T.isAgg with
 |true=>
  rw[hA]at hc;simp only[cond_true]at hc;have:(l'.drop i).take T.size=(l.drop i).take T.size:=by
   refine List.ext_getElem? fun j=>?_;rw[List.getElem?_take,List.getElem?_take];split
   ·rename_i q;rw[List.getElem?_drop,List.getElem?_drop,hc j q]
   ·rfl
  simp only[if_true,this]
 |false=>
  rw[hA]at hc;simp only[cond_false]at hc;have:=hc 0 (by omega);rw[Nat.add_zero]at this;simp only[Bool.false_eq_true,if_false,this]
theorem jpm{C:Objs}{i j:Nat}{g q:Oper}{env:List AV}{a:Array Bool}{c:Nat}(hi:ops[i]? =some g)(D:ops[j]? =some q)(k:i≠j)(t:jea ops i j=false/\ jea ops j i=false)
  (b:jiv ty Γ M ops i=true) (u:a.getD i false=false) (v:c=base+16*i) (hN:NBE (Ul base a) env σ) (z:OkM ty Γ ops M i g env σ) (f:OkM ty Γ ops M j q env C) {av:AV} {δ:jbd}
  (E:(jb1 ty Γ ops σ env c g).pre) (hR:(jb1 ty Γ ops σ env c g).R av δ)
  (H:Tame (Ul base a) c (fun n=>mutB ty Γ g=true/\ n∈jbt σ (jau env) g) av δ) {n:Nat} (o:n∈jbt C (jau env) q) (hU:Ul base a n) (y:ldK ty (jau env) M i q=false):app δ σ n=σ n:=by
 have l:¬Rng c n:=fun h=>by subst v;exact jdj u h hU
 by_cases B:n∈jfs Γ σ (jau env) g
 ·exact jkb E hR B l
 refine jly δ σ n fun p A heq=>?_;rcases H.key p A with G|⟨d,m⟩
 ·exact l (heq▸G)
 ·rw[heq]at m;have r:n∈M i:=(jj5 z d m).resolve_right fun h=>B h.1;have e:mutB ty Γ q=false:=by
   rw[Bool.eq_false_iff];intro e;rcases jj5 f e o with s|⟨_,x⟩
   ·unfold jiv at b;rw[hi]at b;simp only[Option.any_some,d,Bool.not_true,Bool.false_or]at b;have:=jks (Γ:=Γ) D e (jqc s r) (Ne.symm k) t.1;rw[this]at b;cases b
   ·exact x i g hi d k t.2 r
  unfold OkM at f;rw[e]at f;rcases f i g hi d k t.2 n o with h|h
  ·exact h r
  ·rw[y]at h;cases h
theorem jp1{σ':Objs}{i:Nat}{o:Oper}{env:List AV}(h:∀n∈ja6 (jau env) o,σ' n=σ n):OkM ty Γ ops M i o env σ'↔OkM ty Γ ops M i o env σ:=by
 unfold OkM;rw[jmc h,jmj h,jmk h]

theorem jqj{k:Nat}{o:Oper}{env:List AV}{b:Option Tmp}{v:AV}(h:∀d,b=some d->d∉o.looksAt ops):ldK ty (jau (putA env b v)) M k o=ldK ty (jau env) M k o:=by
 have c:=jdf (env:=env) (v:=v) h;unfold ldK;split
 ·rename_i t a heq;rw[c a (by rw[heq];simp[Op.operands])]
 ·rfl
theorem jtm{i:Nat}{o:Oper}{env:List AV}{a:Option Tmp}{v:AV}(h:∀d,a=some d->d∉o.looksAt ops)(b:OkM ty Γ ops M i o env σ):OkM ty Γ ops M i o (putA env a v) σ:=by
 unfold OkM at*
 simp only[jk8 h,jlf h,jlg h,jqj h];exact b

theorem jul{i j:Nat}{z c:Oper}{env:List AV}{f:Array Bool}{u nmj:Nat}(hi:ops[i]? =some z)(L:ops[j]? =some c)(x:i≠j)(K:jea ops i j=false/\ jea ops j i=false)
  (v:jiv ty Γ M ops i=true) (g:f.getD i false=false) (l:u=base+16*i) (hN:NBE (Ul base f) env σ) (r:OkM ty Γ ops M i z env σ) {av:AV} {δ:jbd} (hoj:OkM ty Γ ops M j c env (app δ σ) \/OkM ty Γ ops M j c env σ)
  (H:(jb1 ty Γ ops σ env u z).pre) (hR:(jb1 ty Γ ops σ env u z).R av δ)
  (I:Tame (Ul base f) u (fun n=>mutB ty Γ z=true/\ n∈jbt σ (jau env) z) av δ):(OkM ty Γ ops M j c env (app δ σ)↔OkM ty Γ ops M j c env σ)/\ jb1 ty Γ ops (app δ σ) env nmj c=jb1 ty Γ ops σ env nmj c:=by
 cases b:ldK ty (jau env) M i c with
 |false=>
  have s:OkM ty Γ ops M j c env (app δ σ)↔OkM ty Γ ops M j c env σ:=by
   refine jp1 fun n y=>?_;rcases hoj with hoj|hoj
   ·exact jpm hi L x K v g l hN r hoj H hR I (List.mem_append_left _ y) (jhi hN c n y) b
   ·exact jpm hi L x K v g l hN r hoj H hR I (List.mem_append_left _ y) (jhi hN c n y) b
  refine⟨s,jsd fun n y=>?_⟩;have D:OkM ty Γ ops M j c env σ:=hoj.elim s.1 id;exact jpm hi L x K v g l hN r D H hR I y (jeq hN c n y) b
 |true=>
  unfold ldK at b;split at b
  ·rename_i t a heq;split at b
   ·rename_i n k T A W;have O:mutB ty Γ c=false:=by unfold mutB;rw[heq]
    have E:∀σ,jbt σ (jau env) c=[n]:=fun σ=>by
     unfold jbt xset ja6;rw[heq];simp only[A,AV.names,List.append_nil]
    have s:OkM ty Γ ops M j c env (app δ σ)↔OkM ty Γ ops M j c env σ:=by
     unfold OkM;rw[O];simp only[cond_false,E]
    refine⟨s,?_⟩;have hs:spec ty Γ (app δ σ) (jau env) nmj c=spec ty Γ σ (jau env) nmj c:=by
     unfold spec;rw[heq];simp only[A];by_cases C:mutB ty Γ z=true
     ·have S:=r;unfold OkM at S;rw[C]at S;by_cases o:app δ σ=σ
      ·rw[o]
      rw[Bool.and_eq_true]at b;have Y:¬(bif T.isAgg then T.size else 1)=0:=fun h=>by rw[h]at b;exact absurd b.1 (by decide)
      refine jqg W (fun d hd=>?_) fun h=>absurd h Y;have G:=List.all_eq_true.1 b.2 d (List.mem_range.2 hd);cases hb:Nat.blt (k+d) 1000 with
      |false=>rw[hb]at G;cases G
      |true=>
       rw[hb]at G;obtain⟨q,U,V⟩:=List.any_eq_true.1 G;have e:=Nat.eq_of_beq_eq_true V;subst e;rcases jql hN (fun m N h=>by subst l;exact jdj g h N) H hR (by simpa[Nat.blt_eq]using hb) (S.2 _ U)with h|h
       ·exact h
       ·exact absurd h o
     ·have J:app δ σ n=σ n:=by
       refine jly δ σ n fun p Q B=>?_;rcases I.key p Q with X|⟨N,_⟩
       ·subst l;exact jdj g (B▸X) (jeq hN c n (by rw[E];exact List.mem_singleton.2 rfl))
       ·exact C N
      unfold jbe;simp only[J]
    unfold jb1;rw[hs]
   ·cases b
  ·cases b
end
end Go.Ab
