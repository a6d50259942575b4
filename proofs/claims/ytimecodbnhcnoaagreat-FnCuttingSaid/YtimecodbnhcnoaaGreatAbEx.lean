/- My own layer: a symbolic executor of operations, which the kernel runs; with hints where it cannot know. -/
import Derived.Test.YtimecodbnhcnoaaGreatAbPure
namespace Go.Ab
set_option linter.unusedVariables false
set_option linter.unusedSimpArgs false

structure X where
 A:List (Nat×AV)
 L:List (Nat×Option Obj')
 nx:Nat

def lkA:List (Nat×AV)->Nat->AV
 |[],_=>.unk
 |(k,v)::r,t=>bif Nat.beq t k then v else lkA r t
def obo:List (Nat×Option Obj')->Objs
 |[],_=>none
 |(k,x)::r,n=>bif Nat.beq n k then x else obo r n
def envX(n:Nat)(A:List (Nat×AV)):List AV:=(List.range n).map (lkA A)
def X.st(n:Nat)(x:X):St:=⟨envX n x.A,obo x.L,x.nx⟩

def evX(n:Nat)(A:List (Nat×AV)):Operand->AV
 | .tmp t=>bif Nat.blt t n then lkA A t else .und
 | .const v=>jcu v
 | .global _=>.unk
 | .func f=>.fn f []
def putX(A:List (Nat×AV))(d:Option Tmp)(v:AV):List (Nat×AV):=
 match d with
 |some d=>(d,v)::A
 |none=>A
def appX:jbd->List (Nat×Option Obj')->List (Nat×Option Obj')
 |[],L=>L
 |(o,x)::r,L=>appX r ((o,x)::L)

theorem jdg(n:Nat)(A:List (Nat×AV))(t:Nat):(envX n A).getD t .und=bif Nat.blt t n then lkA A t else .und:=by
 unfold envX;rw[List.getD_eq_getElem?_getD,List.getElem?_map];by_cases h:t<n
 ·have:Nat.blt t n=true:=by simpa[Nat.blt_eq]using h
  rw[List.getElem?_range h,this];rfl
 ·have:Nat.blt t n=false:=by
   cases hb:Nat.blt t n with
   |true=>exact absurd (by simpa[Nat.blt_eq]using hb) h
   |false=>rfl
  rw[List.getElem?_eq_none (by simpa using h),this];rfl
theorem jlw(n:Nat)(A:List (Nat×AV)):evX n A=jau (envX n A):=by
 funext x;cases x with
 |tmp t=>exact(jdg n A t).symm
 |const v=>rfl
 |global g=>rfl
 |func f=>rfl
theorem jni(d:Nat)(v:AV)(A:List (Nat×AV))(t:Nat):lkA ((d,v)::A) t=if t=d then v else lkA A t:=by
 show(bif Nat.beq t d then v else lkA A t)=_;by_cases h:t=d
 ·subst h;simp
 ·have:Nat.beq t d=false:=by
   cases hb:Nat.beq t d with
   |true=>exact absurd (Nat.eq_of_beq_eq_true hb) h
   |false=>rfl
  rw[this,if_neg h];rfl
theorem jd1(n:Nat)(A:List (Nat×AV))(d:Option Tmp)(v:AV):putA (envX n A) d v=envX n (putX A d v):=by
 cases d with
 |none=>rfl
 |some d=>
  simp only[putA,putX];unfold envX;apply List.ext_getElem?;intro t;rw[List.getElem?_map];by_cases h:t<n
  ·rw[List.getElem?_range h,List.getElem?_set,List.length_map,List.length_range,List.getElem?_map,List.getElem?_range h];simp only[Option.map_some,jni];by_cases hd:d=t
   ·subst hd;simp[h]
   ·rw[if_neg hd,if_neg (Ne.symm hd)]
  ·have a:n<=t:=by omega
   rw[List.getElem?_eq_none (by simpa using a),List.getElem?_eq_none (by simpa using a)];rfl
theorem jko:∀(δ:jbd)(L:List (Nat×Option Obj')),app δ (obo L)=obo (appX δ L)
 |[],L=>rfl
 |(o,x)::r,L=>by
  have:upd (obo L) o x=obo ((o,x)::L):=rfl;unfold app appX;rw[this];exact jko r _

inductive AllP:List Prop->Prop where
 |nil:AllP []
 |cons {p:Prop} {r:List Prop}:p->AllP r->AllP (p::r)
theorem AllP.app:∀{l r:List Prop},AllP (l++r)->AllP l/\ AllP r
 |[],r,h=>⟨.nil,h⟩
 |p::l,r,h=>by
  cases h with
  |cons c d=>
   obtain⟨a,b⟩:=AllP.app (l:=l) d;exact⟨.cons c a,b⟩

inductive Md where
 |k
 |z (es:Nat)
 |o (n:Nat)
 |bd (E:TypeId)
 |t (mask:List (Option TypeId))
 |f

inductive Loc where
 |s (t:Nat)
 |c (b i:Nat)

inductive H where
 |n (m:Int)
 |b (t:Bool)
 |s (x:ByteArray)
 |l (x:List D)
 |d (x:D)
 |sd (x:D) (l:List D)
 |dn (x:D) (m:Int)
 |d2 (x y:D)
 |sd2 (x y:D) (r l:List D)
 |c (r:AV) (new ob:List Obj')
 |cf (r:AV) (new ob:List Obj')
 |fz (os:List Nat) (ms:List (Nat×List Md)) (rs:List (Nat×List Md))
 |st (lc:Loc) (x:D)
 |cv (x:D) (r:AV) (new ob:List Obj')
 |mg (x:D) (b:Bool)
 |mp (l:List ((Int×Int)×D))

def norm(h:Option H)(av:AV)(δ:jbd):Option (List Prop×AV×jbd):=
 match h with
 |none=>some ([],av,δ)
 |some (.n m)=>match av with
  | .dat (.sc (.int k r))=>some ([r=m],.dat (.sc (.int k m)),δ)
  |_=>none
 |some (.b t)=>match av with
  | .dat (.sc (.bool r))=>some ([r=t],.dat (.sc (.bool t)),δ)
  |_=>none
 |some (.s x)=>match av with
  | .dat (.sc (.string r))=>some ([r=x],.dat (.sc (.string x)),δ)
  |_=>none
 |some (.l x)=>match av with
  | .dat (.sl es r)=>some ([r=x],.dat (.sl es x),δ)
  | .own o=>match δ with
   |[(a,some (.arr e es r))]=>some ([r=x],.own o,[(a,some (.arr e es x))])
   |[(a,some (.tab e es m r g hole))]=>some ([r=x],.own o,[(a,some (.tab e es m x g hole))])
   |[p,(a,some (.arr e es r))]=>some ([r=x],.own o,[p,(a,some (.arr e es x))])
   |[p,(a,some (.tab e es m r g hole))]=>some ([r=x],.own o,[p,(a,some (.tab e es m x g hole))])
   |[p,q,(a,some (.tab e es m r g hole))]=>some ([r=x],.own o,[p,q,(a,some (.tab e es m x g hole))])
   |_=>none
  |_=>none
 |some (.mg x q)=>match av with
  | .tup [.dat r,.dat (.sc (.bool b))]=>some ([r=x,b=q],.tup [.dat x,.dat (.sc (.bool q))],δ)
  |_=>none
 |some (.mp x)=>match δ with
  |[(a,some (.mp t r))]=>some ([r=x],av,[(a,some (.mp t x))])
  |_=>none
 |_=>none

theorem jmg{h:Option H}{av:AV}{δ:jbd}{ps:List Prop}{d:AV}{f:jbd}(a:norm h av δ=some (ps,d,f))(c:AllP ps):d=av/\ f=δ:=by
 unfold norm at a;split at a
 ·cases a;exact⟨rfl,rfl⟩
 ·split at a
  ·cases a;cases c with|cons b _=>subst b;exact⟨rfl,rfl⟩
  ·cases a
 ·split at a
  ·cases a;cases c with|cons b _=>subst b;exact⟨rfl,rfl⟩
  ·cases a
 ·split at a
  ·cases a;cases c with|cons b _=>subst b;exact⟨rfl,rfl⟩
  ·cases a
 ·split at a
  ·cases a;cases c with|cons b _=>subst b;exact⟨rfl,rfl⟩
  ·split at a
   ·cases a;cases c with|cons b _=>subst b;exact⟨rfl,rfl⟩
   ·cases a;cases c with|cons b _=>subst b;exact⟨rfl,rfl⟩
   ·cases a;cases c with|cons b _=>subst b;exact⟨rfl,rfl⟩
   ·cases a;cases c with|cons b _=>subst b;exact⟨rfl,rfl⟩
   ·cases a;cases c with|cons b _=>subst b;exact⟨rfl,rfl⟩
   ·cases a
  ·cases a
 ·split at a
  ·cases a;cases c with|cons b c=>cases c with|cons g _=>subst b;subst g;exact⟨rfl,rfl⟩
  ·cases a
 ·split at a
  ·cases a;cases c with|cons b _=>subst b;exact⟨rfl,rfl⟩
  ·cases a
 ·cases a

def jd9(S:FnSpec)(ds:List D)(obs:List Obj')(r:AV)(new ob:List Obj'):Prop:=
 S.pre ds obs/\ ∀c a b,S.post ds obs c a b->c=r/\ a=new/\ b=ob

mutual
def nbB(m:Nat):AV->Bool
 | .own o| .ref o _| .eref o _ _ _=>Nat.blt o m
 | .row o g _ _| .rref o g _ _ _ _ _| .vw o g _ _ _ _ _=>Nat.blt o m&&Nat.blt g m
 | .aggv l| .tup l| .fn _ l=>nbsB m l
 |_=>true
def nbsB(m:Nat):List AV->Bool
 |[]=>true
 |x::l=>nbB m x&&nbsB m l
end
mutual
theorem jp8{m:Nat}:∀{x:AV},nbB m x=true->NB (· <m) x
 | .dat _,h=>by unfold NB;trivial
 | .own o,h=>by unfold nbB at h;unfold NB;simpa[Nat.blt_eq]using h
 | .ref o _,h=>by unfold nbB at h;unfold NB;simpa[Nat.blt_eq]using h
 | .eref o _ _ _,h=>by unfold nbB at h;unfold NB;simpa[Nat.blt_eq]using h
 | .row o g _ _,h=>by unfold nbB at h;unfold NB;simpa[Nat.blt_eq]using h
 | .rref o g _ _ _ _ _,h=>by unfold nbB at h;unfold NB;simpa[Nat.blt_eq]using h
 | .vw o g _ _ _ _ _,h=>by unfold nbB at h;unfold NB;simpa[Nat.blt_eq]using h
 | .fp _,h=>by unfold NB;trivial
 | .aggv l,h=>by unfold nbB at h;unfold NB;exact jhm h
 | .tup l,h=>by unfold nbB at h;unfold NB;exact jhm h
 | .fn _ l,h=>by unfold nbB at h;unfold NB;exact jhm h
 | .und,h=>by unfold NB;trivial
 | .unk,h=>by unfold NB;trivial
theorem jhm{m:Nat}:∀{l:List AV},nbsB m l=true->NBs (· <m) l
 |[],_=>by unfold NBs;trivial
 |x::l,h=>by
  unfold nbsB at h;unfold NBs;simp only[Bool.and_eq_true]at h;exact⟨jp8 h.1,jhm h.2⟩
end
def nlB(L:Nat):Obj'->Bool
 | .box _ l=>nbsB L l
 |_=>true
theorem jgf{L:Nat}{x:Obj'}(h:nlB L x=true):NBl L x:=by
 cases x with
 |box T l=>exact jhm h
 |_=>trivial
def jvd:D->Bool
 | .sc _=>true
 |_=>false
def js0:D->Bool
 | .sc _=>true
 | .agg l=>l.all jvd
 | .sl _ _=>false
theorem jde{d:D}(h:js0 d=true):jf3 d:=by
 cases d with
 |sc v=>trivial
 |sl es l=>cases h
 |agg l=>
  intro d hd;have:=List.all_eq_true.1 h d hd;cases d with
  |sc v=>exact⟨v,rfl⟩
  |_=>cases this
def jnq:AV->Bool
 | .dat d=>js0 d
 | .own _=>true
 |_=>false
def jqz:AV->Bool
 | .aggv l=>l.all jnq
 |x=>jnq x
def jqv:AV->Bool
 | .tup l=>l.all jqz
 |x=>jqz x
theorem jh2{x:AV}(h:jnq x=true):jo0 x:=by
 cases x with
 |dat d=>exact jde h
 |own o=>trivial
 |_=>cases h
theorem jqy{x:AV}(h:jqz x=true):jrt x:=by
 cases x with
 |aggv l=>exact fun x a=>jh2 (List.all_eq_true.1 h x a)
 |dat d=>exact jde h
 |own o=>trivial
 |_=>cases h
theorem jlo{x:AV}(h:jqv x=true):jn9 x:=by
 cases x with
 |tup l=>exact fun x a=>jqy (List.all_eq_true.1 h x a)
 |aggv l=>exact fun x a=>jh2 (List.all_eq_true.1 h x a)
 |dat d=>exact jde h
 |own o=>trivial
 |_=>cases h
def jqx:Obj'->Bool
 | .box _ l=>l.all jnq
 | .mp _ _=>true
 |_=>false
theorem jlq{x:Obj'}(h:jqx x=true):jcn x:=by
 cases x with
 |box T l=>exact fun x a=>jh2 (List.all_eq_true.1 h x a)
 |arr e es l=>cases h
 |mp t l=>trivial
 |bld T E l g=>cases h
 |tab e es mask l g hole=>cases h
def jm2(new ob:List Obj'):Prop:=(∀x∈new,jcn x)/\ ∀x∈ob,jcn x
def memB(n:Nat):List Nat->Bool
 |[]=>false
 |k::l=>Nat.beq n k||memB n l
theorem je3{n:Nat}:∀{l:List Nat},memB n l=false->n∉l
 |[],_=>by simp
 |k::l,h=>by
  unfold memB at h;simp only[Bool.or_eq_false_iff]at h;intro hm;rcases List.mem_cons.1 hm with rfl|hm
  ·simp at h
  ·exact je3 h.2 hm
theorem jle{n:Nat}:∀{l:List Nat},memB n l=true->n∈l
 |[],h=>by cases h
 |k::l,h=>by
  unfold memB at h;simp only[Bool.or_eq_true]at h;rcases h with h|h
  ·have:=Nat.eq_of_beq_eq_true h;subst this;exact List.mem_cons_self ..
  ·exact List.mem_cons_of_mem _ (jle h)
def jef:List Nat->Bool
 |[]=>true
 |k::l=> !memB k l&&jef l
theorem jbn:∀{l:List Nat},jef l=true->l.Nodup
 |[],_=>List.nodup_nil
 |k::l,h=>by
  unfold jef at h;simp only[Bool.and_eq_true,Bool.not_eq_true']at h;exact List.nodup_cons.2 ⟨je3 h.1,jbn h.2⟩
def ji9{α:Type}:List α->Bool
 |[]=>true
 |_=>false

def jjj(e:Operand->AV)(o:Oper):Bool:=
 match o.op with
 | .buildSlice _ _ b=>ji9 (jan (b.toList.map fun p=>e p.2))
 | .makeMap _ _| .lookup _ _ _ _| .mapUpdate _ _ _ _=>true
 | .move _| .assign _| .alloc _| .box _ _| .nilCheck _| .extract _ _| .field _ _ _| .build _ _| .unOp _ _ _| .makeFunc _ _ _=>true
 | .convert _ _ x=>(jbj (e x)).isSome
 | .load _ a=>match e a with
  | .ref _ _=>true
  |_=>false
 | .store _ a _=>match e a with
  | .ref _ _=>true
  |_=>false
 | .fieldAddr _ a _=>match e a with
  | .ref _ _| .eref _ _ _ _| .rref _ _ _ _ _ _ _=>true
  |_=>false
 | .binOp c _ x _ _=>match c with
  | .quo| .rem| .shl| .shr=>false
  | .add=>(jht (e x)).isNone
  |_=>true
 | .call {callee:=.builtin .len,args,..}=>match args.toList with
  |[x]=>match e x with
   | .row _ _ _ _=>false
   |_=>true
  |_=>true
 | .call {callee:=.builtin .max,..}| .call {callee:=.builtin .min,..}=>true
 |_=>false

section
variable{ty:TypeId->Option TyE}{Γ:Nat->Option FnSpec}{σ:Objs}{e:Operand->AV}{nm:Nat}

theorem jfb{b:Bool}{p:Prop}{rd:List Nat}{av:AV}{δ:jbd}(h:jcv b=.det p rd av δ):p:=by
 unfold jcv at h;cases h;trivial
theorem jqo{k:IntKind}{b:Int}{p:Prop}{rd:List Nat}{av:AV}{δ:jbd}(h:jli k b=.det p rd av δ):p:=by
 unfold jli at h;cases h;trivial
theorem jp5{a:Bool}{x:AV}{p:Prop}{rd:List Nat}{av:AV}{δ:jbd}(h:jis a x=.det p rd av δ):p:=by
 unfold jis at h;split at h<;>first|(cases h;trivial)|cases h
theorem jua{a:BinOp}{t:TypeId}{x y:AV}{p:Prop}{rd:List Nat}{av:AV}{δ:jbd}(h:jmy ty a t x y=.det p rd av δ):p:=by
 unfold jmy at h;split at h
 ·split at h
  ·split at h
   ·split at h
    ·exact jfb h
    ·exact jfb h
    ·cases h
   ·cases h
  ·cases h
 ·cases h
theorem jp4{a:BinOp}{t:TypeId}{x y:AV}{p:Prop}{rd:List Nat}{av:AV}{δ:jbd}(h:jhl ty a t x y=.det p rd av δ):p:=by
 unfold jhl at h;split at h
 ·split at h
  ·exact jp5 h
  ·exact jp5 h
  ·cases h
 ·split at h<;>first|exact jfb h|cases h
 ·exact jua h

theorem jqn{a:AV}(h:(jbj a).isSome=true):jht a=none:=by
 unfold jbj at h;split at h
 ·rfl
 ·cases h
theorem jr9{x:AV}{es:Nat}(h:(jbj x).isSome=true):slOf σ es x=none:=by
 unfold jbj at h;split at h
 ·rfl
 ·cases h
theorem jst{o:Oper}(g:jjj e o=true){p:Prop}{rd:List Nat}{av:AV}{δ:jbd}(h:spec ty Γ σ e nm o=.det p rd av δ):p:=by
 obtain⟨H,F,G,pos,q,w⟩:=o;unfold jjj at g;cases F
 case move x=>unfold spec at h;cases h;trivial
 case assign x=>unfold spec at h;cases h;trivial
 case alloc t=>
  unfold spec at h;simp only[]at h;repeat' (split at h)
  all_goals first|(cases h;trivial)|cases h
 case box t x=>
  unfold spec at h;simp only[]at h;repeat' (split at h)
  all_goals first|(cases h;trivial)|cases h
 case makeFunc fn first caps=>
  cases fn<;>(unfold spec at h;simp only[]at h;repeat' (split at h))<;>first|(cases h;trivial)|cases h
 case makeMap t r=>
  cases r with
  |none=>
   unfold spec at h;simp only[jdc]at h;split at h<;>first|(cases h;trivial)|cases h
  |some r=>unfold spec at h;cases h
 case lookup t x i ok=>
  cases ok with
  |true=>
   unfold spec at h;simp only[jc4]at h;repeat' (split at h)
   all_goals first|(cases h;trivial)|cases h
  |false=>unfold spec at h;cases h
 case mapUpdate t x i v=>
  unfold spec at h;simp only[jc3]at h;repeat' (split at h)
  all_goals first|(cases h;trivial)|cases h
 case nilCheck x=>
  unfold spec at h;simp only[]at h;repeat' (split at h)
  all_goals first|(cases h;trivial)|cases h
 case extract x i=>
  unfold spec at h;simp only[]at h;repeat' (split at h)
  all_goals first|(cases h;trivial)|cases h
 case field s x f=>
  unfold spec at h;simp only[jlv]at h;repeat' (split at h)
  all_goals first|(cases h;trivial)|cases h
 case build t ps=>
  unfold spec at h;simp only[jeh]at h;repeat' (split at h)
  all_goals first|(cases h;trivial)|cases h
 case buildSlice t l ps=>
  unfold spec at h;simp only[jbg]at h;simp only[]at g;split at h
  ·split at h
   ·split at h
    ·cases h;trivial
    ·split at h
     ·split at h
      ·rename_i ds ns z;have E:=jdq z;rw[List.map_map]at E;have n:jan (ps.toList.map fun p=>e p.2)=[]:=by
        cases J:jan (ps.toList.map fun p=>e p.2)with
        |nil=>rfl
        |cons a l=>rw[J]at g;cases g
       have B:ns.Nodup:=by
        cases ns with
        |nil=>exact List.nodup_nil
        |cons a l=>
         have:=E a (List.mem_cons_self ..);have j:a∈jan (ps.toList.map fun p=>e p.2):=this;rw[n]at j;cases j
       cases h;exact B
      ·cases h
     ·cases h
   ·cases h
  ·cases h
 case convert s d x=>
  unfold spec at h;simp only[]at h;simp only[]at g;split at h
  ·cases h;trivial
  ·unfold jeu at h;rw[jr9 g]at h;split at h
   ·rename_i C;cases C
   ·rw[jqn g]at h;cases h
   ·cases h
 case unOp u t x=>
  cases u<;>(unfold spec at h;simp only[]at h)
  all_goals first
   |(split at h;(first|exact jfb h|exact jqo h);cases h)
   |cases h
 case load t a=>
  unfold spec at h;simp only[jbe]at h g;cases m:e a<;>simp only[m]at h g
  all_goals first|(cases g;done)|skip
  repeat' (split at h)
  all_goals first|(cases h;trivial)|cases h
 case store t a x=>
  unfold spec at h;simp only[jb2]at h g;cases m:e a<;>simp only[m]at h g
  all_goals first|(cases g;done)|skip
  repeat' (split at h)
  all_goals first|(cases h;trivial)|cases h
 case fieldAddr t a f=>
  unfold spec at h;simp only[jdw]at h g;cases m:e a<;>simp only[m]at h g
  all_goals first|(cases g;done)|skip
  all_goals repeat' (split at h)
  all_goals first|(cases h;trivial)|cases h
 case binOp F t x y u=>
  unfold spec at h;simp only[jge]at h g;split at h
  ·rename_i k a k' b D I;split at h
   ·simp at g
   ·simp at g
   ·split at h
    ·split at h;all_goals first|exact jfb h|exact jqo h|(simp at g;done)|(cases h;trivial)|cases h
    ·cases h
  ·split at h
   ·rename_i a b D I;split at h;all_goals first|exact jfb h|(simp[D]at g;done)|(cases h;trivial)|cases h
   ·split at h
    ·split at h;all_goals first|exact jfb h|cases h
    ·exact jp4 h
 case call c=>
  obtain⟨callee,args,K⟩:=c;cases callee with
  |value f=>simp at g
  |invoke a b=>simp at g
  |builtin b=>
   cases b
   case len=>
    unfold spec at h;simp only[]at h;split at h
    ·rename_i x t m _;simp only[m]at g;unfold je4 at h;split at h
     ·split at h
      ·cases h;trivial
      ·cases h
     ·split at h
      ·cases h;trivial
      ·cases h;trivial
      ·split at h
       ·cases h;trivial
       ·cases h;trivial
       ·cases h
      ·rename_i A;rw[A]at g;cases g
      ·cases h;trivial
      ·cases h
     ·cases h
    ·cases h
   case max=>
    unfold spec at h;simp only[]at h;repeat' (split at h)
    all_goals first|(cases h;trivial)|cases h
   case min=>
    unfold spec at h;simp only[]at h;repeat' (split at h)
    all_goals first|(cases h;trivial)|cases h
   all_goals (simp at g)
 all_goals (simp at g)
end
end Go.Ab
