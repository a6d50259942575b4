/- My own layer: what printed walks use: leaves, outcomes, side conditions; encodings of plain types. -/
import Derived.Test.YtimecodbnhcnoaaGreatAbEx4
import Derived.KernelRfl
namespace Go.Ab
set_option linter.unusedVariables false
set_option linter.unusedSimpArgs false

class Enc (α:Type) where
 sz:Nat
 e:α->D
 inj:∀a b,e a=e b->a=b
structure IK(k:IntKind) where
 v:Int
instance encInt:Enc Int:=⟨1,fun n=>.sc (.int .i64 n),fun a b h=>by simpa using h⟩
instance encU8:Enc UInt8:=⟨1,fun n=>.sc (.int .u8 (n.toNat:Int)),fun a b h=>by
 simp only[D.sc.injEq,Value.int.injEq,true_and]at h;exact UInt8.toNat.inj (by omega)⟩
instance encIK(k:IntKind):Enc (IK k):=⟨1,fun n=>.sc (.int k n.v),fun a b h=>by
 cases a;cases b;simpa using h⟩
instance encBool:Enc Bool:=⟨1,fun n=>.sc (.bool n),fun a b h=>by simpa using h⟩
instance encStr:Enc ByteArray:=⟨1,fun n=>.sc (.string n),fun a b h=>by simpa using h⟩
instance encList{α:Type}[Enc α]:Enc (List α):=⟨1,fun l=>.sl (Enc.sz α) (l.map Enc.e),fun a b h=>by
 simp only[D.sl.injEq,true_and]at h;exact(List.map_inj_right (fun x y=>Enc.inj x y)).1 h⟩

class FlatEnc (α:Type) [Enc α]:Prop where
 flat:∀x:α,jf3 (Enc.e x)
instance:FlatEnc Int:=⟨fun _=>trivial⟩
instance:FlatEnc UInt8:=⟨fun _=>trivial⟩
instance{k:IntKind}:FlatEnc (IK k):=⟨fun _=>trivial⟩
instance:FlatEnc Bool:=⟨fun _=>trivial⟩
instance:FlatEnc ByteArray:=⟨fun _=>trivial⟩
theorem jno{α:Type}[Enc α][FlatEnc α]{e:TypeId}{es:Nat}{l:List α}:jcn (.arr e es (l.map Enc.e)):=by
 intro d hd;obtain⟨x,_,rfl⟩:=List.mem_map.1 hd;exact FlatEnc.flat x
theorem jg0:∀x∈([]:List Obj'),jcn x:=by simp
theorem jh1{x:Obj'}{l:List Obj'}(h:jcn x)(a:∀x∈l,jcn x):∀y∈x::l,jcn y:=by
 intro y hy;rcases List.mem_cons.1 hy with rfl|hy
 ·exact h
 ·exact a y hy

def obL(l:List Obj')(k:Nat):List D:=match l.getD k (.box 0 [])with
 | .arr _ _ l=>l
 | .tab _ _ _ l _ _=>l
 | .box _ _=>[]
 | .bld _ _ _ _=>[]
 | .mp _ l=>l.map fun p=>.agg [.agg [.sc (.int .i64 p.1.1),.sc (.int .i64 p.1.2)],p.2]
def datD:AV->D
 | .dat d=>d
 |_=>.sc undef
def obD(l:List Obj')(k:Nat):List D:=match l.getD k (.box 0 [])with
 | .box _ l=>l.map datD
 |_=>[]
def obC(l:List Obj')(k c:Nat):D:=match l.getD k (.box 0 [])with
 | .box _ cs=>match cs.getD c .und with
  | .dat d=>d
  |_=>.sc undef
 |_=>.sc undef
theorem jbc{α:Type}{a b:α}{l l':List α}(h:a=b)(c:l=l'):a::l=b::l':=by rw[h,c]

def w64(x:Int):Int:=IntKind.i64.wrap x
theorem jak{x:Int}(h: -9223372036854775808<=x/\ x<=9223372036854775807):w64 x=x:=js4 h
def str(l:List UInt8):ByteArray:=⟨l.toArray⟩
def flb{R V:Type}(m:Option (Fl R V))(k:V->Option R):Option R:=m.bind fun v=>match v with
 | .ret r=>some r
 | .go u=>k u
theorem jus{R V:Type}{m:Option (Fl R V)}{k:V->Option R}{y:R}(h:flb m k=some y):∃v,m=some v/\ (∀r,v=.ret r->r=y)/\ ∀u,v=.go u->k u=some y:=by
 obtain⟨v,b,a⟩:=jaf h;refine⟨v,b,?_,?_⟩
 ·rintro r rfl;exact Option.some.inj a
 ·rintro u rfl;exact a
section
variable{Q:Exit->St->Prop}{J:St->Prop}{s:St}{id i:Nat}
theorem thN(h:J s):Then J Q .normal s:=h
theorem thR(h:Q .ret s):Then J Q .ret s:=h
theorem thE(h:Q (.exit i) s):Then J Q (.exit i) s:=h
theorem ibN(h:Q .normal s):jd7 id Q .normal s:=h
theorem ibR(h:Q .ret s):jd7 id Q .ret s:=h
theorem ibE(h:Q .normal s):jd7 id Q (.exit id) s:=by unfold jd7;simpa using h
theorem ibX(hi:Nat.beq i id=false)(h:Q (.exit i) s):jd7 id Q (.exit i) s:=by
 unfold jd7;have:i≠id:=fun e=>by subst e;simp at hi
 simp only[if_neg this];exact h
end
section
variable{P:Program}{cx:Cx}{Q:Exit->St->Prop}{n k:Nat}{x x':X}
def insX(p:Nat×Option Obj'):List (Nat×Option Obj')->List (Nat×Option Obj')
 |[]=>[p]
 |q::l=>bif Nat.ble p.1 q.1 then p::q::l else q::insX p l
def jim(x:X):X:=⟨x.A,x.L.foldr insX [],x.nx⟩
theorem jp3{p:Nat×Option Obj'}:∀{l:List (Nat×Option Obj')},obo (insX p l)=obo (p::l)
 |[]=>rfl
 |q::l=>by
  unfold insX;cases h:Nat.ble p.1 q.1 with
  |true=>rfl
  |false=>
   funext t;show obo (q::insX p l) t=_;have c:p.1≠q.1:=fun e=>by rw[e,Nat.ble_self_eq_true]at h;cases h
   obtain⟨a,x⟩:=p;obtain⟨b,y⟩:=q;simp only at c;have j:=congrFun (jp3 (p:=(a,x)) (l:=l)) t;show(bif Nat.beq t b then y else obo (insX (a,x) l) t)=(bif Nat.beq t a then x else bif Nat.beq t b then y else obo l t);rw[j];show(bif Nat.beq t b then y else bif Nat.beq t a then x else obo l t)=_;cases f:Nat.beq t b with
   |false=>rfl
   |true=>
    have d:=Nat.eq_of_beq_eq_true f;cases g:Nat.beq t a with
    |false=>rfl
    |true=>exact absurd ((Nat.eq_of_beq_eq_true g).symm.trans d) c
theorem jne:∀{l:List (Nat×Option Obj')},obo (l.foldr insX [])=obo l
 |[]=>rfl
 |(a,x)::l=>by
  rw[List.foldr_cons,jp3];funext t;show(bif Nat.beq t a then x else obo (l.foldr insX []) t)=(bif Nat.beq t a then x else obo l t);rw[jne]
theorem jrz(x:X)(n:Nat):(jim x).st n=x.st n:=by
 unfold X.st jim;simp only[jne]
theorem Wk_J(a:cx.L=k)(p:WP)(h:(jgm n k p x,jim (wkX n k p x))=(true,x')):Wk cx (x.st n) (x'.st n):=by
 simp only[Prod.mk.injEq]at h;rw[<-h.2,jrz];exact Wk_X a p h.1
theorem Wk_S(lc:Loc)(a:D){ps:List Prop}(b:AllP ps)(h:rP (jiy n lc a x)=some ps):Wk cx (x.st n) ((rX (jiy n lc a x)).st n):=by
 cases hs:jiy n lc a x with
 |none=>rw[hs]at h;cases h
 |some r=>
  obtain⟨c,x'⟩:=r;rw[hs]at h;cases h;exact ju9 lc a hs b
theorem ju4{V:Type}(S:V->X)(v:V){st:St}{c:Code}(a:Ok P cx c (Then (fun s=>Wk cx s ((S v).st n)) Q) st)(b:∀s,Wk cx s ((S v).st n)->Q .normal s):Ok P cx c Q st:=by
 refine Ok.mono a ?_;intro e s h;cases e with
 |normal=>exact b s h
 |_=>exact h
theorem juc{R V:Type}(S:V->X)(v:Fl R V){st:St}{c:Code}(a:Ok P cx c (Then (fun s=>∃u,v=.go u/\ Wk cx s ((S u).st n)) Q) st)(b:∀u,v=.go u->∀s,Wk cx s ((S u).st n)->Q .normal s):Ok P cx c Q st:=by
 refine Ok.mono a ?_;intro e s h;cases e with
 |normal=>
  obtain⟨u,d,f⟩:=h;exact b u d s f
 |_=>exact h
end
theorem ju0{α β:Type}{f:α->D}{g:β->D}{l:List α}{r:List β}{b:Nat}(h:l.length+r.length<=4294967296)(hb:Nat.ble b 32768=true):(((l.map f).length+(r.map g).length:Nat):Int)<=140737488355328/\ (((l.map f).length+(r.map g).length:Nat):Int)*(b:Int)<=140737488355328:=by
 have a:=Nat.le_of_ble_eq_true hb;rw[List.length_map,List.length_map];refine⟨by omega,?_⟩;have c:((l.length+r.length)*b)<=4294967296*32768:=Nat.mul_le_mul h a;rw[<-Int.natCast_mul];generalize(l.length+r.length)*b=m at c;omega
theorem mk_p{n:Int}{b:Nat}(h:0<=n/\ n<=4294967296)(hb:Nat.ble b 32768=true):0<=n/\ n=n/\ n<=140737488355328/\ n*(b:Int)<=140737488355328:=by
 have a:=Nat.le_of_ble_eq_true hb;refine⟨h.1,rfl,by omega,?_⟩;have:n*(b:Int)<=4294967296*32768:=Int.mul_le_mul h.2 (by omega) (by omega) (by omega);omega
theorem jvf{α:Type}{f:α->D}{l:List α}{lo hi:Int}(h:0<=lo/\ lo<=hi/\ hi<=l.length):0<=lo/\ lo<=hi/\ hi<=((l.map f).length:Int):=by rw[List.length_map];exact h
theorem jve{α:Type}{f:α->D}{l:List α}{lo:Int}(h:0<=lo/\ lo<=l.length):0<=lo/\ lo<=((l.map f).length:Int):=by rw[List.length_map];exact h
theorem jra{a b:ByteArray}(h:a.size+b.size<=4294967296):((a.size+b.size:Nat):Int)<=9223372036854775807:=by omega
theorem qI{α:Type}[Enc α]{a b:α}{l l':List D}(i:Nat)(h:l=l')(c:List.getD l i (.sc undef)=Enc.e a:=by rfl)(d:List.getD l' i (.sc undef)=Enc.e b:=by rfl):a=b:=Enc.inj _ _ (c.symm.trans ((congrArg (fun l=>List.getD l i (.sc undef)) h).trans d))
end Go.Ab
