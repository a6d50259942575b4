/- My own layer: the rules of the walks in few words. -/
import Derived.Test.YtimecodbnhcnoaaGreatAbC0
namespace Go.Ab
set_option linter.unusedVariables false
set_option linter.unusedSimpArgs false
section
variable{α β:Type}
theorem fmN{P:Program}{J:Inv}{ty:TypeId->Option TyE}(T:TT P ty)(N:Nat)(M:MS α β)(l:List (FO P J)){f:Nat}{fn:Func}{c:Code}(hc:∀args w,(callFunc f args).run P w=.ok (.enter f args) w)(i:P.funcs[f]? =some fn)(hb:fn.body=some c)
  {rs:Array ResultVar} (b:fn.results=rs) {n:Nat} (q:fn.ntmps=n)
  (h:∀x y cx,GG P ty cx M.p.nl l->M.m x=some y->Ok P cx c (Fin ty rs.toList M.p.nl (fun r new e=>r=M.r y/\ new=M.n y/\ e=M.o x y)) ((⟨hdX 0 (ja1 M.p.lend (M.p.d x) 0),jit 0 (M.p.o x),N⟩:X).st n))
  (hN:(Nat.ble (Pt.ns M.p.lend) N&&Nat.ble M.p.lend.length n&&Nat.ble M.p.no N)=true:=by kernel_rfl):FnOK P J f M.S:=by
 simp only[Bool.and_eq_true]at hN;have g:=Nat.le_of_ble_eq_true hN.2;refine jse T.ty hc i hb rs.toList (by rw[b]) n q N (by simp only[Bool.and_eq_true];exact hN.1) M.p.nl (fun x=>by rw[M.p.lo];exact⟨g,Nat.le_of_ble_eq_true M.p.le⟩) ?_;intro x y cx j hL hJ;exact h x y cx ⟨T,hL,hJ⟩ j
theorem fm{P:Program}{J:Inv}{ty:TypeId->Option TyE}(T:TT P ty)(M:MS α β)(l:List (FO P J)){f:Nat}{fn:Func}{c:Code}(hc:∀args w,(callFunc f args).run P w=.ok (.enter f args) w)(g:P.funcs[f]? =some fn)(hb:fn.body=some c)
  {rs:Array ResultVar} (b:fn.results=rs) {n:Nat} (i:fn.ntmps=n)
  (h:∀x y cx,GG P ty cx M.p.nl l->M.m x=some y->Ok P cx c (Fin ty rs.toList M.p.nl (fun r new e=>r=M.r y/\ new=M.n y/\ e=M.o x y)) ((⟨hdX 0 (ja1 M.p.lend (M.p.d x) 0),jit 0 (M.p.o x),16⟩:X).st n))
  (hN:(Nat.ble (Pt.ns M.p.lend) 16&&Nat.ble M.p.lend.length n&&Nat.ble M.p.no 16)=true:=by kernel_rfl):FnOK P J f M.S:=fmN T 16 M l hc g hb b i h hN
end

structure HP where
 hs:List (Nat×H)
 ps:List Prop
 ok:AllP ps
def h0:HP:=⟨[],[],.nil⟩
section
variable{α:Type}[Enc α]
def hO(i:Nat)(a:H)(t:HP):HP:=⟨(i,a)::t.hs,t.ps,t.ok⟩
def hP{p:Prop}(h:p)(t:HP):HP:=⟨t.hs,p::t.ps,.cons h t.ok⟩
def hK{p:Prop}[Decidable p]{u:Unit}(h:chk p=some u)(t:HP):HP:=⟨t.hs,p::t.ps,.cons (jeb h) t.ok⟩
def hC(i:Nat){S:FnSpec}{ds:List D}{obs:List Obj'}{r:AV}{n o:List Obj'}(h:jd9 S ds obs r n o)(t:HP):HP:=⟨(i,.c r n o)::t.hs,jd9 S ds obs r n o::t.ps,.cons h t.ok⟩
def hF(i:Nat){S:FnSpec}{ds:List D}{obs:List Obj'}{r:AV}{n o:List Obj'}(h:jd9 S ds obs r n o)(b:jm2 n o)(t:HP):HP:=⟨(i,.cf r n o)::t.hs,jd9 S ds obs r n o::jm2 n o::t.ps,.cons h (.cons b t.ok)⟩
def hW(i:Nat){S:FnSpec}{ds:List D}{obs:List Obj'}{r:AV}{n o:List Obj'}{b:D}{L:List D}{k:Nat}{p:Prop}(h:jd9 S ds obs r n o)(c:L[k]? =some b)(d:p)(t:HP):HP:=⟨(i,.cv b r n o)::t.hs,jd9 S ds obs r n o::(L[k]? =some b)::p::t.ps,.cons h (.cons c (.cons d t.ok))⟩
def hN(i:Nat)(l:List α)(t:HP):HP:=⟨(i,.n (l.length:Int))::t.hs,((((l.map Enc.e).length:Nat):Int)=(l.length:Int))::t.ps,.cons (jto Enc.e l) t.ok⟩
def hD(i:Nat){l:List α}{k:Int}{x:α}(h:idx l k=some x)(t:HP):HP:=⟨(i,.d (Enc.e x))::t.hs,(0<=k/\ (l.map Enc.e)[k.toNat]? =some (Enc.e x))::t.ps,.cons (juq h) t.ok⟩
def hE(i:Nat){l:List α}{k:Int}{x:α}(h:idx l k=some x)(t:HP):HP:=⟨(i,.d (Enc.e x))::t.hs,((l.map Enc.e)[k.toNat]? =some (Enc.e x))::t.ps,.cons (jbo h) t.ok⟩
def hS(i:Nat){l:List α}{k:Int}{x:α}(h:idx l k=some x)(y:α)(t:HP):HP:=⟨(i,.sd (Enc.e x) (List.map Enc.e (l.set k.toNat y)))::t.hs,((l.map Enc.e)[k.toNat]? =some (Enc.e x))::((l.map Enc.e).set k.toNat (Enc.e y)=(l.set k.toNat y).map Enc.e)::t.ps,.cons (jbo h) (.cons (je1 Enc.e l k.toNat y) t.ok)⟩
def hA(i b:Nat){l r:List α}{u:Unit}(h:chk (l.length+r.length<=4294967296)=some u)(t:HP)(hb:Nat.ble b 32768=true:=by rfl):HP:=
 ⟨(i,.l (List.map Enc.e (l++r)))::t.hs,((((l.map Enc.e).length+(r.map Enc.e).length:Nat):Int)<=140737488355328/\ (((l.map Enc.e).length+(r.map Enc.e).length:Nat):Int)*(b:Int)<=140737488355328)::(l.map Enc.e++r.map Enc.e=(l++r).map Enc.e)::t.ps,.cons (ju0 (jeb h) hb) (.cons (ju1 Enc.e l r) t.ok)⟩
def hU(i:Nat){l:List α}{lo hi:Int}{u:Unit}(h:chk (0<=lo/\ lo<=hi/\ hi<=(l.length:Int))=some u)(t:HP):HP:=
 ⟨(i,.l (List.map Enc.e ((l.take hi.toNat).drop lo.toNat)))::t.hs,(0<=lo/\ lo<=hi/\ hi<=((l.map Enc.e).length:Int))::(((l.map Enc.e).take hi.toNat).drop lo.toNat=((l.take hi.toNat).drop lo.toNat).map Enc.e)::t.ps,.cons (jvf (jeb h)) (.cons (jvg Enc.e l lo.toNat hi.toNat) t.ok)⟩
def hV(i:Nat){l:List α}{lo:Int}{u:Unit}(h:chk (0<=lo/\ lo<=(l.length:Int))=some u)(t:HP):HP:=
 ⟨(i,.l (List.map Enc.e (l.drop lo.toNat)))::t.hs,(0<=lo/\ lo<=((l.map Enc.e).length:Int))::((l.map Enc.e).drop lo.toNat=(l.drop lo.toNat).map Enc.e)::t.ps,.cons (jve (jeb h)) (.cons (juv Enc.e l lo.toNat) t.ok)⟩
end

class RT (Q:Exit->St->Prop) (R:outParam (Exit->St->Prop)):Prop where
 to:∀s,R .ret s->Q .ret s
instance{J:St->Prop}{Q R:Exit->St->Prop}[h:RT Q R]:RT (Then J Q) R:=⟨fun s hs=>thR (h.to s hs)⟩
instance{id:Nat}{Q R:Exit->St->Prop}[h:RT Q R]:RT (jd7 id Q) R:=⟨fun s hs=>ibR (h.to s hs)⟩
instance{ty:TypeId->Option TyE}{rs:List ResultVar}{k:Nat}{post:AV->List Obj'->List Obj'->Prop}:RT (Fin ty rs k post) (Fin ty rs k post):=⟨fun _ hs=>hs⟩

def JW{V:Type}(cx:Cx)(n:Nat)(S:V->X)(v:V):St->Prop:=fun s=>Wk cx s ((S v).st n)
def JF{R V:Type}(cx:Cx)(n:Nat)(S:V->X)(v:Fl R V):St->Prop:=fun s=>∃u,v=.go u/\ Wk cx s ((S u).st n)
def JL{A B:Type}(cx:Cx)(n:Nat)(S:A->X)(r:Lp A B):St->Prop:=fun s=>∃a,r=.nx a/\ Wk cx s ((S a).st n)

mutual
def avP:AV->AV->List (Nat×Nat)
 | .own o,.own o'=>[(o',o)]
 | .ref o _,.ref o' _=>[(o',o)]
 | .eref o _ _ _,.eref o' _ _ _=>[(o',o)]
 | .row o _ _ _,.row o' _ _ _=>[(o',o)]
 | .aggv l,.aggv l'=>avPs l l'
 | .fn _ l,.fn _ l'=>avPs l l'
 |_,_=>[]
def avPs:List AV->List AV->List (Nat×Nat)
 |x::l,x'::l'=>avP x x'++avPs l l'
 |_,_=>[]
end
def lkN:List (Nat×Nat)->Nat->Nat
 |[],_=>0
 |(a,b)::r,t=>bif Nat.beq t a then b else lkN r t
def mdP:AV->AV->List Md
 | .dat (.sc (.slice none 0 0)),.dat (.sl es _)=>[.z es]
 |_,_=>[]
def auP(n k:Nat)(x x':X):WP:=
 let c:=fun t=>bif Nat.blt t n then lkA x.A t else .und
 let b:=(List.range k).map (fun i=>(i,i))++x'.A.flatMap fun q=>avP (c q.1) q.2
 let d:=b++x'.L.flatMap fun q=>match q.2,obo x.L (lkN b q.1)with
  |some (.box _ l'),some (.box _ l)=>avPs l l'
  |_,_=>[]
 ⟨x'.A.map fun q=>(q.1,mdP (c q.1) q.2),x'.L.map fun q=>(q.1,lkN d q.1,[]),[],x'.nx⟩

section
variable{P:Program}{J:Inv}{ty:TypeId->Option TyE}{cx:Cx}{k n:Nat}{l:List (FO P J)}{x:X}{Q:Exit->St->Prop}
theorem re{id:Nat}{os:List Oper}(G:GG P ty cx k l)(p:HP)(b:Q .normal ((rX (exR (some k) chk0 ty (GF l) os n os 0 p.hs x)).st n))(h:rP (exR (some k) chk0 ty (GF l) os n os 0 p.hs x)=some p.ps:=by kernel_rfl):Ok P cx (.region id os.toArray false) Q (x.st n):=
 jud G.t.ty G.ok G.hL p.hs p.ok h b
theorem rs{id:Nat}{os:List Oper}{c:Code}(G:GG P ty cx k l)(p:HP)(b:Ok P cx c Q ((rX (exR (some k) chk0 ty (GF l) os n os 0 p.hs x)).st n))(h:rP (exR (some k) chk0 ty (GF l) os n os 0 p.hs x)=some p.ps:=by kernel_rfl):Ok P cx (.seq (.region id os.toArray false) c) Q (x.st n):=
 jl0 G.t.ty G.ok G.hL p.hs p.ok h b
theorem rh{id:Nat}{os:List Oper}(G:GG P ty cx k l)(b:Q .normal ((rX (exR (some k) chk0 ty (GF l) os n os 0 [] x)).st n))(h:rP (exR (some k) chk0 ty (GF l) os n os 0 [] x)=some []:=by kernel_rfl):Ok P cx (.region id os.toArray false) Q (x.st n):=
 jud G.t.ty G.ok G.hL [] .nil h b
theorem rg{id:Nat}{os:List Oper}{c:Code}(G:GG P ty cx k l)(b:Ok P cx c Q ((rX (exR (some k) chk0 ty (GF l) os n os 0 [] x)).st n))(h:rP (exR (some k) chk0 ty (GF l) os n os 0 [] x)=some []:=by kernel_rfl):Ok P cx (.seq (.region id os.toArray false) c) Q (x.st n):=
 jl0 G.t.ty G.ok G.hL [] .nil h b
theorem de{id:Nat}{os:List Oper}(G:GG P ty cx k l)(M:List (Nat×List Nat))(p:HP)(b:Q .normal ((rX (exR none (chkM ty (GF l) os n M) ty (GF l) os n os 0 p.hs x)).st n))
  (hB:(Region.lexB .any os.toArray&&lexM ty (GF l) (mAt M) os.toArray)=true:=by kernel_rfl) (h:rP (exR none (chkM ty (GF l) os n M) ty (GF l) os n os 0 p.hs x)=some p.ps:=by kernel_rfl):Ok P cx (.region id os.toArray true) Q (x.st n):=
 js2 G.t.mx G.t.ty G.ok G.lv M hB p.hs p.ok h b
theorem ds{id:Nat}{os:List Oper}{c:Code}(G:GG P ty cx k l)(M:List (Nat×List Nat))(p:HP)(b:Ok P cx c Q ((rX (exR none (chkM ty (GF l) os n M) ty (GF l) os n os 0 p.hs x)).st n))
  (hB:(Region.lexB .any os.toArray&&lexM ty (GF l) (mAt M) os.toArray)=true:=by kernel_rfl) (h:rP (exR none (chkM ty (GF l) os n M) ty (GF l) os n os 0 p.hs x)=some p.ps:=by kernel_rfl):Ok P cx (.seq (.region id os.toArray true) c) Q (x.st n):=
 joz G.t.mx G.t.ty G.ok G.lv M hB p.hs p.ok h b

theorem cd{β:Type}{c:Operand}{t e:Code}{b:Bool}{u w:Option β}{y:β}(d:(if b=true then u else w)=some y)(g:u=some y->Ok P cx t Q (x.st n))(f:w=some y->Ok P cx e Q (x.st n))(hc:evX n x.A c=.dat (.sc (.bool b)):=by kernel_rfl):Ok P cx (.cond c t e) Q (x.st n):=
 jn5 b hc (fun h=>g (it h d)) (fun h=>f (ie h d))
theorem cT{c:Operand}{t e:Code}(b:Ok P cx t Q (x.st n))(hc:evX n x.A c=.dat (.sc (.bool true)):=by kernel_rfl):Ok P cx (.cond c t e) Q (x.st n):=
 jn5 true hc (fun _=>b) (fun h=>by cases h)
theorem cF{c:Operand}{t e:Code}(b:Ok P cx e Q (x.st n))(hc:evX n x.A c=.dat (.sc (.bool false)):=by kernel_rfl):Ok P cx (.cond c t e) Q (x.st n):=
 jn5 false hc (fun h=>by cases h) (fun _=>b)
theorem bf{β:Type}{b:Bool}{u w:Option β}{y:β}(c:(if b=true then u else w)=some y):(b=true/\ u=some y) \/(b=false/\ w=some y):=by
 cases b
 ·exact .inr ⟨rfl,c⟩
 ·exact .inl ⟨rfl,c⟩
theorem jn{V β:Type}{m:Option V}{f:V->Option β}{y:β}(h:m.bind f=some y)(S:V->X){c b:Code}(d:∀v,m=some v->Ok P cx c (Then (JW cx n S v) Q) (x.st n))(e:∀v,f v=some y->Ok P cx b Q ((S v).st n)):Ok P cx (.seq c b) Q (x.st n):=by
 obtain⟨v,i,g⟩:=jaf h;exact ju7 S v (d v i) (e v g)
theorem jF{R V:Type}{m:Option (Fl R V)}{f:V->Option R}{y:R}(h:flb m f=some y)(S:V->X){c b:Code}(d:∀v,(∀r,v=.ret r->r=y)->m=some v->Ok P cx c (Then (JF cx n S v) Q) (x.st n))(e:∀v,f v=some y->Ok P cx b Q ((S v).st n)):Ok P cx (.seq c b) Q (x.st n):=by
 obtain⟨v,o,i,g⟩:=jus h;exact jue S v (d v i o) (fun u j=>e u (g u j))
theorem tl{V β:Type}{m:Option V}{f:V->Option β}{y:β}(g:m.bind f=some y)(S:V->X){c:Code}(b:∀v,m=some v->Ok P cx c (Then (JW cx n S v) Q) (x.st n))(d:∀v,f v=some y->∀s,Wk cx s ((S v).st n)->Q .normal s):Ok P cx c Q (x.st n):=by
 obtain⟨v,h,e⟩:=jaf g;exact ju4 S v (b v h) (d v e)
theorem tF{R V:Type}{m:Option (Fl R V)}{f:V->Option R}{y:R}(g:flb m f=some y)(S:V->X){c:Code}(b:∀v,(∀r,v=.ret r->r=y)->m=some v->Ok P cx c (Then (JF cx n S v) Q) (x.st n))(d:∀v,f v=some y->∀s,Wk cx s ((S v).st n)->Q .normal s):Ok P cx c Q (x.st n):=by
 obtain⟨v,j,h,e⟩:=jus g;exact juc S v (b v h j) (fun u i=>d u (e u i))
theorem lpP{A B:Type}{step:A->Option (Lp A B)}{e:A}{b:B}(g:iter step e=some b)(S:A->X){st:St}(h:Wk cx st ((S e).st n)){c:Code}
  (d:∀a r,(∀f,r=.dn f->f=b)->step a=some r->Ok P cx c (Then (JL cx n S r) Q) ((S a).st n)):Ok P cx (.loop c) Q st:=
 ju6 S g h fun a r hs hb=>d a r hb hs
theorem wkA{x':X}(G:GG P ty cx k l)(h:(jgm n k (auP n k x x') x,jim (wkX n k (auP n k x x') x))=(true,x')):Wk cx (x.st n) (x'.st n):=Wk_J G.hL _ h
theorem lp{A B:Type}{step:A->Option (Lp A B)}{e:A}{b:B}(G:GG P ty cx k l)(g:iter step e=some b)(S:A->X){c:Code}
  (d:∀a r,(∀f,r=.dn f->f=b)->step a=some r->Ok P cx c (Then (JL cx n S r) Q) ((S a).st n)) (h:(jgm n k (auP n k x (S e)) x,jim (wkX n k (auP n k x (S e)) x))=(true,S e):=by kernel_rfl):Ok P cx (.loop c) Q (x.st n):=
 lpP g S (wkA G h) d

theorem wJ{V:Type}{S:V->X}{a v:V}(G:GG P ty cx k l)(b:some a=some v)(h:(jgm n k (auP n k x (S a)) x,jim (wkX n k (auP n k x (S a)) x))=(true,S a):=by kernel_rfl):Then (JW cx n S v) Q .normal (x.st n):=by
 cases b;exact thN (wkA G h)
theorem wF{R V:Type}{S:V->X}{a:V}{v:Fl R V}(G:GG P ty cx k l)(b:some (Fl.go a)=some v)(h:(jgm n k (auP n k x (S a)) x,jim (wkX n k (auP n k x (S a)) x))=(true,S a):=by kernel_rfl):Then (JF cx n S v) Q .normal (x.st n):=by
 cases b;exact thN ⟨a,rfl,wkA G h⟩
theorem wL{A B:Type}{S:A->X}{a:A}{v:Lp A B}(G:GG P ty cx k l)(b:some (Lp.nx a)=some v)(h:(jgm n k (auP n k x (S a)) x,jim (wkX n k (auP n k x (S a)) x))=(true,S a):=by kernel_rfl):Then (JL cx n S v) Q .normal (x.st n):=by
 cases b;exact thN ⟨a,rfl,wkA G h⟩
theorem wD{A V:Type}{S:V->X}{a v:V}{r:Lp A V}(G:GG P ty cx k l)(c:some (Lp.dn a)=some r)(hb:∀b,r=.dn b->b=v)(h:(jgm n k (auP n k x (S a)) x,jim (wkX n k (auP n k x (S a)) x))=(true,S a):=by kernel_rfl):Then (JW cx n S v) Q .normal (x.st n):=by
 cases c;cases hb _ rfl;exact thN (wkA G h)
theorem wE{A R V:Type}{S:V->X}{a:V}{v:Fl R V}{r:Lp A (Fl R V)}(G:GG P ty cx k l)(c:some (Lp.dn (Fl.go a))=some r)(hb:∀b,r=.dn b->b=v)(h:(jgm n k (auP n k x (S a)) x,jim (wkX n k (auP n k x (S a)) x))=(true,S a):=by kernel_rfl):Then (JF cx n S v) Q .normal (x.st n):=by
 cases c;cases hb _ rfl;exact thN ⟨a,rfl,wkA G h⟩
theorem wJp{V:Type}{S:V->X}{a v:V}(b:some a=some v){st:St}(h:Wk cx st ((S a).st n)):Then (JW cx n S v) Q .normal st:=by
 cases b;exact thN h
theorem wFp{R V:Type}{S:V->X}{a:V}{v:Fl R V}(b:some (Fl.go a)=some v){st:St}(h:Wk cx st ((S a).st n)):Then (JF cx n S v) Q .normal st:=by
 cases b;exact thN ⟨a,rfl,h⟩
theorem wLp{A B:Type}{S:A->X}{a:A}{v:Lp A B}(b:some (Lp.nx a)=some v){st:St}(h:Wk cx st ((S a).st n)):Then (JL cx n S v) Q .normal st:=by
 cases b;exact thN ⟨a,rfl,h⟩
theorem wDp{A V:Type}{S:V->X}{a v:V}{r:Lp A V}(c:some (Lp.dn a)=some r)(hb:∀b,r=.dn b->b=v){st:St}(h:Wk cx st ((S a).st n)):Then (JW cx n S v) Q .normal st:=by
 cases c;cases hb _ rfl;exact thN h
theorem wR{x':X}(h:Wk cx (x.st n) (x'.st n))(b:Ok P cx .ret Q (x'.st n)):Ok P cx .ret Q (x.st n):=jai h b
theorem rt{rs:List ResultVar}{kk:Nat}{d:AV}{b c:List Obj'}[i:RT Q (Fin ty rs kk (fun r new ob=>r=d/\ new=b/\ ob=c))](ns:List Nat)(ms:List (List Md))(h:finX ty rs n kk ns ms x=some (d,b,c):=by kernel_rfl):Ok P cx .ret Q (x.st n):=
 jva (i.to _ (ju8 ns ms h trivial))
theorem fN{rs:List ResultVar}{kk:Nat}{d:AV}{b c:List Obj'}(ns:List Nat)(ms:List (List Md))(h:finX ty rs n kk ns ms x=some (d,b,c):=by kernel_rfl):Fin ty rs kk (fun r new ob=>r=d/\ new=b/\ ob=c) .normal (x.st n):=
 ju8 ns ms h trivial
theorem sN{J:St->Prop}(h:J (x.st n)):Ok P cx .skip (Then J Q) (x.st n):=jae (thN h)
end

section
variable{R V A:Type}{y a:R}
theorem eR{v:Fl R V}(b:some (Fl.ret a)=some v)(c:∀r,v=.ret r->r=y):some a=some y:=by cases b;rw[c _ rfl]
theorem eD{r:Lp A R}(c:some (Lp.dn a)=some r)(hb:∀b,r=.dn b->b=y):some a=some y:=by cases c;rw[hb _ rfl]
theorem eL{v:Fl R V}{r:Lp A (Fl R V)}(c:some (Lp.dn (Fl.ret a))=some r)(hb:∀b,r=.dn b->b=v)(d:∀r,v=.ret r->r=y):some a=some y:=by
 cases c;cases hb _ rfl;rw[d _ rfl]
end
end Go.Ab
