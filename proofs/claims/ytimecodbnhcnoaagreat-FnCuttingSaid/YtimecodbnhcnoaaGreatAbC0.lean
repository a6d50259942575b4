/- My own layer: contracts by models in few words. -/
import Derived.Laws.BitsLemmas
import Derived.Test.YtimecodbnhcnoaaGreatAbEx5
namespace Go.Ab
set_option linter.unusedVariables false
set_option linter.unusedSimpArgs false

structure FO(P:Program)(J:Inv) where
 f:Nat
 S:FnSpec
 ok:FnOK P J f S
 lv:jkr S
def gam{P:Program}{J:Inv}:List (FO P J)->List (Nat×FnSpec)
 |[]=>[]
 |F::r=>(F.f,F.S)::gam r
theorem jsy{P:Program}{J:Inv}:∀(l:List (FO P J)),∀p∈gam l,FnOK P J p.1 p.2
 |[]=>jso
 |F::r=>jrm F.ok (jsy r)
theorem jsz{P:Program}{J:Inv}:∀(l:List (FO P J)),∀p∈gam l,jkr p.2
 |[]=>jsn
 |F::r=>jrl F.lv (jsz r)
abbrev GF{P:Program}{J:Inv}(l:List (FO P J)):Nat->Option FnSpec:=fun f=>jka f (gam l)
structure TT(P:Program)(ty:TypeId->Option TyE):Prop where
 mx:P.follows .mixedOrders=true
 ty:∀t x,ty t=some x->TyOK P t x
structure GG(P:Program){J:Inv}(ty:TypeId->Option TyE)(cx:Cx)(k:Nat)(l:List (FO P J)):Prop where
 t:TT P ty
 hL:cx.L=k
 hJ:cx.J=J
theorem GG.ok{P:Program}{J:Inv}{ty:TypeId->Option TyE}{cx:Cx}{k:Nat}{l:List (FO P J)}(G:GG P ty cx k l):∀f S,GF l f=some S->FnOK P cx.J f S:=by rw[G.hJ];exact jnh (jsy l)
theorem GG.lv{P:Program}{J:Inv}{ty:TypeId->Option TyE}{cx:Cx}{k:Nat}{l:List (FO P J)}(_:GG P ty cx k l):Live (GF l):=ji8 (jsz l)
theorem GG.f{P:Program}{J:Inv}{ty:TypeId->Option TyE}{cx:Cx}{k:Nat}{l:List (FO P J)}(G:GG P ty cx k l)(F:FO P J):GG P ty cx k (F::l):=⟨G.t,G.hL,G.hJ⟩

def jgi:D->List D
 | .agg l=>l
 |d=>[d]
class BxE (α:Type) [Enc α]:Prop where
 inj:∀x y:α,jgi (Enc.e x)=jgi (Enc.e y)->x=y
instance:BxE Int:=⟨fun x y h=>Enc.inj _ _ (by simpa[jgi,Enc.e]using h)⟩
instance:BxE Bool:=⟨fun x y h=>Enc.inj _ _ (by simpa[jgi,Enc.e]using h)⟩
instance:BxE UInt8:=⟨fun x y h=>Enc.inj _ _ (by simpa[jgi,Enc.e]using h)⟩
instance:BxE ByteArray:=⟨fun x y h=>Enc.inj _ _ (by simpa[jgi,Enc.e]using h)⟩
instance{k:IntKind}:BxE (IK k):=⟨fun x y h=>Enc.inj _ _ (by simpa[jgi,Enc.e]using h)⟩
instance{α:Type}[Enc α]:BxE (List α):=⟨fun x y h=>Enc.inj _ _ (by
 have a:[Enc.e x]=[Enc.e y]:=h;exact List.head_eq_of_cons_eq a)⟩
abbrev dV{α:Type}[Enc α](x:α):AV:=.dat (Enc.e x)
abbrev kV(k:IntKind)(x:Int):AV:=.dat (.sc (.int k x))
abbrev bxO(T:Nat){α:Type}[Enc α](x:α):Obj':=.box T ((jgi (Enc.e x)).map .dat)
abbrev arO(E:Nat){α:Type}[Enc α](l:List α):Obj':=.arr E (Enc.sz α) (List.map Enc.e l)
abbrev taO(E:Nat){α:Type}[Enc α](mask:List (Option TypeId))(l:List α):Obj':=.tab E (Enc.sz α) mask (List.map Enc.e l) 0 none
abbrev bX(o T:Nat)(l:List AV):Nat×Option Obj':=(o,some (.box T l))
abbrev aX(o E:Nat){α:Type}[Enc α](l:List α):Nat×Option Obj':=(o,some (.arr E (Enc.sz α) (List.map Enc.e l)))
abbrev tX(o E:Nat){α:Type}[Enc α](mask:List (Option TypeId))(l:List α)(g:Nat)(hole:Option (Nat×Nat)):Nat×Option Obj':=(o,some (.tab E (Enc.sz α) mask (List.map Enc.e l) g hole))

theorem jtl{α β:Type}{o:Option α}{a:Option β}{f:α->Option β}{y:β}(h:o.elim a f=some y):(o=none/\ a=some y) \/∃x,o=some x/\ f x=some y:=by
 cases o with
 |none=>exact .inl ⟨rfl,h⟩
 |some x=>exact .inr ⟨x,rfl,h⟩
structure Par(α:Type) where
 lend:List Pt
 d:α->List D
 o:α->List Obj'
 no:Nat
 nl:Nat
 lo:∀x,(o x).length=no
 ld:∀x,(d x).length=lend.length
 le:Nat.ble nl no=true
 inj:∀x y,d x=d y->o x=o y->x=y
def Par.r{α:Type}[Enc α]:Par α:=⟨[.rd],fun x=>[Enc.e x],fun _=>[],0,0,fun _=>rfl,fun _=>rfl,rfl,fun x y h _=>Enc.inj x y (by simpa using h)⟩
def Par.b(T:Nat){α:Type}[Enc α][BxE α]:Par α:=⟨[.bx],fun _=>[.sc undef],fun x=>[bxO T x],1,1,fun _=>rfl,fun _=>rfl,rfl,fun x y _ h=>BxE.inj x y (by
 simp only[List.cons.injEq,Obj'.box.injEq,and_true,true_and]at h;exact(List.map_inj_right (fun a b h=>by cases h;rfl)).1 h)⟩
def Par.s(E:Nat){α:Type}[Enc α]:Par (List α):=⟨[.sl],fun _=>[.sc undef],fun x=>[arO E x],1,1,fun _=>rfl,fun _=>rfl,rfl,fun x y _ h=>(by
 simp only[List.cons.injEq,Obj'.arr.injEq,and_true,true_and]at h;exact(List.map_inj_right (fun a b=>Enc.inj a b)).1 h)⟩
def Par.t(E:Nat)(mask:List (Option TypeId)){α:Type}[Enc α]:Par (List α):=⟨[.sl],fun _=>[.sc undef],fun x=>[taO E mask x],1,1,fun _=>rfl,fun _=>rfl,rfl,fun x y _ h=>(by
 simp only[List.cons.injEq,Obj'.tab.injEq,and_true,true_and]at h;exact(List.map_inj_right (fun a b=>Enc.inj a b)).1 h)⟩
def Par.m(E:Nat){α:Type}[Enc α]:Par (List α):=⟨[.sl],fun _=>[.sc undef],fun x=>[arO E x],1,0,fun _=>rfl,fun _=>rfl,rfl,fun x y _ h=>(by
 simp only[List.cons.injEq,Obj'.arr.injEq,and_true,true_and]at h;exact(List.map_inj_right (fun a b=>Enc.inj a b)).1 h)⟩
def Par.u:Par Unit:=⟨[],fun _=>[],fun _=>[],0,0,fun _=>rfl,fun _=>rfl,rfl,fun _ _ _ _=>rfl⟩
def Par.x{α β:Type}(p:Par α)(q:Par β):Par (α×β):=
 ⟨p.lend++q.lend,fun x=>p.d x.1++q.d x.2,fun x=>p.o x.1++q.o x.2,p.no+q.no,p.nl+q.nl,fun x=>by rw[List.length_append,p.lo,q.lo],fun x=>by rw[List.length_append,List.length_append,p.ld,q.ld],Nat.ble_eq_true_of_le (Nat.add_le_add (Nat.le_of_ble_eq_true p.le) (Nat.le_of_ble_eq_true q.le)),by
  rintro⟨a,b⟩ ⟨a',j⟩ c e;obtain⟨f,g⟩:=List.append_inj c (by rw[p.ld,p.ld]);obtain⟨h,i⟩:=List.append_inj e (by rw[p.lo,p.lo]);exact Prod.ext (p.inj _ _ f h) (q.inj _ _ g i)⟩
structure MS(α β:Type) where
 p:Par α
 m:α->Option β
 r:β->AV
 n:β->List Obj'
 o:α->β->List Obj'
section
variable{α β:Type}
def MS.S(M:MS α β):FnSpec:=modS M.p.lend M.p.d M.p.o M.m M.r M.n M.o
theorem MS.lv{M:MS α β}:jkr M.S:=jqa
abbrev MS.C(M:MS α β)(x:α)(y:β):Prop:=jd9 M.S (M.p.d x) (M.p.o x) (M.r y) (M.n y) (M.o x y)
theorem MS.c(M:MS α β)(x:α){y:β}(h:M.m x=some y):M.C x y:=jqb M.p.inj h
def fo{P:Program}{J:Inv}{f:Nat}{M:MS α β}(h:FnOK P J f M.S):FO P J:=⟨f,M.S,h,M.lv⟩
def MS.SK(M:MS α β)(kp:List Nat)(a:∀x y,kp.map (fun j=>(M.o x y)[j]?)=kp.map (fun j=>(M.p.o x)[j]?))(b:∀x y,(M.o x y).length=(M.p.o x).length):FnSpec:=
 ⟨M.S.lend,M.S.pre,M.S.post,kp,fun ds obs r new obs' h=>by
  obtain⟨x,y,_,rfl,_,_,_,rfl⟩:=h;exact⟨fun j c=>List.map_inj_left.1 (a x y) j c,fun _=>b x y⟩,[],fun _ _ _ _ _ _ p h=>by cases h⟩
def KcP(obs obs':List Obj'):List (Nat×Nat)->Prop
 |[]=>True
 |p::r=>(∃T l l' d,obs[p.1]? =some (.box T l)/\ obs'[p.1]? =some (.box T l')/\ l'.length=l.length/\ l[p.2]? =some (.dat d)/\ l'[p.2]? =some (.dat d))/\ KcP obs obs' r
theorem KcP.at{obs obs':List Obj'}:∀{l:List (Nat×Nat)},KcP obs obs' l->∀p∈l,∃T l l' d,obs[p.1]? =some (.box T l)/\ obs'[p.1]? =some (.box T l')/\ l'.length=l.length/\ l[p.2]? =some (.dat d)/\ l'[p.2]? =some (.dat d)
 |[],_,p,hp=>by cases hp
 |q::l,h,p,hp=>by
  rcases List.mem_cons.1 hp with rfl|hp
  ·exact h.1
  ·exact KcP.at h.2 p hp
theorem jtv{P:Program}{J:Inv}{f:Nat}{M:MS α β}(h:FnOK P J f M.S){kp:List Nat}{B:∀x y,kp.map (fun j=>(M.o x y)[j]?)=kp.map (fun j=>(M.p.o x)[j]?)}{C:∀x y,(M.o x y).length=(M.p.o x).length}:FnOK P J f (M.SK kp B C):=
 ⟨h.1,fun vs w F ds obs κ a b c d e=>Calls.mono (h.2 vs w F ds obs κ a b c d e) fun e w' D=>by
  obtain⟨v,q1,r,new,obs',κ',κl,F',⟨l,m,n,q,s,t,u,z,A,g,i,k⟩⟩:=D;exact⟨v,q1,r,new,obs',κ',κl,F',⟨l,m,n,q,s,t,u,z,A,g,i,k⟩⟩⟩
def foK{P:Program}{J:Inv}{f:Nat}{M:MS α β}(h:FnOK P J f M.S)(kp:List Nat)(a:∀x y,kp.map (fun j=>(M.o x y)[j]?)=kp.map (fun j=>(M.p.o x)[j]?))(b:∀x y,(M.o x y).length=(M.p.o x).length):FO P J:=⟨f,M.SK kp a b,jtv h,M.lv⟩
end
end Go.Ab
