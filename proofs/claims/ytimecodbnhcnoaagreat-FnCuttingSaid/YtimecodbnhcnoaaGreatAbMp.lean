/- My own layer: maps of pairs in models. -/
import Derived.Test.YtimecodbnhcnoaaGreatAbC0
namespace Go.Ab
set_option linter.unusedVariables false
set_option linter.unusedSimpArgs false

instance encPair{α β:Type}[Enc α][Enc β]:Enc (α×β):=⟨2,fun p=>.agg [Enc.e p.1,Enc.e p.2],fun a b h=>by
 have h:D.agg [Enc.e a.1,Enc.e a.2]=D.agg [Enc.e b.1,Enc.e b.2]:=h;simp only[D.agg.injEq,List.cons.injEq,and_true]at h;exact Prod.ext (Enc.inj _ _ h.1) (Enc.inj _ _ h.2)⟩

def encM{β:Type}[Enc β](m:List ((Int×Int)×β)):List ((Int×Int)×D):=m.map fun p=>(p.1,Enc.e p.2)
abbrev mpO(T:Nat){β:Type}[Enc β](m:List ((Int×Int)×β)):Obj':=.mp T (encM m)
abbrev mX(o T:Nat){β:Type}[Enc β](m:List ((Int×Int)×β)):Nat×Option Obj':=(o,some (.mp T (encM m)))
def getL{β:Type}(z:β)(k:Int×Int):List ((Int×Int)×β)->β×Bool
 |[]=>(z,false)
 |(k',d)::r=>if k'=k then(d,true)else getL z k r
def putL{β:Type}(k:Int×Int)(d:β):List ((Int×Int)×β)->List ((Int×Int)×β)
 |[]=>[(k,d)]
 |(k',d')::r=>if k'=k then(k,d)::r else(k',d')::putL k d r
section
variable{β:Type}[Enc β]
theorem jtt(z:β)(k:Int×Int):∀m:List ((Int×Int)×β),getM (Enc.e z) k (encM m)=(Enc.e (getL z k m).1,(getL z k m).2)
 |[]=>rfl
 |(k',d)::r=>by
  have a:=jtt z k r;unfold encM at a ⊢;simp only[List.map_cons];unfold getM getL;split
  ·rfl
  ·exact a
theorem juo(k:Int×Int)(d:β):∀m:List ((Int×Int)×β),putM k (Enc.e d) (encM m)=encM (putL k d m)
 |[]=>rfl
 |(k',d')::r=>by
  have a:=juo k d r;unfold encM at a ⊢;simp only[List.map_cons];unfold putM putL;split
  ·rfl
  ·rw[a];rfl
theorem mg_1{z:β}{k:Int×Int}{m:List ((Int×Int)×β)}{r:β×Bool}(h:some (getL z k m)=some r):(getM (Enc.e z) k (encM m)).1=Enc.e r.1:=by
 cases h;rw[jtt]
theorem mg_2{z:β}{k:Int×Int}{m:List ((Int×Int)×β)}{r:β×Bool}(h:some (getL z k m)=some r):(getM (Enc.e z) k (encM m)).2=r.2:=by
 cases h;rw[jtt]
def obM(l:List Obj')(k:Nat):List ((Int×Int)×D):=match l.getD k (.box 0 [])with
 | .mp _ l=>l
 |_=>[]
theorem jnt:∀{x y:List ((Int×Int)×β)},encM x=encM y->x=y
 |[],[],_=>rfl
 |[],_::_,h=>by cases h
 |_::_,[],h=>by cases h
 |(k,d)::x,(k',d')::y,h=>by
  unfold encM at h;simp only[List.map_cons,List.cons.injEq,Prod.mk.injEq]at h;rw[h.1.1,Enc.inj _ _ h.1.2,jnt h.2]
theorem mpL{s:Nat}{x y:List ((Int×Int)×β)}(h:encM x=encM y):D.sl s (List.map Enc.e x)=D.sl s (List.map Enc.e y):=by rw[jnt h]
end
end Go.Ab
