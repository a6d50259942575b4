/- My own layer, eleventh part: one operation of any kind; operations one behind the other; a region that keeps the text's order. -/
import Derived.Test.YtimecodbnhcnoaaGreatAbCall
import Derived.Test.YtimecodbnhcnoaaGreatAbMap
namespace Go.Ab
set_option linter.unusedVariables false
set_option linter.unusedSimpArgs false
section
variable{P:Program}{cx:Cx}{κ:Kap}{F:Nat->Prop}{w:World}{U:Nat->Prop}{nm:Nat}{σ:Objs}{ty:TypeId->Option TyE}{Γ:Nat->Option FnSpec}

theorem jba{o:Oper}{ρ:Operand->Value}:ja4 P cx κ F w U nm σ o ρ .fail:=fun a=>a.elim

theorem arr1{α:Type}{a:Array α}{x:α}(h:a.toList=[x]):a= #[x]:=Array.ext' (by simpa using h)
theorem arr3{α:Type}{a:Array α}{x y z:α}(h:a.toList=[x,y,z]):a= #[x,y,z]:=Array.ext' (by simpa using h)
theorem arr2{α:Type}{a:Array α}{x y:α}(h:a.toList=[x,y]):a= #[x,y]:=Array.ext' (by simpa using h)

theorem jpn{ρ:Operand->Value}{e:Operand->AV}(a:∀x,RV κ F w (e x) (ρ x)):∀(xs:List Operand),RVs κ F w (xs.map e) (xs.map ρ)
 |[]=>by unfold RVs;rfl
 |x::xs=>by
  simp only[List.map_cons];unfold RVs;exact⟨_,_,rfl,a x,jpn a xs⟩
theorem jmi{e:Operand->AV}(a:∀x,NB U (e x)):∀(xs:List Operand),NBs U (xs.map e)
 |[]=>by unfold NBs;trivial
 |x::xs=>by
  simp only[List.map_cons];unfold NBs;exact⟨a x,jmi a xs⟩
theorem jof(h:ORel cx κ F w U σ){o:Oper}{ρ:Operand->Value}{e:Operand->AV}(c:∀x,RV κ F w (e x) (ρ x))(d:∀x,NB U (e x)){f:Nat}{first a:Array Operand}(g:o.op=.makeFunc (.func f) first a)(b:first.toList=[]):
  ja4 P cx κ F w U nm σ o ρ (.det True [] (.fn f (a.toList.map e)) []):=by
 intro _;refine jam (v:=.func (.func f) #[] (a.map ρ)) (w':=w) ?_ (jat h ?_ ?_)
 ·unfold execOp;have:first= #[]:=Array.ext' (by simpa using b);subst this;simp only[g,Instr.makeFunc,Sem.run_bind,Sem.run_pure,Result.andThen_ok,List.map_toArray,List.map_nil]
 ·unfold RV;exact⟨a.toList.map ρ,by congr 1;apply Array.ext';simp,jpn c _⟩
 ·unfold NB;exact jmi d _

theorem jod(p:∀t x,ty t=some x->TyOK P t x)(hΓ:∀f S,Γ f=some S->FnOK P cx.J f S)(h:ORel cx κ F w U σ)(hf:∀j,j<16->¬U (nm+j)){o:Oper}{ρ:Operand->Value}{e:Operand->AV}
  (A:∀x,RV κ F w (e x) (ρ x)) (G:∀x,NB U (e x)) (au:∀f,ρ (.func f)=.func (.func f) #[] #[]):ja4 P cx κ F w U nm σ o ρ (spec ty Γ σ e nm o):=by
 have B:¬U nm:=hf 0 (by omega);obtain⟨ar,op,ap,pos,aa,ab⟩:=o;cases op with
 |move x=>exact jiz h A G (.inl rfl)
 |assign x=>exact jiz h A G (.inr rfl)
 |pick c a b=>exact joe h A G rfl
 |alloc t=>exact jl8 p h B rfl
 |box t x=>exact jpi h B A G rfl
 |load t a=>exact joi p h A rfl (fun T ob es k j M D=>jjt p h A rfl M D) (fun T ob g k j es i c M D=>jju p h A rfl M D)
 |store t a x=>exact jl3 p h A G rfl (fun T cs ob es k j M N R Q=>jig p h B A G rfl M N R Q) (fun T cs ds ob g k j es i c M N R O Q=>jii p h A G rfl M N R O Q)
 |nilCheck x=>exact jil h A G rfl
 |binOp op t x y u=>exact jpj p h A rfl
 |unOp op t x=>
  cases op
  case not=>exact jpd h A rfl
  case neg=>exact jpe h A rfl
  all_goals exact jba
 |convert s d x=>exact jjx p h B A rfl
 |slice t x lo hi mx=>
  cases mx with
  |none=>exact jl4 p h B A rfl (fun el E ob g k j l I kk hh C D ae af ai=>jij p h A G rfl C D ae af ai)
  |some m=>exact jba
 |fieldAddr s x f=>exact jl6 p h A G rfl
 |field s x f=>exact jkz p h A G rfl
 |indexAddr t x i=>exact jl5 p h A G rfl (fun el E kk n ob g k j C hi D=>jik p h A G rfl C hi D)
 |index t x i=>exact jg8 p h A G rfl
 |extract x i=>exact jjw h A G rfl
 |build t W=>exact jl7 p h A G rfl
 |buildSlice t len W=>exact jgn p h B A G rfl (fun el E ds ns C R ah Y hz O=>jih p h B A G rfl C R ah Y hz O)
 |makeSlice t l c=>exact joh p h B A rfl (fun el E k k' n m d C R hc Z am X hd=>jjs p h B A rfl C R hc Z am X hd)
 |makeMap t r=>
  cases r with
  |none=>unfold spec;exact jjv h B rfl
  |some r=>exact jba
 |lookup t x i ok=>
  cases ok with
  |true=>unfold spec;exact jky p h A rfl
  |false=>exact jba
 |mapUpdate t x i v=>unfold spec;exact jkx p h A rfl
 |call c=>
  obtain⟨callee,args,argTypes⟩:=c;cases callee with
  |value f=>
   unfold spec;simp only[];split
   ·rename_i g l ac;exact jok hΓ h hf A rfl ac
   ·exact jba
  |invoke r m=>exact jba
  |builtin b=>
   cases b
   case len=>
    unfold spec;simp only[];split
    ·rename_i x t I V;have H:=arr1 I;have K:=arr1 V;subst H;subst K
     exact jph p h A rfl (fun ob g k j hu D=>by
      obtain⟨el,sz,aq,z,q,ak⟩:=hu;exact jkw h A rfl ⟨el,(p _ _ ak).1⟩ D)
    ·exact jba
   case append=>
    unfold spec;simp only[];split
    ·rename_i x y t t' I V;have H:=arr2 I;have K:=arr2 V;subst H;subst K
     exact jk2 p h B A rfl (fun el E o2 C V Y hz ad=>by
      subst V;exact jg7 p h B A rfl C Y hz ad) (fun el E ob g k j l2 rd C V Y hz D aj=>by
      subst V;exact jg9 p h hf A rfl C Y hz D aj)
    ·exact jba
   case max=>
    unfold spec;simp only[];split
    ·rename_i x y I;have H:=arr2 I;subst H;split
     ·rename_i k a k' b H K;exact jpg h A rfl H K
     ·exact jba
    ·rename_i x y z I;have H:=arr3 I;subst H;split
     ·rename_i k a k' b k2 c H K h3;exact jog h A rfl H K h3
     ·exact jba
    ·exact jba
   case min=>
    unfold spec;simp only[];split
    ·rename_i x y I;have H:=arr2 I;subst H;split
     ·rename_i k a k' b H K;exact jpf h A rfl H K
     ·exact jba
    ·exact jba
   all_goals exact jba
 |makeFunc fn first ao=>
  cases fn with
  |func f=>
   unfold spec;simp only[];split
   ·rename_i L;exact jof h A G rfl L
   ·exact jba
  |_=>exact jba
 |_=>exact jba

structure RelU(cx:Cx)(κ:Kap)(F:Nat->Prop)(U:Nat->Prop)(env:List AV)(σ:Objs)(a:Act)(w:World):Prop where
 env:EnvR κ F w U env a
 orel:ORel cx κ F w U σ

theorem EnvR.put{env:List AV}{a:Act}{d:Option Tmp}{av:AV}{v:Value}{κ':Kap}{F':Nat->Prop}{w':World}{U':Nat->Prop}{σ':Objs}(h:EnvR κ F w U env a)(j:Aft cx κ F w U κ' F' w' U' σ')(l:RV κ' F' w' av v)(k:NB U' av):
  EnvR κ' F' w' U' (putA env d av) (a.put d v):=by
 have old:∀t,RV κ' F' w' (env.getD t .und) (a.tmps.getD t undef):=fun t=>RV.mono j.kap j.fr (fun b hb=>j.wx.block b (.inl hb)) (h.nb t) (h.rv t);have e:∀t,NB U' (env.getD t .und):=fun t=>NB.mono j.us (h.nb t);cases d with
 |none=>exact⟨h.size,h.dfr,old,e⟩
 |some d=>
  refine⟨by simp[Act.put,putA,h.size],h.dfr,fun t=>?_,fun t=>?_⟩
  ·simp only[putA,Act.put];by_cases g:t=d
   ·subst g;by_cases f:t<env.length
    ·have c:(env.set t av).getD t .und=av:=by rw[List.getD_eq_getElem?_getD,List.getElem?_set_self f];rfl
     have i:(a.tmps.setIfInBounds t v).getD t undef=v:=by
      rw[Array.getD_eq_getD_getElem?,Array.getElem?_setIfInBounds_self_of_lt (by rw[h.size];exact f)];rfl
     rw[c,i];exact l
    ·have c:(env.set t av).getD t .und=env.getD t .und:=by rw[List.set_eq_of_length_le (by omega)]
     have i:a.tmps.setIfInBounds t v=a.tmps:=by apply Array.ext';rw[Array.toList_setIfInBounds,List.set_eq_of_length_le (by rw[Array.length_toList,h.size];omega)]
     rw[c,i];exact old t
   ·have c:(env.set d av).getD t .und=env.getD t .und:=by rw[List.getD_eq_getElem?_getD,List.getElem?_set_ne (Ne.symm g),<-List.getD_eq_getElem?_getD]
    have i:(a.tmps.setIfInBounds d v).getD t undef=a.tmps.getD t undef:=by
     rw[Array.getD_eq_getD_getElem?,Array.getElem?_setIfInBounds_ne (Ne.symm g),<-Array.getD_eq_getD_getElem?]
    rw[c,i];exact old t
  ·simp only[putA];by_cases g:t=d
   ·subst g;by_cases f:t<env.length
    ·have c:(env.set t av).getD t .und=av:=by rw[List.getD_eq_getElem?_getD,List.getElem?_set_self f];rfl
     rw[c];exact k
    ·have c:(env.set t av).getD t .und=env.getD t .und:=by rw[List.set_eq_of_length_le (by omega)]
     rw[c];exact e t
   ·have c:(env.set d av).getD t .und=env.getD t .und:=by rw[List.getD_eq_getElem?_getD,List.getElem?_set_ne (Ne.symm g),<-List.getD_eq_getElem?_getD]
    rw[c];exact e t

theorem jt2{env:List AV}{a:Act}(h:EnvR κ F w U env a)(x:Operand):NB U (jau env x):=by
 cases x with
 |tmp t=>exact h.nb t
 |const v=>
  simp only[jau];cases v
  case agg cs=>
   simp only[jcu];split<;>(unfold NB;trivial)
  all_goals (simp only[jcu];unfold NB;trivial)
 |global g=>simp only[jau];unfold NB;trivial
 |func f=>simp only[jau];unfold NB NBs;trivial

theorem jem(A:∀t x,ty t=some x->TyOK P t x)(G:∀f S,Γ f=some S->FnOK P cx.J f S){ops:Array Oper}{env:List AV}{a:Act}(n:RelU cx κ F U env σ a w)(B:∀j,j<16->¬U (nm+j)){o:Oper}{K:AV->jbd->Prop}{next:Act->World->Prop}{Q:Exit->Act->World->Prop}
  (c:(jb1 ty Γ ops σ env nm o).T K)
  (e:∀av δ v κ' F' w',K av δ->(∀b,F b->F' b)->Wy cx F w w'->RelU cx κ' F' (Un U nm) (putA env o.dst av) (app δ σ) (a.put o.dst v) w'->next (a.put o.dst v) w'):
  if Region.wanted o (yielded ops a.tmps)then o.wp P a w next Q else next (a.put o.dst undef) w:=by
 have i:∀s:Spec,ja4 P cx κ F w U nm σ o a.eval s->s.T K->o.wp P a w next Q:=by
  intro s hs c;obtain⟨D,hK⟩:=Spec.T_iff.1 c;refine(hs D).wp ?_;rintro v w' ⟨av,δ,κ',F',hR,l,g,C⟩;exact e av δ v κ' F' w' (hK av δ hR) l.fr l.wx ⟨n.env.put l g C,l.orel⟩
 have skip:K .und []->next (a.put o.dst undef) w:=by
  intro hK;have l:Aft cx κ F w U κ F w (Un U nm) σ:=Aft.same n.orel;exact e .und [] undef κ F w hK (fun _ h=>h) (Wx.refl _ _) ⟨n.env.put l (by unfold RV;rfl) (by unfold NB;trivial),l.orel⟩
 have p:ja4 P cx κ F w U nm σ o a.eval (spec ty Γ σ (jau env) nm o):=jod A G n.orel B (fun x=>jki n.env) (fun x=>jt2 n.env x) (fun f=>rfl);unfold jb1 at c;split at c
 ·rename_i m;rw[if_pos (by simp[Region.wanted,m])];exact i _ p c
 ·rename_i j u m;split at c
  ·exact c.elim
  ·rename_i d hd;have g:=n.env.rv d;have E:∀b,a.tmps.getD d undef=.bool b->yielded ops a.tmps j=some b:=by
    intro b hb;simp only[yielded,hd];have:a.tmps[d]? =some (.bool b):=by
     rw[Array.getD_eq_getD_getElem?]at hb;cases q:a.tmps[d]? with
     |none=>rw[q]at hb;simp[undef]at hb
     |some y=>rw[q]at hb;simpa using hb
    simp[this]
   split at c
   ·rename_i r;rw[r]at g;unfold RV at g;have z:yielded ops a.tmps j=none:=by
     simp only[yielded,hd];rw[Array.getD_eq_getD_getElem?]at g;cases q:a.tmps[d]? with
     |none=>simp[q]
     |some y=>rw[q]at g;simp at g;subst g;simp[q,undef]
    rw[if_neg (by simp[Region.wanted,m,z])];exact skip c.2
   ·rename_i b hb;rw[hb]at g;unfold RV RD at g;have k:=E b g.1;cases u<;>cases b
    ·rw[if_pos (by simp[Region.wanted,m,k])];exact i _ p c
    ·rw[if_neg (by simp[Region.wanted,m,k])];exact skip c.2
    ·rw[if_neg (by simp[Region.wanted,m,k])];exact skip c.2
    ·rw[if_pos (by simp[Region.wanted,m,k])];exact i _ p c
   ·exact c.elim

theorem jk5(g:∀t x,ty t=some x->TyOK P t x)(s:∀f S,Γ f=some S->FnOK P cx.J f S){ops:Array Oper}{Q:Exit->Act->World->Prop}{r:List AV->Objs->Nat->Prop}:
  ∀(l:List Oper)(nm:Nat)(κ:Kap)(F:Nat->Prop)(env:List AV)(σ:Objs)(a:Act)(w:World),RelU cx κ F (· <nm) env σ a w->ji3 ty Γ ops r l nm env σ->
   (∀κ' F' c σ' m a' w',r c σ' m->(∀b,F b->F' b)->Wy cx F w w'->RelU cx κ' F' (· <m) c σ' a' w'->Q .normal a' w')->wpList P ops Q l a w
 |[],nm,κ,F,env,σ,a,w,q,i,p=>wpList_nil (p κ F env σ nm a w i (fun _ h=>h) (Wx.refl _ _) q)
 |o::l,nm,κ,F,env,σ,a,w,q,i,p=>by
  refine wpList_step fun K hK=>?_;refine jem g s q (nm:=nm) (fun j _=>by omega) i ?_;intro av δ v κ' F' w' k hF D e;refine hK _ _ (jk5 g s l (nm+16) κ' F' _ _ _ w' ⟨?_,?_⟩ k ?_)
  ·have:(Un (· <nm) nm)=(· <nm+16):=by funext n;simp only[Un,eq_iff_iff];omega
   rw[<-this];exact e.env
  ·have:(Un (· <nm) nm)=(· <nm+16):=by funext n;simp only[Un,eq_iff_iff];omega
   rw[<-this];exact e.orel
  ·intro G u d H m y E z A B C;exact p G u d H m y E z (fun b hb=>A b (hF b hb)) (D.trans B (fun b hb=>hb.imp (hF b) id)) C

theorem jrs(c:∀t x,ty t=some x->TyOK P t x)(k:∀f S,Γ f=some S->FnOK P cx.J f S){Q:Exit->St->Prop}{env:List AV}{σ:Objs}{nx:Nat}{id:Nat}{l:List Oper}
  (h:ji3 ty Γ l.toArray (fun env σ m=>Q .normal ⟨env,σ,m⟩) l nx env σ):Ok P cx (.region id l.toArray false) Q ⟨env,σ,nx⟩:=by
 intro κ F a w e;refine wp_region_lit (jk5 c k l nx κ F env σ a w ⟨e.env,e.orel⟩ h ?_);intro κ' F' b σ' m a' w' g i j d;exact⟨κ',F',⟨b,σ',m⟩,g,i,j,d.env,d.orel⟩

end
end Go.Ab
