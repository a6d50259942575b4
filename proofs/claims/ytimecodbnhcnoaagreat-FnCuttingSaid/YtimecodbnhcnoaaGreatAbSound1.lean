/- My own layer, fourth part: single operations: what they leave. -/
import Derived.Test.YtimecodbnhcnoaaGreatAbOk
import Derived.Laws.AppendOwnNone
namespace Go.Ab
set_option linter.unusedVariables false
set_option linter.unusedSimpArgs false

def Out(P:Program)(o:Oper)(ρ:Operand->Value)(w:World)(R:Value->World->Prop):Prop:=
 match (execOp ρ o).run P w with
 | .ok (.value v) w'=>R v w'
 | .ok .skip w'=>R undef w'
 | .ok (.enter f args) w'=>Calls P f args w' fun e a=>∃v,e=.returned v/\ R v a
 |_=>False

theorem Out.wp{P:Program}{o:Oper}{a:Act}{w:World}{R:Value->World->Prop}{next:Act->World->Prop}{Q:Exit->Act->World->Prop}
  (h:Out P o a.eval w R) (b:∀v w',R v w'->next (a.put o.dst v) w'):o.wp P a w next Q:=by
 unfold Out at h;unfold Oper.wp;generalize(execOp a.eval o).run P w=r at*
 cases r with
 |halt x w'=>exact h.elim
 |ok n w'=>
  cases n
  case value v=>exact b _ _ h
  case skip=>exact b _ _ h
  case enter f args=>
   simp only[Oper.upon];refine Calls.mono h ?_;rintro e c ⟨v,rfl,hR⟩;exact b _ _ hR
  all_goals exact h.elim

def Un(U:Nat->Prop)(nm:Nat):Nat->Prop:=fun n=>U n \/(nm<=n/\ n<nm+16)

def SR(cx:Cx)(κ:Kap)(F:Nat->Prop)(w:World)(U:Nat->Prop)(nm:Nat)(σ:Objs)(s:Spec)(v:Value)(w':World):Prop:=
 ∃av δ κ' F',s.R av δ/\ Aft cx κ F w U κ' F' w' (Un U nm) (app δ σ)/\ RV κ' F' w' av v/\ NB (Un U nm) av

section
variable{P:Program}{cx:Cx}{κ:Kap}{F:Nat->Prop}{w:World}{U:Nat->Prop}{nm:Nat}{σ:Objs}

theorem ja3{o:Nat}(h:U o):Un U nm o:=.inl h

theorem NBo.mono{U U':Nat->Prop}(h:∀o,U o->U' o){x:Obj'}(a:NBo U x):NBo U' x:=by
 cases x with
 |box T l=>exact NBs.mono h a
 |arr e es l=>trivial
 |mp t l=>trivial
 |bld T E l g=>exact h g a
 |tab e es mask l g hole=>exact h g a

theorem ORel.un{U':Nat->Prop}(hU:∀o,U o->U' o)(h:ORel cx κ F w U σ):ORel cx κ F w U' σ:=
 ⟨h.ok,fun o x b=>⟨hU o (h.nb o x b).1,NBo.mono hU (h.nb o x b).2⟩,h.free,h.apart,h.fG,h.kB,h.gB,h.bs,h.inv,fun j a=>⟨hU j (h.lt j a).1,(h.lt j a).2⟩⟩

theorem Aft.same(h:ORel cx κ F w U σ):Aft cx κ F w U κ F w (Un U nm) σ:=
 ⟨fun _ _=>rfl,fun _ h=>h,Wx.refl _ _,fun _ h=>ja3 h,h.un fun _ h=>ja3 h⟩

theorem jat(h:ORel cx κ F w U σ){p:Prop}{rd:List Nat}{av:AV}{v:Value}(b:RV κ F w av v)(a:NB U av):SR cx κ F w U nm σ (.det p rd av []) v w:=
 ⟨av,[],κ,F,⟨rfl,rfl⟩,Aft.same h,b,NB.mono (fun _ h=>ja3 h) a⟩

theorem jam{o:Oper}{ρ:Operand->Value}{R:Value->World->Prop}{v:Value}{w':World}(h:(execOp ρ o).run P w=.ok (.value v) w')(a:R v w'):Out P o ρ w R:=by
 unfold Out;rw[h];exact a
theorem jfo{o:Oper}{ρ:Operand->Value}{R:Value->World->Prop}{w':World}(h:(execOp ρ o).run P w=.ok .skip w')(a:R undef w'):Out P o ρ w R:=by
 unfold Out;rw[h];exact a

theorem jbk(s:Sem Value){v:Value}{w':World}(h:s.run P w=.ok v w'):(do pure (.value (<-s)):Sem Next).run P w=.ok (.value v) w':=by
 simp only[Sem.run_bind,h,Result.andThen_ok,Sem.run_pure]
theorem js1(s:Sem Unit){w':World}(h:s.run P w=.ok () w'):(do s;pure .skip:Sem Next).run P w=.ok .skip w':=by
 simp only[Sem.run_bind,h,Result.andThen_ok,Sem.run_pure]

theorem je7{b:Nat}{o:Obj}(h:w.heap[b]? =some o):b<w.heap.size:=(Array.getElem?_eq_some_iff.1 h).1

theorem jrh{e:TypeId}{es:Nat}{u:Value}{l:List D}(h:jb7 F w e es u l){b:Nat}(hb:blk u=some b):b<w.heap.size:=by
 obtain⟨us,⟨_,a|⟨g,j,c,d,a,f,_⟩⟩,_⟩:=h
 ·rw[a.1]at hb;simp[blk]at hb
 ·rw[a]at hb;simp[blk]at hb;subst hb;obtain⟨_,_,i,_⟩:=f;exact je7 i

theorem jb7.mono{F':Nat->Prop}{w':World}{e:TypeId}{es:Nat}{u:Value}{l:List D}(hF:∀b,F b->F' b)(hb:∀b,F b->w'.heap[b]? =w.heap[b]?)(a:∀b,blk u=some b->w'.heap[b]? =w.heap[b]?)
  (h:jb7 F w e es u l):jb7 F' w' e es u l:=by
 obtain⟨us,⟨k,f⟩,m,n⟩:=h;refine⟨us,⟨k,?_⟩,RE.mono hF hb m,n⟩;rcases f with f|⟨g,i,c,d,j,o,p⟩
 ·exact .inl f
 ·exact .inr ⟨g,i,c,d,j,o.keep (a g (by rw[j];rfl)),p⟩

theorem TabOK.row{e:TypeId}{es:Nat}{mask:List (Option TypeId)}{l:List D}{u:Value}{r:Nat->Nat->Value}{hole:Option (Nat×Nat)}(h:TabOK F w e es mask l u r hole){k j:Nat}(q:jbv mask l.length hole k j):
  ∃d e' es' rows,l[k]? =some d/\ jao mask j=some e'/\ d.cells[j]? =some (.sl es' rows)/\ jb7 F w e' es' (r k j) rows:=by
 obtain⟨i,m,n⟩:=q;obtain⟨us,_,_,hc⟩:=h.mem;have f:l[k]? =some l[k]:=List.getElem?_eq_getElem i;have g:=h.cells k _ f;obtain⟨e',a⟩:=Option.isSome_iff_exists.1 m;have hj:j<mask.length:=by
  rcases Nat.lt_or_ge j mask.length with hj|hj
  ·exact hj
  ·unfold jao at a;rw[List.getElem?_eq_none hj]at a;cases a
 have b:j<l[k].cells.length:=by have:=h.mlen;omega
 obtain⟨x,_,_,c⟩:=hc k _ j _ f (List.getElem?_eq_getElem b);rw[a]at c;rcases c with⟨c,p|⟨es',rows,hd,o⟩⟩
 ·exact absurd p n
 ·subst c;exact⟨_,e',es',rows,f,a,by rw[List.getElem?_eq_getElem b,hd],o⟩

theorem TabOK.mono{F':Nat->Prop}{w':World}{e:TypeId}{es:Nat}{mask:List (Option TypeId)}{l:List D}{u:Value}{r:Nat->Nat->Value}{hole:Option (Nat×Nat)}(hF:∀b,F b->F' b)(hb:∀b,F b->w'.heap[b]? =w.heap[b]?)
  (f:∀b,blk u=some b->w'.heap[b]? =w.heap[b]?) (i:∀k j,jbv mask l.length hole k j->∀b,blk (r k j)=some b->w'.heap[b]? =w.heap[b]?) (h:TabOK F w e es mask l u r hole):TabOK F' w' e es mask l u r hole:=by
 obtain⟨us,⟨y,o⟩,E,hc⟩:=h.mem;refine⟨h.pos,h.mlen,h.cells,⟨us,⟨y,?_⟩,E,fun k d j c t hd=>?_⟩,h.apart,h.outer⟩
 ·rcases o with o|⟨g,s,m,n,v,G,H⟩
  ·exact .inl o
  ·exact .inr ⟨g,s,m,n,v,G.keep (f g (by rw[v];rfl)),H⟩
 ·obtain⟨x,z,A,a⟩:=hc k d j c t hd;refine⟨x,z,A,?_⟩;cases q:jao mask j with
  |none=>rw[q]at a;exact RD.mono hF hb a
  |some e'=>
   rw[q]at a;simp only[]at a ⊢;obtain⟨rfl,a⟩:=a;refine⟨rfl,?_⟩;by_cases p:hole=some (k,j)
   ·exact .inl p
   ·rcases a with a|⟨es',rows,B,C⟩
    ·exact absurd a p
    ·refine .inr ⟨es',rows,B,jb7.mono hF hb (i k j ⟨(List.getElem?_eq_some_iff.1 t).1,by rw[q];rfl,p⟩) C⟩

theorem jcx(h:ORel cx κ F w U σ){o:Nat}{x:Obj'}(A:σ o=some x){b:Nat}(hb:Blk κ o x b):b<w.heap.size:=by
 have:=h.ok o x A;cases x with
 |box T l=>
  obtain⟨n,arr,a,c,_⟩:=this;rcases hb with hb|hb
  ·rw[a]at hb;simp[blk]at hb;subst hb;exact je7 c
  ·exact hb.elim
 |arr e es l=>
  rcases hb with hb|hb
  ·exact jrh this hb
  ·exact hb.elim
 |mp t l=>
  obtain⟨n,es,f,a,c,_⟩:=(show jia w (κ o).v l from this);rcases hb with hb|hb
  ·rw[a]at hb;simp[blk]at hb;subst hb;exact je7 c
  ·exact hb.elim
 |bld T E l g=>
  obtain⟨n,p,a,c,_,u,_⟩:=(show jl2 w T E (κ o).v ((κ g).r 0 0) l from this);rcases hb with hb|hb
  ·rw[a]at hb;simp[blk]at hb;subst hb;exact je7 c
  ·have hb:blk ((κ g).r 0 0)=some b:=hb;rcases u.2 with⟨m,_⟩|⟨D,d,i,m,_,B,_⟩
   ·rw[m]at hb;simp[blk]at hb
   ·rw[m]at hb;simp[blk]at hb;subst hb;exact je7 B
 |tab e es mask l g hole=>
  have q:TabOK F w e es mask l (κ o).v (κ g).r hole:=this;rcases hb with hb|⟨k,j,z,hb⟩
  ·obtain⟨us,⟨_,a|⟨g,C,d,i,a,c,_⟩⟩,_⟩:=q.mem
   ·rw[a.1]at hb;simp[blk]at hb
   ·rw[a]at hb;simp[blk]at hb;subst hb;obtain⟨_,_,s,_⟩:=c;exact je7 s
  ·obtain⟨_,_,_,_,_,_,_,y⟩:=q.row z;exact jrh y hb

theorem MR.mono{w':World}:∀{l:List ((Int×Int)×D)}{es:List MapEntry},MR w l es->MR w' l es
 |[],_,h=>h
 |(_,_)::_,_,⟨e,es',a,b,c,d⟩=>⟨e,es',a,b,RD.mono (fun _ h=>h) (fun _ h=>h.elim) c,MR.mono d⟩
theorem jcb.mono{κ':Kap}{F':Nat->Prop}{w':World}{o:Nat}{x:Obj'}(d:∀o,U o->κ' o=κ o)(hF:∀b,F b->F' b)(hb:∀b,F b->w'.heap[b]? =w.heap[b]?)
  (hU:U o) (u:NBo U x) (a:∀b,Blk κ o x b->w'.heap[b]? =w.heap[b]?) (h:jcb κ F w o x):jcb κ' F' w' o x:=by
 cases x with
 |box T l=>
  obtain⟨b,arr,c,i,m⟩:=h;exact⟨b,arr,by rw[d o hU];exact c,by rw[a b (.inl (by rw[c];rfl))];exact i,RVc.mono d hF hb u m⟩
 |bld T E l g=>
  show jl2 w' T E (κ' o).v ((κ' g).r 0 0) l;rw[d o hU,d g u];obtain⟨b,p,c,i,m,z,A⟩:=(show jl2 w T E (κ o).v ((κ g).r 0 0) l from h);refine⟨b,p,c,by rw[a b (.inl (by rw[c];rfl))];exact i,m,⟨z.1,?_⟩,A⟩;rcases z.2 with n|⟨y,q,s,n,C,D,G⟩
  ·exact .inl n
  ·exact .inr ⟨y,q,s,n,C,by rw[a y (.inr (by show blk ((κ g).r 0 0)=_;rw[n];rfl))];exact D,G⟩
 |mp t l=>
  show jia w' (κ' o).v l;rw[d o hU];obtain⟨b,es,f,c,i,m⟩:=(show jia w (κ o).v l from h);exact⟨b,es,f,c,by rw[a b (.inl (by rw[c];rfl))];exact i,m.mono⟩
 |arr e es l=>
  show jb7 F' w' e es (κ' o).v l;rw[d o hU];exact jb7.mono hF hb (fun b hb=>a b (.inl hb)) h
 |tab e es mask l g hole=>
  show TabOK F' w' e es mask l (κ' o).v (κ' g).r hole;rw[d o hU,d g u];exact TabOK.mono hF hb (fun b hb=>a b (.inl hb)) (fun k j B b hb=>a b (.inr ⟨k,j,B,hb⟩)) h

theorem Blk.same{κ':Kap}{o:Nat}{x:Obj'}{b:Nat}(i:κ' o=κ o)(f:∀e es mask l g hole,x=.tab e es mask l g hole->κ' g=κ g)(a:∀T E l g,x=.bld T E l g->κ' g=κ g)(h:Blk κ' o x b):Blk κ o x b:=by
 unfold Blk at*
 rw[i]at h;rcases h with h|h
 ·exact .inl h
 ·right;cases x with
  |tab e es mask l g hole=>
   obtain⟨k,j,d,c⟩:=h;rw[f _ _ _ _ _ _ rfl]at c;exact⟨k,j,d,c⟩
  |bld T E l g=>
   have h:blk ((κ' g).r 0 0)=some b:=h;rw[a _ _ _ _ rfl]at h;exact h
  |_=>exact h

theorem Blk.kap{κ':Kap}{o:Nat}{x:Obj'}{b:Nat}(a:∀o,U o->κ' o=κ o)(hU:U o)(c:NBo U x)(h:Blk κ' o x b):Blk κ o x b:=
 h.same (a o hU) (fun e es mask l g hole e'=>by subst e';exact a g c) fun T E l g e'=>by subst e';exact a g c

theorem jrv(K:Nat->Prop)(hK:∀b,K b->b<w.heap.size)(o:Obj):Wx K w (w.alloc o):=
 ⟨rfl,rfl,rfl,by simp,fun k a=>Go.RowKit.Below.heap_alloc w o k (hK k a)⟩

theorem jml{nm:Nat}(a:¬U nm)(v:KV):∀o,U o->(fun n=>if n=nm then v else κ n) o=κ o:=by
 intro o b;have:o≠nm:=fun e=>a (e▸b);simp[this]

abbrev kv(v:Value):KV:=⟨v,fun _ _=>undef⟩
theorem jj6{κ':Kap}{o:Nat}{x:Obj'}{v:Value}{s b:Nat}(c:∀e es mask l g hole,x≠.tab e es mask l g hole)(a:∀T E l g,x≠.bld T E l g)(hs:blk v=some s)(h:κ' o=kv v)(hb:Blk κ' o x b):b=s:=by
 rcases hb with hb|hb
 ·rw[h]at hb;exact(Option.some.inj (hs.symm.trans hb)).symm
 ·cases x with
  |tab e es mask l g hole=>exact absurd rfl (c _ _ _ _ _ _)
  |bld T E l g=>exact absurd rfl (a _ _ _ _)
  |_=>exact hb.elim

theorem jax(o:Nat)(x:Option Obj'):upd σ o x o=x:=by simp[upd]
theorem jbz{o n:Nat}(h:n≠o)(x:Option Obj'):upd σ o x n=σ n:=by
 have:Nat.beq n o=false:=by
  cases hb:Nat.beq n o with
  |true=>exact absurd (Nat.eq_of_beq_eq_true hb) h
  |false=>rfl
 simp[upd,this]

theorem jn4(h:ORel cx κ F w U σ)(D:¬U nm){x:Obj'}{ob:Obj}{v:KV}(G:∀κ' b,κ' nm=v->Blk κ' nm x b->b=w.heap.size)
  (t:∀κ',κ' nm=v->(∀o,U o->κ' o=κ o)->jcb κ' F (w.alloc ob) nm x) (E:NBo U x):
  Aft cx κ F w U (fun n=>if n=nm then v else κ n) F (w.alloc ob) (Un U nm) (upd σ nm (some x)):=by
 have l:=jml (κ:=κ) D v;have k:∀b,F b->(w.alloc ob).heap[b]? =w.heap[b]?:=fun b hb=>Go.RowKit.Below.heap_alloc w _ b (h.fG b hb).2;have g:∀o y,upd σ nm (some x) o=some y->o≠nm->σ o=some y:=fun o y d a=>by rwa [jbz a]at d
 have f:∀o y,upd σ nm (some x) o=some y->∀b,Blk (fun n=>if n=nm then v else κ n) o y b->
   (o=nm/\ b=w.heap.size) \/(o≠nm/\ σ o=some y/\ Blk κ o y b/\ b<w.heap.size):=fun o y d b hb=>by
  by_cases a:o=nm
  ·subst a;rw[jax]at d;cases d;exact .inl ⟨rfl,G _ b (by simp) hb⟩
  ·have c:=g o y d a;have i:=h.nb o y c;have e:=hb.kap l i.1 i.2;exact .inr ⟨a,c,e,jcx h c e⟩
 refine⟨l,fun _ hb=>hb,jrv _ (fun b hb=>?_) _,fun _ m=>ja3 m,?_,?_,?_,?_,fun b hb=>⟨(h.fG b hb).1,by have:=(h.fG b hb).2;simp;omega⟩,h.kB,h.gB,by have:=h.bs;simp;omega,h.inv.mono (fun _ hb=>hb) k,fun j s=>⟨ja3 (h.lt j s).1,(congrArg KV.v (l j (h.lt j s).1)).trans (h.lt j s).2⟩⟩
 ·rcases hb with hb|hb
  ·exact(h.fG b hb).2
  ·exact Nat.lt_of_lt_of_le (h.kB b hb) h.bs
 ·intro o y d;by_cases a:o=nm
  ·subst a;rw[jax]at d;cases d;exact t _ (by simp) l
  ·have c:=g o y d a;have i:=h.nb o y c;exact jcb.mono l (fun _ hb=>hb) k i.1 i.2 (fun b hb=>Go.RowKit.Below.heap_alloc w _ b (jcx h c hb)) (h.ok o y c)
 ·intro o y d;by_cases a:o=nm
  ·subst a;rw[jax]at d;cases d;exact⟨.inr ⟨Nat.le_refl _,by omega⟩,NBo.mono (fun _ m=>ja3 m) E⟩
  ·have i:=h.nb o y (g o y d a);exact⟨ja3 i.1,NBo.mono (fun _ m=>ja3 m) i.2⟩
 ·intro o y d b hb;rcases f o y d b hb with⟨_,rfl⟩|⟨_,c,e,_⟩
  ·exact⟨fun hF=>by have:=(h.fG _ hF).2;omega,fun hK=>by have:=h.kB _ hK;have:=h.bs;omega,h.gB _ h.bs⟩
  ·exact h.free o y c b e
 ·intro o y o' u d c a b hb e;rcases f o y d b hb with⟨z,I⟩|⟨z,B,C,H⟩
  ·rcases f o' u c b e with⟨p,A⟩|⟨p,_,_,A⟩
   ·exact a (z.trans p.symm)
   ·omega
  ·rcases f o' u c b e with⟨p,A⟩|⟨p,q,r,_⟩
   ·omega
   ·exact h.apart o y o' u B q a b C r

theorem jmz(h:ORel cx κ F w U σ)(d:¬U nm){x:Obj'}{c:Array Value}{e:TypeId}{v:KV}(g:∀κ' b,κ' nm=v->Blk κ' nm x b->b=w.heap.size)
  (a:∀κ',κ' nm=v->(∀o,U o->κ' o=κ o)->jcb κ' F (w.alloc (.cells c e)) nm x) (f:NBo U x):
  Aft cx κ F w U (fun n=>if n=nm then v else κ n) F (w.alloc (.cells c e)) (Un U nm) (upd σ nm (some x)):=jn4 h d g a f

theorem jf0(h:ORel cx κ F w U σ){o:Nat}{x y:Obj'}(s:σ o=some x){w':World}(C:w'.os=w.os)(m:w'.tape=w.tape)(p:w'.output=w.output)(d:w.heap.size<=w'.heap.size)
  (c:∀b,b<w.heap.size->¬Blk κ o x b->w'.heap[b]? =w.heap[b]?) (q:∀b,Blk κ o y b->Blk κ o x b) (B:jcb κ F w' o y) (O:NBo U y):
  Aft cx κ F w U κ F w' (Un U nm) (upd σ o (some y)):=by
 have H:∀b,Blk κ o x b->¬F b/\ ¬cx.K b/\ cx.G b:=h.free o x s;have l:∀b,F b->w'.heap[b]? =w.heap[b]?:=fun b hb=>c b (h.fG b hb).2 fun e=>(H b e).1 hb;have k:∀o' z,upd σ o (some y) o'=some z->o'≠o->σ o'=some z:=fun o' z g a=>by rwa [jbz a]at g
 have f:∀o' z,upd σ o (some y) o'=some z->∃t,σ o'=some t/\ ∀b,Blk κ o' z b->Blk κ o' t b:=fun o' z g=>by
  by_cases a:o'=o
  ·subst a;rw[jax]at g;cases g;exact⟨x,s,q⟩
  ·exact⟨z,k o' z g a,fun _ h=>h⟩
 refine⟨fun _ _=>rfl,fun _ hb=>hb,⟨C,m,p,d,fun b hb=>?_⟩,fun _ n=>ja3 n,?_,?_,?_,?_,fun b hb=>⟨(h.fG b hb).1,Nat.lt_of_lt_of_le (h.fG b hb).2 d⟩,h.kB,h.gB,Nat.le_trans h.bs d,h.inv.mono (fun _ hb=>hb) l,fun j I=>⟨ja3 (h.lt j I).1,(h.lt j I).2⟩⟩
 ·rcases hb with hb|hb
  ·exact l b hb
  ·exact c b (Nat.lt_of_lt_of_le (h.kB b hb) h.bs) fun e=>(H b e).2.1 hb
 ·intro o' z g;by_cases a:o'=o
  ·subst a;rw[jax]at g;cases g;exact B
  ·have i:=k o' z g a;have r:=h.nb o' z i;exact jcb.mono (fun _ _=>rfl) (fun _ hb=>hb) l r.1 r.2 (fun b hb=>c b (jcx h i hb) fun e=>h.apart o x o' z s i (Ne.symm a) b e hb) (h.ok o' z i)
 ·intro o' z g;by_cases a:o'=o
  ·subst a;rw[jax]at g;cases g;exact⟨ja3 (h.nb o' x s).1,NBo.mono (fun _ n=>ja3 n) O⟩
  ·have r:=h.nb o' z (k o' z g a);exact⟨ja3 r.1,NBo.mono (fun _ n=>ja3 n) r.2⟩
 ·intro o' z g b hb;obtain⟨t,i,hs⟩:=f o' z g;exact h.free o' t i b (hs b hb)
 ·intro J R L S M N a b hb A;obtain⟨D,u,s1⟩:=f J R M;obtain⟨E,v,Q⟩:=f L S N;exact h.apart J D L E u v a b (s1 b hb) (Q b A)

theorem jkv{p:Prop}{rd:List Nat}{x:Obj'}{κ':Kap}{w':World}(h:Aft cx κ F w U κ' F w' (Un U nm) (upd σ nm (some x))){av:AV}{v:Value}(b:RV κ' F w' av v)(a:NB (Un U nm) av):
  SR cx κ F w U nm σ (.det p rd av [(nm,some x)]) v w':=
 ⟨av,_,κ',F,⟨rfl,rfl⟩,h,b,a⟩

theorem jpt(o i:Nat)(h:Un U nm o):NB (Un U nm) (.ref o i):=by unfold NB;exact h
theorem jb3(o:Nat)(h:Un U nm o):NB (Un U nm) (.own o):=by unfold NB;exact h

theorem jbl:Un U nm nm:=.inr ⟨Nat.le_refl _,by omega⟩

theorem jkk:∀{l:List D},NBs U (l.map .dat)
 |[]=>by simp only[List.map_nil];unfold NBs;trivial
 |d::l=>by simp only[List.map_cons];unfold NBs;exact⟨by unfold NB;trivial,jkk⟩

theorem jn7{l:List D}{us:List Value}(h:RC F w l us):RVc κ F w (l.map .dat) us:=by
 induction l generalizing us with
 |nil=>unfold RC at h;simp only[List.map_nil];unfold RVc;exact h
 |cons d l g=>
  unfold RC at h;obtain⟨u,a,b,c,e,f⟩:=h;simp only[List.map_cons];unfold RVc;exact⟨u,a,b,c,by unfold RV;exact e,g f⟩

theorem jq9{v:Value}(h:one v=true):v.cells= #[v]:=by
 cases v<;>simp_all[one,Value.cells]

theorem js3{d:D}{v:Value}(h:RD F w d v)(hd:∀l,d≠.agg l):one v=true:=by
 cases d with
 |sc u=>unfold RD at h;rw[h.1];exact h.2
 |sl es l=>unfold RD at h;obtain⟨a,b,c,_⟩:=h;rw[c];rfl
 |agg l=>exact absurd rfl (hd l)

theorem jdm{x:AV}{cs:List AV}{v:Value}(h:x.cells=some cs)(q:RV κ F w x v)(r:NB U x):RVc κ F w cs v.cells.toList/\ NBs U cs:=by
 have e:∀{y:AV},one v=true->RV κ F w y v->NB U y->RVc κ F w [y] v.cells.toList/\ NBs U [y]:=fun{y} p t z=>by
  rw[jq9 p];exact⟨by unfold RVc;exact⟨v,[],rfl,p,t,by unfold RVc;rfl⟩,by unfold NBs;exact⟨z,by unfold NBs;trivial⟩⟩
 cases x with
 |dat d=>
  cases d with
  |agg l=>
   simp only[AV.cells,Option.some.injEq]at h;subst h;unfold RV RD at q;obtain⟨c,rfl,hc⟩:=q;exact⟨jn7 hc,jkk⟩
  |sc u=>
   simp only[AV.cells,Option.some.injEq]at h;subst h;exact e (js3 (by unfold RV at q;exact q) (by simp)) q r
  |sl es l=>
   simp only[AV.cells,Option.some.injEq]at h;subst h;exact e (js3 (by unfold RV at q;exact q) (by simp)) q r
 |own o=>
  simp only[AV.cells,Option.some.injEq]at h;subst h;have p:=q;unfold RV at p;exact e p.2 q r
 |ref o i=>
  simp only[AV.cells,Option.some.injEq]at h;subst h;have p:=q;unfold RV at p;obtain⟨b,_,rfl⟩:=p;exact e rfl q r
 |eref o es k j=>
  simp only[AV.cells,Option.some.injEq]at h;subst h;have p:=q;unfold RV at p;obtain⟨b,f,n,s,_,rfl⟩:=p;exact e rfl q r
 |row o g k j=>
  simp only[AV.cells,Option.some.injEq]at h;subst h;have p:=q;unfold RV at p;exact e p.2 q r
 |rref o g k j es i c=>
  simp only[AV.cells,Option.some.injEq]at h;subst h;have p:=q;unfold RV at p;obtain⟨b,f,n,s,_,rfl⟩:=p;exact e rfl q r
 |vw o g k j es lo n=>
  simp only[AV.cells,Option.some.injEq]at h;subst h;have p:=q;unfold RV at p;obtain⟨a,m,s,_,_,_,_,rfl⟩:=p;exact e rfl q r
 |fp l=>
  simp only[AV.cells,Option.some.injEq]at h;subst h;have p:=q;unfold RV at p;obtain⟨b,A,us,rfl,_⟩:=p;exact e rfl q r
 |aggv l=>
  simp only[AV.cells,Option.some.injEq]at h;subst h;unfold RV at q;unfold NB at r;obtain⟨c,rfl,hc⟩:=q;exact⟨hc,r⟩
 |tup l=>simp[AV.cells]at h
 |fn f l=>
  simp only[AV.cells,Option.some.injEq]at h;subst h;have p:=q;unfold RV at p;obtain⟨cs,rfl,_⟩:=p;exact e rfl q r
 |und=>simp[AV.cells]at h
 |unk=>simp[AV.cells]at h

end
end Go.Ab
