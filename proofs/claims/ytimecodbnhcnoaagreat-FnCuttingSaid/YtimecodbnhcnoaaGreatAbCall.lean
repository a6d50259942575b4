/- My own layer, tenth part: calls by contract; regions. -/
import Derived.Test.YtimecodbnhcnoaaGreatAbTab8
namespace Go.Ab
set_option linter.unusedVariables false
set_option linter.unusedSimpArgs false

mutual
def ptAV:Pt->D->Nat->AV
 | .rd,d,_=>.dat d
 | .zr,d,_=>.dat d
 | .sl,_,k=>.own k
 | .bx,_,k=>.ref k 0
 | .bo _,_,k=>.ref k 0
 | .ag l,.agg ds,k=>.aggv (ja1 l ds k)
 | .fn f l,.agg ds,k=>.fn f (ja1 l ds k)
 |_,_,_=>.unk
def ja1:List Pt->List D->Nat->List AV
 |[],_,_=>[]
 |p::ls,d::ds,k=>ptAV p d k::ja1 ls ds (k+p.n)
 |_::ls,[],k=>.unk::ja1 ls [] k
end
def jsq(κ:Kap)(F:Nat->Prop)(w:World)(ls:List Pt)(ds:List D)(k:Nat)(vs:List Value):Prop:=RVs κ F w (ja1 ls ds k) vs

structure RNew(κ:Kap)(F:Nat->Prop)(w:World)(M:Nat->Prop)(m:Nat)(obs:List Obj'):Prop where
 ok:∀j x,obs[j]? =some x->jcb κ F w j (x.regen j)/\ NBl m x
 blk:∀j x,obs[j]? =some x->∀b,Blk κ j (x.regen j) b->M b
 apart:∀i x j y,obs[i]? =some x->obs[j]? =some y->i≠j->∀b,Blk κ i (x.regen i) b->¬Blk κ j (y.regen j) b

def Lent(κ:Kap)(obs:List Obj')(b:Nat):Prop:=∃j x,obs[j]? =some x/\ Blk κ j (x.regen j) b

structure Ret(S:FnSpec)(ds:List D)(obs:List Obj')(κ:Kap)(F:Nat->Prop)(w:World)(v:Value)(w':World)(r:AV)(ns obs':List Obj')(κ' κl:Kap)(F':Nat->Prop):Prop where
 post:S.post ds obs r ns obs'
 fr:∀b,F b->F' b
 fr':∀b,F' b->F b \/Lent κ obs b \/w.heap.size<=b
 flt:∀b,F' b->b<w'.heap.size
 wx:Wx (fun b=>b<w.heap.size/\ ¬Lent κ obs b) w w'
 rv:RV κ' F' w' r v
 nb:NB (· <ns.length) r
 apart:∀(i:Nat)(x:Obj')(j:Nat)(y:Obj'),obs'[i]? =some x->ns[j]? =some y->∀b,Blk κl i (x.regen i) b->¬Blk κ' j (y.regen j) b
 new:RNew κ' F' w' (fun b=>(Lent κ obs b \/w.heap.size<=b)/\ ¬F' b) ns.length ns
 lent:RNew κl F' w' (fun b=>(Lent κ obs b \/w.heap.size<=b)/\ ¬F' b) (obs'.length+ns.length) obs'
 lk:∀i,i<ns.length->(κl (obs'.length+i)).v=(κ' i).v
 lv:∀j,j<obs'.length->(κl j).v=(κ j).v

def FnOK(P:Program)(J:Inv)(f:Nat)(S:FnSpec):Prop:=
 (∀args w,(callFunc f args).run P w=.ok (.enter f args) w)/\
 ∀(vs:List Value)(w:World)(F:Nat->Prop)(ds:List D)(obs:List Obj')(κ:Kap),S.pre ds obs->jsq κ F w S.lend ds 0 vs->(∀b,F b->b<w.heap.size)->JOK J F w->
  RNew κ F w (fun b=>b<w.heap.size/\ ¬F b) obs.length obs->
  Calls P f vs.toArray w fun e w'=>∃v,e=.returned v/\ ∃r new obs' κ' κl F',Ret S ds obs κ F w v w' r new obs' κ' κl F'

section
variable{P:Program}{cx:Cx}{κ:Kap}{F:Nat->Prop}{w:World}{U:Nat->Prop}{nm:Nat}{σ:Objs}{ty:TypeId->Option TyE}{Γ:Nat->Option FnSpec}

theorem RC.flat{F':Nat->Prop}{w':World}:∀{l:List D}{us:List Value},(∀d∈l,∃v,d=.sc v)->RC F w l us->RC F' w' l us
 |[],us,_,h=>by unfold RC at h ⊢;exact h
 |d::ds,us,c,h=>by
  unfold RC at h ⊢;obtain⟨u,a,e,f,b,g⟩:=h;obtain⟨v,rfl⟩:=c d (List.mem_cons_self ..);unfold RD at b;exact⟨u,a,e,f,by unfold RD;exact b,RC.flat (fun d hd=>c d (List.mem_cons_of_mem _ hd)) g⟩
theorem RD.flat{F':Nat->Prop}{w':World}{d:D}{v:Value}(hd:jf3 d)(h:RD F w d v):RD F' w' d v:=by
 cases d with
 |sc u=>unfold RD at h ⊢;exact h
 |sl es l=>exact hd.elim
 |agg l=>
  unfold RD at h ⊢;obtain⟨cs,a,b⟩:=h;exact⟨cs,a,RC.flat hd b⟩
theorem RE.flat{F':Nat->Prop}{w':World}{es:Nat}:∀{l:List D}{us:List Value},(∀d∈l,jf3 d)->RE F w es l us->RE F' w' es l us
 |[],us,_,h=>by unfold RE at h ⊢;exact h
 |d::ds,us,b,h=>by
  obtain⟨u,g,rfl,c,a,f⟩:=h.cons;refine RE.mk c ?_ (RE.flat (fun d hd=>b d (List.mem_cons_of_mem _ hd)) f);have hd:=b d (List.mem_cons_self ..);cases d with
  |sc v=>exact RC.flat (by simp[D.cells]) a
  |sl e l=>exact hd.elim
  |agg l=>exact RC.flat hd a
theorem RV.flatC{F':Nat->Prop}{w':World}{x:AV}{v:Value}(a:jo0 x)(h:RV κ F w x v):RV κ F' w' x v:=by
 cases x with
 |dat d=>unfold RV at h ⊢;exact RD.flat a h
 |own o=>unfold RV at h ⊢;exact h
 |_=>exact a.elim
theorem RVc.flat{F':Nat->Prop}{w':World}:∀{l:List AV}{us:List Value},(∀x∈l,jo0 x)->RVc κ F w l us->RVc κ F' w' l us
 |[],us,_,h=>by unfold RVc at h ⊢;exact h
 |x::l,us,b,h=>by
  unfold RVc at h ⊢;obtain⟨u,a,c,e,f,g⟩:=h;exact⟨u,a,c,e,RV.flatC (b x (List.mem_cons_self ..)) f,RVc.flat (fun d hd=>b d (List.mem_cons_of_mem _ hd)) g⟩
theorem RV.flatE{F':Nat->Prop}{w':World}{x:AV}{v:Value}(a:jrt x)(h:RV κ F w x v):RV κ F' w' x v:=by
 cases x with
 |aggv l=>
  unfold RV at h ⊢;obtain⟨cs,b,c⟩:=h;exact⟨cs,b,RVc.flat a c⟩
 |_=>exact RV.flatC a h
theorem RVs.flat{F':Nat->Prop}{w':World}:∀{l:List AV}{us:List Value},(∀x∈l,jrt x)->RVs κ F w l us->RVs κ F' w' l us
 |[],us,_,h=>by unfold RVs at h ⊢;exact h
 |x::l,us,b,h=>by
  unfold RVs at h ⊢;obtain⟨u,a,c,e,f⟩:=h;exact⟨u,a,c,RV.flatE (b x (List.mem_cons_self ..)) e,RVs.flat (fun d hd=>b d (List.mem_cons_of_mem _ hd)) f⟩
theorem RV.flat{F':Nat->Prop}{w':World}{x:AV}{v:Value}(a:jn9 x)(h:RV κ F w x v):RV κ F' w' x v:=by
 cases x with
 |tup l=>
  unfold RV at h ⊢;obtain⟨cs,b,c⟩:=h;exact⟨cs,b,RVs.flat a c⟩
 |_=>exact RV.flatE a h
theorem jb7.flat{F':Nat->Prop}{e:TypeId}{es:Nat}{u:Value}{l:List D}(f:∀d∈l,jf3 d)(h:jb7 F w e es u l):jb7 F' w e es u l:=by
 obtain⟨us,a,b,c⟩:=h;exact⟨us,a,RE.flat f b,c⟩
theorem TabOK.flat{F':Nat->Prop}{e:TypeId}{es:Nat}{mask:List (Option TypeId)}{l:List D}{u:Value}{r:Nat->Nat->Value}{hole:Option (Nat×Nat)}(v:∀d∈l,jsr mask d)(h:TabOK F w e es mask l u r hole):TabOK F' w e es mask l u r hole:=by
 refine⟨h.pos,h.mlen,h.cells,?_,h.apart,h.outer⟩;obtain⟨us,q,s,t⟩:=h.mem;refine⟨us,q,s,fun k d j c i hc=>?_⟩;obtain⟨x,n,o,a⟩:=t k d j c i hc;have b:=v d (List.mem_of_getElem? i) j c hc;refine⟨x,n,o,?_⟩;cases m:jao mask j with
 |none=>
  rw[m]at a b;exact RD.flat b a
 |some e'=>
  rw[m]at a b;rcases a with⟨g,a|⟨es',rows,f,p⟩⟩
  ·exact⟨g,.inl a⟩
  ·exact⟨g,.inr ⟨es',rows,f,p.flat (b es' rows f)⟩⟩

mutual
def NR(V:Nat->Prop):AV->Prop
 | .own o| .ref o _| .eref o _ _ _=>V o
 | .aggv l| .tup l| .fn _ l=>NRs V l
 |_=>True
def NRs(V:Nat->Prop):List AV->Prop
 |[]=>True
 |x::l=>NR V x/\ NRs V l
end
mutual
theorem NB.nr{V:Nat->Prop}:∀{x:AV},NB V x->NR V x
 | .dat _,h=>by unfold NR;trivial
 | .own o,h=>by unfold NB at h;unfold NR;exact h
 | .ref o _,h=>by unfold NB at h;unfold NR;exact h
 | .eref o _ _ _,h=>by unfold NB at h;unfold NR;exact h
 | .row _ _ _ _,h=>by unfold NR;trivial
 | .rref _ _ _ _ _ _ _,h=>by unfold NR;trivial
 | .vw _ _ _ _ _ _ _,h=>by unfold NR;trivial
 | .fp _,h=>by unfold NR;trivial
 | .aggv l,h=>by unfold NB at h;unfold NR;exact NBs.nr h
 | .tup l,h=>by unfold NB at h;unfold NR;exact NBs.nr h
 | .fn _ l,h=>by unfold NB at h;unfold NR;exact NBs.nr h
 | .und,h=>by unfold NR;trivial
 | .unk,h=>by unfold NR;trivial
theorem NBs.nr{V:Nat->Prop}:∀{l:List AV},NBs V l->NRs V l
 |[],_=>by unfold NRs;trivial
 |x::l,h=>by unfold NBs at h;unfold NRs;exact⟨NB.nr h.1,NBs.nr h.2⟩
end
mutual
theorem NR.mono{V a:Nat->Prop}(hV:∀o,V o->a o):∀{x:AV},NR V x->NR a x
 | .dat _,h=>by unfold NR;trivial
 | .own o,h=>by unfold NR at h ⊢;exact hV o h
 | .ref o _,h=>by unfold NR at h ⊢;exact hV o h
 | .eref o _ _ _,h=>by unfold NR at h ⊢;exact hV o h
 | .row _ _ _ _,h=>by unfold NR;trivial
 | .rref _ _ _ _ _ _ _,h=>by unfold NR;trivial
 | .vw _ _ _ _ _ _ _,h=>by unfold NR;trivial
 | .fp _,h=>by unfold NR;trivial
 | .aggv l,h=>by unfold NR at h ⊢;exact NRs.mono hV h
 | .tup l,h=>by unfold NR at h ⊢;exact NRs.mono hV h
 | .fn _ l,h=>by unfold NR at h ⊢;exact NRs.mono hV h
 | .und,h=>by unfold NR;trivial
 | .unk,h=>by unfold NR;trivial
theorem NRs.mono{V a:Nat->Prop}(hV:∀o,V o->a o):∀{l:List AV},NRs V l->NRs a l
 |[],_=>by unfold NRs;trivial
 |x::l,h=>by unfold NRs at h ⊢;exact⟨NR.mono hV h.1,NRs.mono hV h.2⟩
end
mutual
theorem NR.of_ren{V:Nat->Prop}{f:Nat->Nat}:∀{x:AV},NB V (x.ren f)->NR (fun o=>V (f o)) x
 | .dat _,h=>by unfold NR;trivial
 | .own o,h=>by unfold AV.ren NB at h;unfold NR;exact h
 | .ref o _,h=>by unfold AV.ren NB at h;unfold NR;exact h
 | .eref o _ _ _,h=>by unfold AV.ren NB at h;unfold NR;exact h
 | .row _ _ _ _,h=>by unfold NR;trivial
 | .rref _ _ _ _ _ _ _,h=>by unfold NR;trivial
 | .vw _ _ _ _ _ _ _,h=>by unfold NR;trivial
 | .fp _,h=>by unfold NR;trivial
 | .aggv l,h=>by unfold AV.ren NB at h;unfold NR;exact NRs.of_ren h
 | .tup l,h=>by unfold AV.ren NB at h;unfold NR;exact NRs.of_ren h
 | .fn _ l,h=>by unfold AV.ren NB at h;unfold NR;exact NRs.of_ren h
 | .und,h=>by unfold NR;trivial
 | .unk,h=>by unfold NR;trivial
theorem NRs.of_ren{V:Nat->Prop}{f:Nat->Nat}:∀{l:List AV},NBs V (rens f l)->NRs (fun o=>V (f o)) l
 |[],_=>by unfold NRs;trivial
 |x::l,h=>by unfold rens NBs at h;unfold NRs;exact⟨NR.of_ren h.1,NRs.of_ren h.2⟩
end
mutual
theorem NR.nb{V:Nat->Prop}{f:Nat->Nat}:∀{x:AV},NR (fun o=>V (f o)) x->NB V (x.ren f)
 | .dat _,h=>by unfold AV.ren NB;trivial
 | .own o,h=>by unfold NR at h;unfold AV.ren NB;exact h
 | .ref o _,h=>by unfold NR at h;unfold AV.ren NB;exact h
 | .eref o _ _ _,h=>by unfold NR at h;unfold AV.ren NB;exact h
 | .row _ _ _ _,h=>by unfold AV.ren NB;trivial
 | .rref _ _ _ _ _ _ _,h=>by unfold AV.ren NB;trivial
 | .vw _ _ _ _ _ _ _,h=>by unfold AV.ren NB;trivial
 | .fp _,h=>by unfold AV.ren NB;trivial
 | .aggv l,h=>by unfold NR at h;unfold AV.ren NB;exact NRs.nb h
 | .tup l,h=>by unfold NR at h;unfold AV.ren NB;exact NRs.nb h
 | .fn _ l,h=>by unfold NR at h;unfold AV.ren NB;exact NRs.nb h
 | .und,h=>by unfold AV.ren NB;trivial
 | .unk,h=>by unfold AV.ren NB;trivial
theorem NRs.nb{V:Nat->Prop}{f:Nat->Nat}:∀{l:List AV},NRs (fun o=>V (f o)) l->NBs V (rens f l)
 |[],_=>by unfold rens NBs;trivial
 |x::l,h=>by unfold NRs at h;unfold rens NBs;exact⟨NR.nb h.1,NRs.nb h.2⟩
end
mutual
theorem RV.ren{κ':Kap}{F':Nat->Prop}{f:Nat->Nat}(hF:∀b,F b->F' b):∀{x:AV}{v:Value},NR (fun o=>(κ' (f o)).v=(κ o).v) x->RV κ F w x v->RV κ' F' w (x.ren f) v
 | .dat d,v,_,h=>by unfold AV.ren;unfold RV at h ⊢;exact RD.mono hF (fun _ _=>rfl) h
 | .own o,v,a,h=>by unfold NR at a;unfold AV.ren;unfold RV at h ⊢;rw[a];exact h
 | .ref o i,v,a,h=>by unfold NR at a;unfold AV.ren;unfold RV at h ⊢;rw[a];exact h
 | .eref o es k j,v,a,h=>by unfold NR at a;unfold AV.ren;unfold RV at h ⊢;rw[a];exact h
 | .row _ _ _ _,v,_,h=>by unfold AV.ren RV;trivial
 | .rref _ _ _ _ _ _ _,v,_,h=>by unfold AV.ren RV;trivial
 | .vw _ _ _ _ _ _ _,v,_,h=>by unfold AV.ren RV;trivial
 | .fp ds,v,_,h=>by
  unfold AV.ren;unfold RV at h ⊢;obtain⟨b,m,us,c,e,n,p⟩:=h;exact⟨b,m,us,c,hF b e,n,RC.mono hF (fun _ _=>rfl) p⟩
 | .aggv l,v,a,h=>by
  unfold NR at a;unfold AV.ren;unfold RV at h ⊢;obtain⟨cs,c,e⟩:=h;exact⟨cs,c,RVc.ren hF a e⟩
 | .tup l,v,a,h=>by
  unfold NR at a;unfold AV.ren;unfold RV at h ⊢;obtain⟨cs,c,e⟩:=h;exact⟨cs,c,RVs.ren hF a e⟩
 | .fn g l,v,a,h=>by
  unfold NR at a;unfold AV.ren;unfold RV at h ⊢;obtain⟨cs,c,e⟩:=h;exact⟨cs,c,RVs.ren hF a e⟩
 | .und,v,_,h=>by unfold AV.ren;unfold RV at h ⊢;exact h
 | .unk,v,_,h=>by unfold AV.ren RV;trivial
theorem RVs.ren{κ':Kap}{F':Nat->Prop}{f:Nat->Nat}(hF:∀b,F b->F' b):∀{l:List AV}{us:List Value},NRs (fun o=>(κ' (f o)).v=(κ o).v) l->RVs κ F w l us->RVs κ' F' w (rens f l) us
 |[],us,_,h=>by unfold rens;unfold RVs at h ⊢;exact h
 |x::l,us,a,h=>by
  unfold NRs at a;unfold rens;unfold RVs at h ⊢;obtain⟨u,c,d,e,g⟩:=h;exact⟨u,c,d,RV.ren hF a.1 e,RVs.ren hF a.2 g⟩
theorem RVc.ren{κ':Kap}{F':Nat->Prop}{f:Nat->Nat}(hF:∀b,F b->F' b):∀{l:List AV}{us:List Value},NRs (fun o=>(κ' (f o)).v=(κ o).v) l->RVc κ F w l us->RVc κ' F' w (rens f l) us
 |[],us,_,h=>by unfold rens;unfold RVc at h ⊢;exact h
 |x::l,us,c,h=>by
  unfold NRs at c;unfold rens;unfold RVc at h ⊢;obtain⟨u,d,e,a,g,i⟩:=h;exact⟨u,d,e,a,RV.ren hF c.1 g,RVc.ren hF c.2 i⟩
end
theorem jlh:∀{ns:List Nat}{o:Nat},ixN ns o<ns.length->ns[ixN ns o]? =some o
 |[],o,h=>by simp[ixN]at h
 |a::r,o,h=>by
  unfold ixN at h ⊢;cases hb:Nat.beq a o with
  |true=>have:=Nat.eq_of_beq_eq_true hb;subst this;rfl
  |false=>
   rw[hb]at h;simp only[cond_false,List.length_cons,Nat.add_lt_add_iff_right]at h;simpa using jlh (o:=o) h

theorem jcb.turnL{κ':Kap}{F':Nat->Prop}{o o' g d L:Nat}{x:Obj'}{f:Nat->Nat}(c:(κ' o').v=(κ o).v)(n:(κ' d).r=(κ g).r)(u:NBl L x)(s:∀j,j<L->(κ' (f j)).v=(κ j).v)(hF:(∀b,F b->F' b) \/jcn x)(h:jcb κ F w o (x.regen g)):jcb κ' F' w o' ((x.ren f).regen d):=by
 cases x with
 |box T l=>
  obtain⟨b,arr,k,m,i⟩:=h;refine⟨b,arr,by rw[c];exact k,m,?_⟩;have a:NRs (fun o=>(κ' (f o)).v=(κ o).v) l:=NRs.mono s (NBs.nr u);rcases hF with hF|hF
  ·exact RVc.ren hF a i
  ·exact RVc.ren (fun _ hb=>hb) a (RVc.flat hF i)
 |bld T E l q=>
  show jl2 w T E (κ' o').v ((κ' d).r 0 0) l;rw[c,n];exact h
 |mp t l=>
  show jia w (κ' o').v l;rw[c];exact h
 |arr e es l=>
  show jb7 F' w e es (κ' o').v l;have h:jb7 F w e es (κ o).v l:=h;rw[c];rcases hF with hF|hF
  ·obtain⟨us,k,m,i⟩:=h;exact⟨us,k,RE.mono hF (fun _ _=>rfl) m,i⟩
  ·exact h.flat hF
 |tab e es mask l q hole=>
  have p:TabOK F w e es mask l (κ o).v (κ g).r hole:=h;show TabOK F' w e es mask l (κ' o').v (κ' d).r hole;rw[c,n];rcases hF with hF|hF
  ·exact p.mono hF (fun _ _=>rfl) (fun _ _=>rfl) (fun _ _ _ _ _=>rfl)
  ·exact p.flat hF
theorem Blk.turnL{κ':Kap}{o o' g c b:Nat}{x:Obj'}{f:Nat->Nat}(a:(κ' o').v=(κ o).v)(d:(κ' c).r=(κ g).r)(h:Blk κ' o' ((x.ren f).regen c) b):Blk κ o (x.regen g) b:=by
 cases x with
 |tab e es mask l q hole=>
  rcases h with h|⟨k,i,j,m⟩
  ·exact .inl (by rw[<-a];exact h)
  ·exact .inr ⟨k,i,j,by rw[<-d];exact m⟩
 |bld T E l q=>
  rcases h with h|h
  ·exact .inl (by rw[<-a];exact h)
  ·refine .inr ?_;show blk ((κ g).r 0 0)=some b;rw[<-d];exact h
 |_=>
  rcases h with h|h
  ·exact .inl (by rw[<-a];exact h)
  ·exact h.elim
theorem NBl.nbo{x:Obj'}{n L:Nat}{f:Nat->Nat}(hU:U n)(a:∀j,j<L->U (f j))(h:NBl L x):NBo U ((x.ren f).regen n):=by
 cases x with
 |box T l=>exact NRs.nb (NRs.mono a (NBs.nr h))
 |arr e es l=>trivial
 |mp t l=>trivial
 |bld T E l g=>exact hU
 |tab e es mask l g hole=>exact hU

theorem NBl.nbo0{x:Obj'}{n L:Nat}(hU:U n)(a:∀j,j<L->U j)(h:NBl L x):NBo U (x.regen n):=by
 cases x with
 |box T l=>exact NBs.mono a h
 |arr e es l=>trivial
 |mp t l=>trivial
 |bld T E l g=>exact hU
 |tab e es mask l g hole=>exact hU

def tk(κ:Kap)(σ:Objs)(n:Nat):KV:=match σ n with
 |some (.tab _ _ _ _ g _)=>⟨(κ n).v,(κ g).r⟩
 |some (.bld _ _ _ g)=>⟨(κ n).v,(κ g).r⟩
 |some (.box _ _)=>⟨(κ n).v,fun _ _=>.slice none 0 0⟩
 |_=>κ n
theorem tk_v(κ:Kap)(σ:Objs)(n:Nat):(tk κ σ n).v=(κ n).v:=by
 unfold tk;split<;>rfl
theorem jcb.named{a:Kap}{F':Nat->Prop}{n j L:Nat}{y:Obj'}{f:Nat->Nat}(i:σ n=some y)(u:NBl L ((y.ren f).regen 0))(d:a j=tk κ σ n)(q:∀o,f o<L->(a (f o)).v=(κ o).v)(hF:∀b,F b->F' b)(h:jcb κ F w n y):jcb a F' w j (((y.ren f).regen 0).regen j):=by
 cases y with
 |box T l=>
  obtain⟨b,arr,k,m,p⟩:=h;exact⟨b,arr,by rw[d,tk_v];exact k,m,RVc.ren hF (NRs.mono q (NRs.of_ren u)) p⟩
 |bld T E l g=>
  have c:a j=⟨(κ n).v,(κ g).r⟩:=by rw[d];unfold tk;rw[i]
  show jl2 w T E (a j).v ((a j).r 0 0) l;rw[c];exact h
 |mp t l=>
  show jia w (a j).v l;rw[d,tk_v];exact h
 |arr e es l=>exact jcb.turnL (o:=n) (g:=n) (L:=0) (f:=f) (x:=.arr e es l) (by rw[d,tk_v]) (by rw[d];unfold tk;rw[i]) trivial (fun j s=>absurd s (Nat.not_lt_zero _)) (.inl hF) h
 |tab e es mask l g hole=>
  have z:TabOK F w e es mask l (κ n).v (κ g).r hole:=h;have c:a j=⟨(κ n).v,(κ g).r⟩:=by rw[d];unfold tk;rw[i]
  show TabOK F' w e es mask l (a j).v (a j).r hole;rw[c];exact z.mono hF (fun _ _=>rfl) (fun _ _=>rfl) (fun _ _ _ _ _=>rfl)
theorem Blk.named{c:Kap}{n j b:Nat}{y:Obj'}{f:Nat->Nat}(o:σ n=some y)(d:c j=tk κ σ n)(h:Blk c j (((y.ren f).regen 0).regen j) b):Blk κ n y b:=by
 rcases h with h|h
 ·exact .inl (by rw[<-tk_v κ σ n,<-d];exact h)
 ·cases y with
  |tab e es mask l g hole=>
   have a:c j=⟨(κ n).v,(κ g).r⟩:=by rw[d];unfold tk;rw[o]
   obtain⟨k,i,p,m⟩:=h;refine .inr ⟨k,i,p,?_⟩;rw[a]at m;exact m
  |bld T E l g=>
   have a:c j=⟨(κ n).v,(κ g).r⟩:=by rw[d];unfold tk;rw[o]
   refine .inr ?_;have h:blk ((c j).r 0 0)=some b:=h;rw[a]at h;exact h
  |_=>exact h.elim

theorem jpw(h:ORel cx κ F w U σ){F':Nat->Prop}(hF:∀b,F b->F' b):∀{l:List AV}{ds:List D}{rd:List Nat}{us:List Value},rdD.go σ l=some (ds,rd)->(∀o∈rd,∀x,σ o=some x->∀b,Blk κ o x b->F' b)->RVc κ F w l us->RC F' w ds us
 |[],ds,rd,us,a,_,e=>by
  simp only[rdD.go,Option.some.injEq,Prod.mk.injEq]at a;obtain⟨rfl,rfl⟩:=a;unfold RVc at e;unfold RC;exact e
 |x::l,ds,rd,us,a,c,e=>by
  unfold RVc at e;obtain⟨u,f,rfl,p,g,q⟩:=e;unfold rdD.go at a;split at a
  ·rename_i heq;cases heq
  ·rename_i d l' heq;simp only[List.cons.injEq]at heq;obtain⟨rfl,rfl⟩:=heq;split at a
   ·rename_i i n j;simp only[Option.some.injEq,Prod.mk.injEq]at a;obtain⟨rfl,rfl⟩:=a;unfold RC;unfold RV at g;exact⟨u,f,rfl,p,RD.mono hF (fun _ _=>rfl) g,jpw h hF j c q⟩
   ·cases a
  ·rename_i o l' heq;simp only[List.cons.injEq]at heq;obtain⟨rfl,rfl⟩:=heq;split at a
   ·rename_i es xs i n k j;simp only[Option.some.injEq,Prod.mk.injEq]at a;obtain⟨rfl,rfl⟩:=a;unfold RC;refine⟨u,f,rfl,p,?_,jpw h hF j (fun o k=>c o (List.mem_cons_of_mem _ k)) q⟩;unfold RV at g;obtain⟨y,r,m⟩:=jen k;rw[g.1];exact jr0 h hF r m fun b hb=>c o (List.mem_cons_self ..) y r b hb
   ·cases a
  ·cases a

theorem jr4(h:ORel cx κ F w U σ){F':Nat->Prop}(hF:∀b,F b->F' b){x:AV}{d:D}{rd:List Nat}{v:Value}(a:rdD σ x=some (d,rd))(e:∀o∈rd,∀x,σ o=some x->∀b,Blk κ o x b->F' b)(c:RV κ F w x v):RD F' w d v:=by
 unfold rdD at a;split at a
 ·simp only[Option.some.injEq,Prod.mk.injEq]at a;obtain⟨rfl,rfl⟩:=a;unfold RV at c;exact RD.mono hF (fun _ _=>rfl) c
 ·rename_i o;split at a
  ·rename_i es xs l;simp only[Option.some.injEq,Prod.mk.injEq]at a;obtain⟨rfl,rfl⟩:=a;unfold RV at c;obtain⟨y,g,f⟩:=jen l;rw[c.1];exact jr0 h hF g f fun b hb=>e o (List.mem_cons_self ..) y g b hb
  ·cases a
 ·split at a
  ·rename_i ds m k;simp only[Option.some.injEq,Prod.mk.injEq]at a;obtain⟨rfl,rfl⟩:=a;unfold RV at c;obtain⟨cs,i,j⟩:=c;unfold RD;exact⟨cs,i,jpw h hF k e j⟩
  ·cases a
 ·cases a

theorem jpu{x:AV}(h:∀o g k j es lo n,x≠.vw o g k j es lo n):rdV σ x=rdD σ x:=by cases x<;>first|rfl|exact absurd rfl (h _ _ _ _ _ _ _)
theorem jr2(h:ORel cx κ F w U σ){F':Nat->Prop}(hF:∀b,F b->F' b){x:AV}{d:D}{rd:List Nat}{v:Value}(u:rdV σ x=some (d,rd))(i:∀o∈rd,∀x,σ o=some x->∀b,Blk κ o x b->F' b)(r:rowP σ .rd x)(B:RV κ F w x v):RD F' w d v:=by
 cases x with
 |vw o g k j es lo n=>
  unfold rdV at u;unfold rowP at r;cases s:jb0 σ o g with
  |none=>simp only[s]at r
  |some t=>
   simp only[s,Option.some.injEq,Prod.mk.injEq]at u r;obtain⟨rfl,rfl⟩:=u;obtain⟨L,M,N,O,Q⟩:=r;obtain⟨e',_,⟨us,e,p,E⟩,_,q⟩:=jfj h s N M L;unfold RV at B;obtain⟨a,m,G,q1,R,S,_,rfl⟩:=B;rw[O]at e p;have K:m=(ja0 t.l k j).2.length:=by
    rcases e.2 with⟨c,I⟩|⟨H,C,f,z,c,_⟩
    ·rw[q1]at c;simp only[Value.slice.injEq]at c;omega
    ·rw[q1]at c;simp only[Value.slice.injEq]at c;exact c.2.1
   subst K;obtain⟨y,_⟩:=e.cut (l:=lo) (m:=lo+n) q1 (by omega) Q;rw[Nat.add_sub_cancel_left]at y;have J:(((ja0 t.l k j).2.drop lo).take n).length=n:=by rw[List.length_take,List.length_drop];omega
   have A:((us.take ((lo+n)*es)).drop (lo*es))=(us.drop (lo*es)).take (n*es):=by
    rw[List.drop_take,Nat.add_mul,Nat.add_sub_cancel_left]
   rw[A]at y;refine jf1 (fun b hb=>?_) (by rw[J];exact y) (RE.mono hF (fun _ _=>rfl) ((p.drop lo).take n));refine i o (List.mem_cons_self ..) _ (jbp s) b (.inr ⟨k,j,q,?_⟩);rcases e.2 with⟨c,I⟩|⟨H,C,f,z,c,_⟩
   ·rw[q1]at c;simp only[Value.slice.injEq]at c;obtain⟨rfl,_,rfl⟩:=c;split at hb<;>simp[blk]at hb
   ·rw[q1]at c;simp only[Value.slice.injEq]at c;obtain⟨rfl,_,rfl⟩:=c;rw[q1];split at hb
    ·exact hb
    ·rw[Option.map_some,Addr.add_lit]at hb;exact hb
 |_=>exact jr4 h hF ((jpu (by intros;simp)).symm.trans u) i B
theorem jn1{k:Nat}{x:AV}{d:D}{ns rd:List Nat}(h:ja2 σ (.bo k) x=some (d,ns,rd)):∃o T l,x=.ref o 0/\ σ o=some (.box T l)/\ (jgo l).length=k/\ d=.sc undef/\ ns=o::jgo l/\ rd=[]:=by
 cases x with
 |ref o i=>
  cases i with
  |zero=>
   simp only[ja2]at h;split at h
   ·rename_i T l a;cases hb:Nat.beq (jgo l).length k with
    |true=>
     rw[hb]at h;simp only[cond_true,Option.some.injEq,Prod.mk.injEq]at h;obtain⟨rfl,rfl,rfl⟩:=h;exact⟨o,T,l,rfl,a,Nat.eq_of_beq_eq_true hb,rfl,rfl,rfl⟩
    |false=>rw[hb]at h;cases h
   ·cases h
  |succ i=>simp[ja2]at h
 |_=>simp[ja2]at h
mutual
theorem jt8:∀(p:Pt)(x:AV)(d:D)(ns rd:List Nat),ja2 σ p x=some (d,ns,rd)->ns.length=p.n
 | .rd,x,d,ns,rd,h=>by
  unfold ja2 at h;split at h
  ·cases h;unfold Pt.n;rfl
  ·cases h
 | .zr,x,d,ns,rd,h=>by
  cases x with
  |dat j=>
   simp only[ja2,Option.some.injEq,Prod.mk.injEq]at h;obtain⟨rfl,rfl,rfl⟩:=h;unfold Pt.n;rfl
  |_=>simp[ja2]at h
 | .sl,x,d,ns,rd,h=>by
  cases x with
  |own o=>
   simp only[ja2,Option.some.injEq,Prod.mk.injEq]at h;obtain⟨rfl,rfl,rfl⟩:=h;unfold Pt.n;rfl
  |_=>simp[ja2]at h
 | .bx,x,d,ns,rd,h=>by
  cases x with
  |ref o i=>
   cases i with
   |zero=>
    simp only[ja2,Option.some.injEq,Prod.mk.injEq]at h;obtain⟨rfl,rfl,rfl⟩:=h;unfold Pt.n;rfl
   |succ i=>simp[ja2]at h
  |_=>simp[ja2]at h
 | .bo k,x,d,ns,rd,h=>by
  obtain⟨o,T,l,rfl,_,g,_,rfl,_⟩:=jn1 h;unfold Pt.n;rw[List.length_cons,g,Nat.add_comm]
 | .ag l,x,d,ns,rd,h=>by
  cases x with
  |aggv xs=>
   unfold ja2 at h;split at h
   ·rename_i ds b c a;cases h;unfold Pt.n;exact jny l xs ds ns rd a
   ·cases h
  |_=>simp[ja2]at h
 | .fn f l,x,d,ns,rd,h=>by
  cases x with
  |fn e xs=>
   unfold ja2 at h;split at h
   ·rename_i ds b c a;cases hb:Nat.beq f e with
    |false=>rw[hb]at h;cases h
    |true=>
     rw[hb]at h;cases h;unfold Pt.n;exact jny l xs ds ns rd a
   ·cases h
  |_=>simp[ja2]at h
theorem jny:∀(ls:List Pt)(xs:List AV)(ds:List D)(ns rd:List Nat),ja8 σ ls xs=some (ds,ns,rd)->ns.length=Pt.ns ls
 |[],[],ds,ns,rd,h=>by simp[ja8]at h;obtain⟨_,rfl,_⟩:=h;unfold Pt.ns;rfl
 |[],x::xs,ds,ns,rd,h=>by simp[ja8]at h
 |p::ls,[],ds,ns,rd,h=>by simp[ja8]at h
 |p::ls,x::xs,ds,ns,rd,h=>by
  unfold ja8 at h;split at h
  ·rename_i d b e a c f g i;cases h;unfold Pt.ns;rw[List.length_append,jt8 p x d b e g,jny ls xs a c f i]
  ·cases h
end
mutual
theorem jn0(h:ORel cx κ F w U σ){F':Nat->Prop}(hF:∀b,F b->F' b){κc:Kap}:
  ∀(p:Pt)(x:AV)(v:Value)(d:D)(ns rd:List Nat)(k:Nat),ja2 σ p x=some (d,ns,rd)->rowP σ p x->(∀o∈rd,∀x,σ o=some x->∀b,Blk κ o x b->F' b)->
   (∀(j n:Nat),ns[j]? =some n->(κc (k+j)).v=(κ n).v)->RV κ F w x v->RV κc F' w (ptAV p d k) v
 | .rd,x,v,d,ns,rd,k,a,q,c,g,e=>by
  unfold ja2 at a;split at a
  ·rename_i C A r;cases a;unfold ptAV RV;exact jr2 h hF r c q e
  ·cases a
 | .zr,x,v,d,ns,rd,k,a,q,c,g,e=>by
  cases x with
  |dat B=>
   simp only[ja2,Option.some.injEq,Prod.mk.injEq]at a;obtain⟨rfl,rfl,rfl⟩:=a;unfold ptAV;unfold RV at e ⊢;exact RD.mono hF (fun _ _=>rfl) e
  |_=>simp[ja2]at a
 | .sl,x,v,d,ns,rd,k,a,q,c,g,e=>by
  cases x with
  |own o=>
   simp only[ja2,Option.some.injEq,Prod.mk.injEq]at a;obtain⟨rfl,rfl,rfl⟩:=a;unfold ptAV;unfold RV at e ⊢;have:=g 0 o (by simp);rw[Nat.add_zero]at this;rw[this];exact e
  |_=>simp[ja2]at a
 | .bx,x,v,d,ns,rd,k,a,q,c,g,e=>by
  cases x with
  |ref o i=>
   cases i with
   |zero=>
    simp only[ja2,Option.some.injEq,Prod.mk.injEq]at a;obtain⟨rfl,rfl,rfl⟩:=a;unfold ptAV;unfold RV at e ⊢;have:=g 0 o (by simp);rw[Nat.add_zero]at this;rw[this];exact e
   |succ i=>simp[ja2]at a
  |_=>simp[ja2]at a
 | .bo m,x,v,d,ns,rd,k,a,q,c,g,e=>by
  obtain⟨o,T,l,rfl,_,_,_,rfl,_⟩:=jn1 a;unfold ptAV;unfold RV at e ⊢;have:=g 0 o (by simp);rw[Nat.add_zero]at this;rw[this];exact e
 | .ag l,x,v,d,ns,rd,k,a,q,c,g,e=>by
  cases x with
  |aggv xs=>
   unfold ja2 at a;split at a
   ·rename_i ds u y r;cases a;unfold ptAV;unfold RV at e ⊢;obtain⟨cs,s,t⟩:=e;exact⟨cs,s,jjg h hF l xs cs ds ns rd k r (by unfold rowP at q;exact q) c g t⟩
   ·cases a
  |_=>simp[ja2]at a
 | .fn f l,x,v,d,ns,rd,k,a,q,c,g,e=>by
  cases x with
  |fn z xs=>
   unfold ja2 at a;split at a
   ·rename_i ds u y r;cases hb:Nat.beq f z with
    |false=>rw[hb]at a;cases a
    |true=>
     rw[hb]at a;cases a;have:=Nat.eq_of_beq_eq_true hb;subst this;unfold ptAV;unfold RV at e ⊢;obtain⟨cs,s,t⟩:=e;exact⟨cs,s,jh5 h hF l xs cs ds ns rd k r (by unfold rowP at q;exact q) c g t⟩
   ·cases a
  |_=>simp[ja2]at a
theorem jh5(h:ORel cx κ F w U σ){F':Nat->Prop}(hF:∀b,F b->F' b){κc:Kap}:
  ∀(ls:List Pt)(xs:List AV)(vs:List Value)(ds:List D)(ns rd:List Nat)(k:Nat),ja8 σ ls xs=some (ds,ns,rd)->jds σ ls xs->(∀o∈rd,∀x,σ o=some x->∀b,Blk κ o x b->F' b)->
   (∀(j n:Nat),ns[j]? =some n->(κc (k+j)).v=(κ n).v)->RVs κ F w xs vs->RVs κc F' w (ja1 ls ds k) vs
 |[],[],vs,ds,ns,rd,k,a,m,c,r,e=>by unfold ja1;unfold RVs at e ⊢;exact e
 |[],x::xs,vs,ds,ns,rd,k,a,_,_,_,_=>by simp[ja8]at a
 |p::ls,[],vs,ds,ns,rd,k,a,_,_,_,_=>by simp[ja8]at a
 |p::ls,x::xs,vs,ds,ns,rd,k,a,m,c,r,e=>by
  unfold ja8 at a;split at a
  ·rename_i d f g q t y z C;cases a;unfold jds at m;unfold RVs at e;obtain⟨u,i,rfl,A,B⟩:=e;have E:=jt8 p x d f g z;unfold ja1 RVs;refine⟨u,i,rfl,jn0 h hF p x u d f g k z m.1 (fun o s=>c o (List.mem_append_left _ s)) (fun j n l=>r j n ?_) A,jh5 h hF ls xs i q t y (k+p.n) C m.2 (fun o s=>c o (List.mem_append_right _ s)) (fun j n l=>?_) B⟩
   ·rw[List.getElem?_append_left (List.getElem?_eq_some_iff.1 l).1];exact l
   ·have:=r (p.n+j) n (by rw[List.getElem?_append_right (by omega),<-E,Nat.add_sub_cancel_left];exact l)
    rwa [<-Nat.add_assoc]at this
  ·cases a
theorem jjg(h:ORel cx κ F w U σ){F':Nat->Prop}(hF:∀b,F b->F' b){κc:Kap}:
  ∀(ls:List Pt)(xs:List AV)(vs:List Value)(ds:List D)(ns rd:List Nat)(k:Nat),ja8 σ ls xs=some (ds,ns,rd)->jds σ ls xs->(∀o∈rd,∀x,σ o=some x->∀b,Blk κ o x b->F' b)->
   (∀(j n:Nat),ns[j]? =some n->(κc (k+j)).v=(κ n).v)->RVc κ F w xs vs->RVc κc F' w (ja1 ls ds k) vs
 |[],[],vs,ds,ns,rd,k,a,m,c,r,e=>by unfold ja1;unfold RVc at e ⊢;exact e
 |[],x::xs,vs,ds,ns,rd,k,a,_,_,_,_=>by simp[ja8]at a
 |p::ls,[],vs,ds,ns,rd,k,a,_,_,_,_=>by simp[ja8]at a
 |p::ls,x::xs,vs,ds,ns,rd,k,a,m,c,r,e=>by
  unfold ja8 at a;split at a
  ·rename_i d f g q t y z E;cases a;unfold jds at m;unfold RVc at e;obtain⟨u,i,rfl,A,B,C⟩:=e;have G:=jt8 p x d f g z;unfold ja1 RVc;refine⟨u,i,rfl,A,jn0 h hF p x u d f g k z m.1 (fun o s=>c o (List.mem_append_left _ s)) (fun j n l=>r j n ?_) B,jjg h hF ls xs i q t y (k+p.n) E m.2 (fun o s=>c o (List.mem_append_right _ s)) (fun j n l=>?_) C⟩
   ·rw[List.getElem?_append_left (List.getElem?_eq_some_iff.1 l).1];exact l
   ·have:=r (p.n+j) n (by rw[List.getElem?_append_right (by omega),<-G,Nat.add_sub_cancel_left];exact l)
    rwa [<-Nat.add_assoc]at this
  ·cases a
end

theorem jf7:∀{l:List AV}{ds:List D}{rd:List Nat},rdD.go σ l=some (ds,rd)->∀o∈rd,∃x,σ o=some x
 |[],ds,rd,h=>by simp[rdD.go]at h;obtain⟨_,rfl⟩:=h;simp
 |x::l,ds,rd,h=>by
  unfold rdD.go at h;split at h
  ·rename_i heq;cases heq
  ·rename_i d l' heq;simp only[List.cons.injEq]at heq;obtain⟨rfl,rfl⟩:=heq;split at h
   ·rename_i a c b;simp only[Option.some.injEq,Prod.mk.injEq]at h;obtain⟨rfl,rfl⟩:=h;exact jf7 b
   ·cases h
  ·rename_i o l' heq;simp only[List.cons.injEq]at heq;obtain⟨rfl,rfl⟩:=heq;split at h
   ·rename_i es xs a c e b;simp only[Option.some.injEq,Prod.mk.injEq]at h;obtain⟨rfl,rfl⟩:=h;intro o' ho';rcases List.mem_cons.1 ho' with rfl|ho'
    ·obtain⟨y,f,_⟩:=jen e;exact⟨_,f⟩
    ·exact jf7 b o' ho'
   ·cases h
  ·cases h

theorem jtj{x:AV}{d:D}{rd:List Nat}(h:rdD σ x=some (d,rd)):∀o∈rd,∃x,σ o=some x:=by
 unfold rdD at h;split at h
 ·simp only[Option.some.injEq,Prod.mk.injEq]at h;obtain⟨rfl,rfl⟩:=h;simp
 ·split at h
  ·rename_i c;simp only[Option.some.injEq,Prod.mk.injEq]at h;obtain⟨rfl,rfl⟩:=h;intro o' a;simp at a;subst a;obtain⟨y,e,_⟩:=jen c;exact⟨_,e⟩
  ·cases h
 ·split at h
  ·rename_i b;simp only[Option.some.injEq,Prod.mk.injEq]at h;obtain⟨rfl,rfl⟩:=h;exact jf7 b
  ·cases h
 ·cases h

theorem jr3{x:AV}{d:D}{rd:List Nat}(h:rdV σ x=some (d,rd)):∀o∈rd,∃x,σ o=some x:=by
 cases x with
 |vw o g k j es lo n=>
  cases b:jb0 σ o g with
  |none=>simp only[rdV,b]at h;cases h
  |some t=>
   simp only[rdV,b,Option.some.injEq,Prod.mk.injEq]at h;obtain⟨rfl,rfl⟩:=h;intro o' a;simp at a;subst a;exact⟨_,jbp b⟩
 |_=>exact jtj ((jpu (by intros;simp)).symm.trans h)
mutual
theorem jsj:∀(p:Pt)(x:AV)(d:D)(ns rd:List Nat),ja2 σ p x=some (d,ns,rd)->∀o∈rd,∃x,σ o=some x
 | .rd,x,d,ns,rd,h=>by
  unfold ja2 at h;split at h
  ·rename_i a;cases h;exact jr3 a
  ·cases h
 | .zr,x,d,ns,rd,h=>by
  cases x with
  |dat g=>
   simp only[ja2,Option.some.injEq,Prod.mk.injEq]at h;obtain⟨rfl,rfl,rfl⟩:=h;simp
  |_=>simp[ja2]at h
 | .sl,x,d,ns,rd,h=>by
  cases x with
  |own o=>
   simp only[ja2,Option.some.injEq,Prod.mk.injEq]at h;obtain⟨rfl,rfl,rfl⟩:=h;simp
  |_=>simp[ja2]at h
 | .bx,x,d,ns,rd,h=>by
  cases x with
  |ref o i=>
   cases i with
   |zero=>
    simp only[ja2,Option.some.injEq,Prod.mk.injEq]at h;obtain⟨rfl,rfl,rfl⟩:=h;simp
   |succ i=>simp[ja2]at h
  |_=>simp[ja2]at h
 | .bo k,x,d,ns,rd,h=>by
  obtain⟨_,_,_,_,_,_,_,_,rfl⟩:=jn1 h;simp
 | .ag l,x,d,ns,rd,h=>by
  cases x with
  |aggv xs=>
   unfold ja2 at h;split at h
   ·rename_i ds b c a;cases h;exact jfz l xs ds ns rd a
   ·cases h
  |_=>simp[ja2]at h
 | .fn f l,x,d,ns,rd,h=>by
  cases x with
  |fn e xs=>
   unfold ja2 at h;split at h
   ·rename_i ds b c a;cases hb:Nat.beq f e with
    |false=>rw[hb]at h;cases h
    |true=>
     rw[hb]at h;cases h;exact jfz l xs ds ns rd a
   ·cases h
  |_=>simp[ja2]at h
theorem jfz:∀(ls:List Pt)(xs:List AV)(ds:List D)(ns rd:List Nat),ja8 σ ls xs=some (ds,ns,rd)->∀o∈rd,∃x,σ o=some x
 |[],[],ds,ns,rd,h=>by simp[ja8]at h;obtain⟨_,_,rfl⟩:=h;simp
 |[],x::xs,ds,ns,rd,h=>by simp[ja8]at h
 |p::ls,[],ds,ns,rd,h=>by simp[ja8]at h
 |p::ls,x::xs,ds,ns,rd,h=>by
  unfold ja8 at h;split at h
  ·rename_i d b e a c f g i;cases h;intro o ho;rcases List.mem_append.1 ho with ho|ho
   ·exact jsj p x d b e g o ho
   ·exact jfz ls xs a c f i o ho
  ·cases h
end

theorem jga{f:Nat->Nat}:∀{ns:List Nat}{obs:List Obj'},jir σ f ns=some obs->obs.length=ns.length/\ ∀(j n:Nat),ns[j]? =some n->∃x,obs[j]? =some ((x.ren f).regen 0)/\ σ n=some x
 |[],obs,h=>by simp[jir]at h;subst h;simp
 |o::ns,obs,h=>by
  unfold jir at h;split at h
  ·rename_i x l e d;simp only[Option.some.injEq]at h;subst h;obtain⟨b,c⟩:=jga d;refine⟨by simp[b],fun j n a=>?_⟩;cases j with
   |zero=>simp at a;subst a;exact⟨x,by simp,e⟩
   |succ j=>simpa using c j n (by simpa using a)
  ·cases h

theorem jdb{ns:List Nat}{obs:List Obj'}(h:jex σ ns=some obs):obs.length=ns.length/\ ∀(j n:Nat),ns[j]? =some n->∃x,obs[j]? =some ((x.ren (ixN ns)).regen 0)/\ σ n=some x:=jga h

theorem jjh(δ a:jbd)(σ:Objs):app (δ++a) σ=app a (app δ σ):=by
 induction δ generalizing σ with
 |nil=>rfl
 |cons p δ b=>obtain⟨o,x⟩:=p;simp only[List.cons_append,app];exact b _

theorem jn2{f:Nat->Nat}:∀(new:List Obj')(nm:Nat)(σ:Objs)(n:Nat),app (newF f nm new) σ n=if nm<=n/\ n<nm+new.length then(new[n-nm]?).map (fun x=>(x.ren f).regen n)else σ n
 |[],nm,σ,n=>by simp[newF,app];omega
 |x::r,nm,σ,n=>by
  simp only[newF,app];rw[jn2 r (nm+1) _ n];by_cases a:n=nm
  ·subst a;rw[if_neg (by omega),if_pos (by simp),jax];simp
  ·rw[jbz a];by_cases b:nm+1<=n/\ n<nm+1+r.length
   ·rw[if_pos b,if_pos (by simp only[List.length_cons];omega),show n-nm=(n-(nm+1))+1 from by omega,List.getElem?_cons_succ]
   ·rw[if_neg b,if_neg (by simp only[List.length_cons];omega)]

theorem jfc(new:List Obj')(nm:Nat)(σ:Objs)(n:Nat):app (jdo nm new) σ n=if nm<=n/\ n<nm+new.length then(new[n-nm]?).map (fun x=>(x.ren (fun j=>nm+j)).regen n)else σ n:=jn2 new nm σ n
theorem jh6{f:Nat->Nat}:∀(ns:List Nat)(obs:List Obj')(g:Nat)(σ:Objs)(n:Nat),ns.Nodup->obs.length<=ns.length->(∀j:Nat,ns[j]? =some n->app (jgq f g ns obs) σ n=(obs[j]?).map (fun x=>(x.ren f).regen (g+j)))/\ (n∉ns->app (jgq f g ns obs) σ n=σ n)
 |[],obs,g,σ,n,_,_=>by simp[jgq,app]
 |o::ns,[],g,σ,n,hd,_=>by
  simp only[jgq,app];obtain⟨b,c⟩:=List.nodup_cons.1 hd;obtain⟨h,e⟩:=jh6 (f:=f) ns [] (g+1) (upd σ o none) n c (by simp);refine⟨fun j d=>?_,fun i=>?_⟩
  ·cases j with
   |zero=>
    simp at d;subst d;rw[e b,jax];simp
   |succ j=>
    have:=h j (by simpa using d);rw[this];simp
  ·have a:n≠o/\ n∉ns:=by simpa using i
   rw[e a.2,jbz a.1]
 |o::ns,x::obs,g,σ,n,hd,k=>by
  simp only[jgq,app];obtain⟨b,c⟩:=List.nodup_cons.1 hd;obtain⟨h,e⟩:=jh6 (f:=f) ns obs (g+1) (upd σ o (some ((x.ren f).regen g))) n c (by simpa using k);refine⟨fun j d=>?_,fun i=>?_⟩
  ·cases j with
   |zero=>
    simp at d;subst d;rw[e b,jax];simp
   |succ j=>
    have:=h j (by simpa using d);rw[this,List.getElem?_cons_succ,show g+1+j=g+(j+1) from by omega]
  ·have a:n≠o/\ n∉ns:=by simpa using i
   rw[e a.2,jbz a.1]
theorem jei(ns:List Nat)(obs:List Obj')(nm k:Nat)(σ:Objs)(n:Nat)(h:ns.Nodup)(a:obs.length<=ns.length):(∀j:Nat,ns[j]? =some n->app (jcl nm k ns obs) σ n=(obs[j]?).map (fun x=>(x.ren (jgp nm ns obs.length)).regen (nm+k+j)))/\ (n∉ns->app (jcl nm k ns obs) σ n=σ n):=jh6 ns obs (nm+k) σ n h a

mutual
theorem RV.shift{κ' f:Kap}{F':Nat->Prop}{w':World}{m:Nat}(b:∀j,j<m->f (nm+j)=κ' j):∀{x:AV}{v:Value},NB (· <m) x->RV κ' F' w' x v->RV f F' w' (x.shift nm) v
 | .dat d,v,_,h=>by unfold AV.shift;unfold RV at h ⊢;exact h
 | .own o,v,a,h=>by unfold NB at a;unfold AV.shift;unfold RV at h ⊢;rw[b o a];exact h
 | .ref o i,v,a,h=>by unfold NB at a;unfold AV.shift;unfold RV at h ⊢;rw[b o a];exact h
 | .aggv l,v,a,h=>by
  unfold NB at a;unfold AV.shift;unfold RV at h ⊢;obtain⟨cs,c,e⟩:=h;exact⟨cs,c,RVc.shift b a e⟩
 | .tup l,v,a,h=>by
  unfold NB at a;unfold AV.shift;unfold RV at h ⊢;obtain⟨cs,c,e⟩:=h;exact⟨cs,c,RVs.shift b a e⟩
 | .eref _ _ _ _,v,_,h=>by unfold AV.shift;unfold RV;trivial
 | .row _ _ _ _,v,_,h=>by unfold AV.shift;unfold RV;trivial
 | .rref _ _ _ _ _ _ _,v,_,h=>by unfold AV.shift;unfold RV;trivial
 | .vw _ _ _ _ _ _ _,v,_,h=>by unfold AV.shift;unfold RV;trivial
 | .fp _,v,_,h=>by unfold AV.shift;unfold RV;trivial
 | .fn _ _,v,_,h=>by unfold AV.shift;unfold RV;trivial
 | .und,v,_,h=>by unfold AV.shift;unfold RV;trivial
 | .unk,v,_,h=>by unfold AV.shift;unfold RV;trivial
theorem RVs.shift{κ' d:Kap}{F':Nat->Prop}{w':World}{m:Nat}(c:∀j,j<m->d (nm+j)=κ' j):∀{l:List AV}{us:List Value},NBs (· <m) l->RVs κ' F' w' l us->RVs d F' w' (jd8 nm l) us
 |[],us,_,h=>by unfold jd8;unfold RVs at h ⊢;exact h
 |x::l,us,a,h=>by
  unfold NBs at a;unfold jd8;unfold RVs at h ⊢;obtain⟨u,b,e,f,g⟩:=h;exact⟨u,b,e,RV.shift c a.1 f,RVs.shift c a.2 g⟩
theorem RVc.shift{κ' e:Kap}{F':Nat->Prop}{w':World}{m:Nat}(d:∀j,j<m->e (nm+j)=κ' j):∀{l:List AV}{us:List Value},NBs (· <m) l->RVc κ' F' w' l us->RVc e F' w' (jd8 nm l) us
 |[],us,_,h=>by unfold jd8;unfold RVc at h ⊢;exact h
 |x::l,us,b,h=>by
  unfold NBs at b;unfold jd8;unfold RVc at h ⊢;obtain⟨u,c,f,a,g,i⟩:=h;exact⟨u,c,f,a,RV.shift d b.1 g,RVc.shift d b.2 i⟩
end
mutual
theorem NB.shift{m:Nat}(b:m<=16):∀{x:AV},NB (· <m) x->NB (Un U nm) (x.shift nm)
 | .dat d,_=>by unfold AV.shift;unfold NB;trivial
 | .own o,a=>by unfold NB at a;unfold AV.shift;unfold NB;exact .inr ⟨by omega,by omega⟩
 | .ref o i,a=>by unfold NB at a;unfold AV.shift;unfold NB;exact .inr ⟨by omega,by omega⟩
 | .aggv l,a=>by unfold NB at a;unfold AV.shift;unfold NB;exact NBs.shift b a
 | .tup l,a=>by unfold NB at a;unfold AV.shift;unfold NB;exact NBs.shift b a
 | .eref _ _ _ _,_=>by unfold AV.shift;unfold NB;trivial
 | .row _ _ _ _,_=>by unfold AV.shift;unfold NB;trivial
 | .rref _ _ _ _ _ _ _,_=>by unfold AV.shift;unfold NB;trivial
 | .vw _ _ _ _ _ _ _,_=>by unfold AV.shift;unfold NB;trivial
 | .fp _,_=>by unfold AV.shift;unfold NB;trivial
 | .fn _ _,_=>by unfold AV.shift;unfold NB;trivial
 | .und,_=>by unfold AV.shift;unfold NB;trivial
 | .unk,_=>by unfold AV.shift;unfold NB;trivial
theorem NBs.shift{m:Nat}(b:m<=16):∀{l:List AV},NBs (· <m) l->NBs (Un U nm) (jd8 nm l)
 |[],_=>by unfold jd8;unfold NBs;trivial
 |x::l,a=>by unfold NBs at a;unfold jd8;unfold NBs;exact⟨NB.shift b a.1,NBs.shift b a.2⟩
end

theorem jq2{o:Oper}{ρ:Operand->Value}{f:Nat}{c:Operand}{cs:Array Value}{args:Array Operand}{d:Array TypeId}(a:o.op=.call {callee:=.value c,args:=args,argTypes:=d})(b:ρ c=.func (.func f) #[] cs)
  (hc:∀args w,(callFunc f args).run P w=.ok (.enter f args) w):(execOp ρ o).run P w=.ok (.enter f (args.map ρ++cs)) w:=by
 unfold execOp;simp only[a,resolve,b,Deferred.ofValue,Sem.run_bind,Sem.run_pure,Result.andThen_ok,Array.empty_append,invoke,hc]

theorem RD.nz{F:Nat->Prop}{w:World}(a:List (Option Nat)){d:D}{v:Value}(h:RD F w d v):RD F w (nzD a d) v:=by
 unfold nzD;split
 ·unfold RD at h ⊢;obtain⟨cs,b,c⟩:=h;exact⟨cs,b,RC.nz a _ _ c⟩
 ·split
  ·unfold RD at h ⊢;exact⟨none,0,h.1,Nat.le_refl _,by unfold maxLen;omega,fun _=>rfl,.inl rfl⟩
  ·exact h
 ·exact h
theorem jsq.nz{κ:Kap}{F:Nat->Prop}{w:World}{ty:TypeId->Option TyE}:∀(ls:List Pt)(b:List TypeId)(ds:List D)(k:Nat)(vs:List Value),RVs κ F w (ja1 ls ds k) vs->RVs κ F w (ja1 ls (nzL ty ls b ds) k) vs
 |[],b,ds,k,vs,h=>by unfold ja1 at h ⊢;exact h
 |p::ls,[],ds,k,vs,h=>by cases p<;>(unfold nzL;exact h)
 |p::ls,t::b,[],k,vs,h=>by cases p<;>(unfold nzL;exact h)
 |p::ls,t::b,d::ds,k,vs,h=>by
  unfold ja1 RVs at h;obtain⟨u,a,rfl,c,f⟩:=h;have e:=jsq.nz (ty:=ty) ls b ds (k+p.n) a f;cases p with
  |rd=>
   unfold nzL ja1 RVs;refine⟨u,a,rfl,?_,e⟩;unfold ptAV RV at c ⊢;exact c.nz _
  |_=>
   unfold nzL ja1 RVs;exact⟨u,a,rfl,c,e⟩

theorem RVs.map_ap{ρ:Operand->Value}{e:Operand->AV}(a:∀x,RV κ F w (e x) (ρ x)){l:List AV}{us:List Value}(h:RVs κ F w l us):∀(xs:List Operand),RVs κ F w (xs.map e++l) (xs.map ρ++us)
 |[]=>h
 |x::xs=>by
  simp only[List.map_cons,List.cons_append];unfold RVs;exact⟨_,_,rfl,a x,RVs.map_ap a h xs⟩

theorem jok(hΓ:∀f S,Γ f=some S->FnOK P cx.J f S)(h:ORel cx κ F w U σ)(hf:∀j,j<16->¬U (nm+j)){o:Oper}{ρ:Operand->Value}{e:Operand->AV}(he:∀x,RV κ F w (e x) (ρ x)){c:Operand}{f:Nat}{ae:List AV}{args:Array Operand}{ts:Array TypeId}
  (ho:o.op=.call {callee:=.value c,args:=args,argTypes:=ts}) (aJ:e c=.fn f ae):ja4 P cx κ F w U nm σ o ρ (jbi ty Γ σ nm f (args.toList.map e++ae) ts.toList):=by
 unfold jbi;split
 ·intro hp;exact hp.elim
 ·rename_i S hS;obtain⟨hc,aM⟩:=hΓ f S hS;split
  ·intro hp;exact hp.elim
  ·rename_i ds aS aT ab;obtain⟨⟨af,ns,rd⟩,W,u⟩:=Option.map_eq_some_iff.1 ab;simp only[Prod.mk.injEq]at u;obtain⟨aK,rfl,rfl⟩:=u;split
   ·intro hp;exact hp.elim
   ·rename_i obs aD;intro hp;obtain⟨p0,p1,p2,p3,p5,p4⟩:=(show _/\ _/\ _/\ _/\ _/\ _ from hp);have X:=he c;rw[aJ]at X;unfold RV at X;obtain⟨cs,hρ,am⟩:=X;obtain⟨aR,aE⟩:=jdb aD;have aC:∀(j:Nat)(n:Nat),ns[j]? =some n->j<ns.length:=fun j n a=>(List.getElem?_eq_some_iff.1 a).1;have D:∀(j:Nat)(x:Obj'),obs[j]? =some x->∃n y,ns[j]? =some n/\ σ n=some y/\ x=(y.ren (ixN ns)).regen 0:=fun j x a=>by
     have t:=(List.getElem?_eq_some_iff.1 a).1;have p:ns[j]? =some (ns[j]'(by omega)):=List.getElem?_eq_getElem (by omega);obtain⟨y,l,s⟩:=aE j _ p;rw[a]at l;cases l;exact⟨_,y,p,s,rfl⟩
    let Fc:Nat->Prop:=fun b=>F b \/∃o∈rd,∃x,σ o=some x/\ Blk κ o x b
    let κc:Kap:=fun j=>tk κ σ (ns.getD j 0)
    have H:∀j n,ns[j]? =some n->κc j=tk κ σ n:=fun j n a=>by
     show tk κ σ (ns.getD j 0)=tk κ σ n;rw[List.getD_eq_getElem?_getD,a];rfl
    have aP:∀o,ixN ns o<obs.length->(κc (ixN ns o)).v=(κ o).v:=fun o ho=>by
     rw[H _ o (jlh (by omega)),tk_v]
    have aL:=jfz S.lend _ af ns rd W;have M:∀b,F b->Fc b:=fun b hb=>.inl hb;have ax:∀b,Fc b->b<w.heap.size:=fun b hb=>by
     rcases hb with hb|⟨o',N,x,k,hb⟩
     ·exact(h.fG b hb).2
     ·exact jcx h k hb
    have aO:RNew κc Fc w (fun b=>b<w.heap.size/\ ¬Fc b) obs.length obs:=by
     refine⟨fun j x a=>?_,fun j x a b hb=>?_,fun i x j y hi a Y b hb hb'=>?_⟩
     ·obtain⟨n,y,d,s,rfl⟩:=D j x a;have aB:=p5 _ (List.mem_of_getElem? a);exact⟨jcb.named s aB (H j n d) aP M (h.ok n y s),aB⟩
     ·obtain⟨n,y,d,s,rfl⟩:=D j x a;have hb:=hb.named s (H j n d);refine⟨jcx h s hb,fun ai=>?_⟩;rcases ai with ai|⟨o',N,z,hz,hb'⟩
      ·exact(h.free n y s b hb).1 ai
      ·exact h.apart n y o' z s hz (fun e'=>p3 n (List.mem_of_getElem? d) (e'▸N)) b hb hb'
     ·obtain⟨n,x',d,s,rfl⟩:=D i x hi;obtain⟨m,y',hm,aI,rfl⟩:=D j y a;have hb:=hb.named s (H i n d);have hb':=hb'.named aI (H j m hm);refine h.apart n x' m y' s aI (fun e'=>Y ?_) b hb hb';have h1:=aC i n d;have h2:=aC j m hm;have:=(List.getElem_inj (h₀:=h1) (h₁:=h2) p2).1 (by
       rw[(List.getElem?_eq_some_iff.1 d).2,(List.getElem?_eq_some_iff.1 hm).2];exact e')
      exact this
    have aG:=jh5 (F':=Fc) (κc:=κc) h M S.lend _ _ af ns rd 0 W p0 (fun o' N x k b hb=>.inr ⟨o',N,x,k,hb⟩) (fun j n a=>by rw[Nat.zero_add,H j n a,tk_v]) (RVs.map_ap he am args.toList);have aF:=jsq.nz (ty:=ty) S.lend ts.toList af 0 _ aG;rw[aK]at aF;have ak:=aM (args.toList.map ρ++cs) w Fc ds obs κc p1 aF ax (h.inv.mono M (fun _ _=>rfl)) aO;unfold Out;rw[jq2 ho hρ hc];simp only[];have u:args.map ρ++cs.toArray=(args.toList.map ρ++cs).toArray:=by apply Array.ext';simp
    rw[u];refine Calls.mono ak ?_;rintro e' w' ⟨v,rfl,r,new,obs',κ',κl,F',ret⟩;refine⟨v,rfl,?_⟩;obtain⟨few,_,_,same,ao⟩:=p4 r new obs' ret.post
    let F2:Nat->Prop:=fun b=>F b \/(F' b/\ (Lent κc obs b \/w.heap.size<=b))
    let κ2:Kap:=fun n=>if nm<=n/\ n<nm+16 then(if n<nm+new.length then κ' (n-nm)else κl (n-(nm+new.length)))else κ n
    have A:∀j,j<new.length->κ2 (nm+j)=κ' j:=fun j a=>by
     show(if nm<=nm+j/\ nm+j<nm+16 then(if nm+j<nm+new.length then κ' (nm+j-nm)else κl (nm+j-(nm+new.length)))else κ (nm+j))=κ' j;rw[if_pos (by omega),if_pos (by omega),Nat.add_sub_cancel_left]
    have az:∀j,j<obs.length->κ2 (nm+new.length+j)=κl j:=fun j a=>by
     show(if nm<=nm+new.length+j/\ nm+new.length+j<nm+16 then(if nm+new.length+j<nm+new.length then κ' (nm+new.length+j-nm)else κl (nm+new.length+j-(nm+new.length)))else κ (nm+new.length+j))=κl j;rw[if_pos (by omega),if_neg (by omega),Nat.add_sub_cancel_left]
    have E:∀n,U n->κ2 n=κ n:=fun n d=>by
     show(if nm<=n/\ n<nm+16 then(if n<nm+new.length then κ' (n-nm)else κl (n-(nm+new.length)))else κ n)=κ n;rw[if_neg];rintro⟨g1,L⟩;exact hf (n-nm) (by omega) (by rw[show nm+(n-nm)=n from by omega];exact d)
    have Z:∀n,n∈ns->∃x,σ n=some x:=fun n d=>by
     obtain⟨j,a⟩:=List.getElem?_of_mem d;obtain⟨x,_,k⟩:=aE j n a;exact⟨x,k⟩
    have V:(∀b,F' b->F2 b) \/(jn9 r/\ (∀x∈new,jcn x)/\ ∀x∈obs',jcn x):=by
     rcases ao with aN|hfl
     ·refine .inl fun b hb=>?_;rcases ret.fr' b hb with hb'|hb'
      ·rcases hb' with hb'|⟨o',N,_⟩
       ·exact .inl hb'
       ·rw[aN]at N;cases N
      ·exact .inr ⟨hb,hb'⟩
     ·exact .inr hfl
    have aw:∀n y,app (jcl nm new.length ns obs'++jdo nm new) σ n=some y->(∃j x,n=nm+j/\ new[j]? =some x/\ y=(x.ren (fun j=>nm+j)).regen n) \/(∃(j:Nat)(x:Obj'),ns[j]? =some n/\ obs'[j]? =some x/\ y=(x.ren (jgp nm ns obs'.length)).regen (nm+new.length+j)) \/(n∉ns/\ σ n=some y):=by
     intro n y l;rw[jjh,jfc]at l;split at l
     ·rename_i hr;obtain⟨x,k,ar⟩:=Option.map_eq_some_iff.1 l;exact .inl ⟨n-nm,x,by omega,k,ar.symm⟩
     ·obtain⟨g1,L⟩:=jei ns obs' nm new.length σ n p2 (by omega);by_cases d:n∈ns
      ·obtain⟨j,a⟩:=List.getElem?_of_mem d;rw[g1 j a]at l;obtain⟨x,k,ar⟩:=Option.map_eq_some_iff.1 l;exact .inr (.inl ⟨j,x,a,k,ar.symm⟩)
      ·rw[L d]at l;exact .inr (.inr ⟨d,l⟩)
    have O:∀b,b<w.heap.size->¬Lent κc obs b->w'.heap[b]? =w.heap[b]?:=fun b hb hl=>ret.wx.block b ⟨hb,hl⟩;have q:∀b,Lent κc obs b->∃n x,n∈ns/\ σ n=some x/\ Blk κ n x b:=by
     rintro b ⟨j,x,a,hb⟩;obtain⟨n,y,d,s,rfl⟩:=D j x a;exact⟨n,y,List.mem_of_getElem? d,s,hb.named s (H j n d)⟩
    have aj:∀b,F b->w'.heap[b]? =w.heap[b]?:=fun b hb=>O b (h.fG b hb).2 fun hl=>by
     obtain⟨n,x,_,s,hb'⟩:=q b hl;exact(h.free n x s b hb').1 hb
    have ad:∀n y,n∉ns->σ n=some y->∀b,Blk κ n y b->w'.heap[b]? =w.heap[b]?:=fun n y d l b hb=>O b (jcx h l hb) fun hl=>by
     obtain⟨m,x,hm,s,hb'⟩:=q b hl;exact h.apart n y m x l s (fun e'=>d (e'▸hm)) b hb hb'
    have aA:∀n y,n∉ns->σ n=some y->∀b,Blk κ n y b->¬Lent κc obs b:=fun n y d l b hb hl=>by
     obtain⟨m,z,hm,s,hb'⟩:=q b hl;exact h.apart n y m z l s (fun e'=>d (e'▸hm)) b hb hb'
    have ap:∀(j n:Nat)(x:Obj'),ns[j]? =some n->obs'[j]? =some x->(κ2 n).v=(κl j).v/\ (κ2 (nm+new.length+j)).r=(κl j).r:=fun j n x a k=>by
     obtain⟨y,l⟩:=Z n (List.mem_of_getElem? a);have ay:=(List.getElem?_eq_some_iff.1 k).1;rw[E n (h.nb n y l).1,ret.lv j ay,H j n a,tk_v,az j (by omega)];exact⟨rfl,rfl⟩
    have hfl:∀j,j<obs'.length+new.length->(κ2 (jgp nm ns obs'.length j)).v=(κl j).v:=fun j a=>by
     unfold jgp;cases hb:Nat.blt j obs'.length with
     |true=>
      have a:j<obs'.length:=by simpa[Nat.blt_eq]using hb
      have hjn:j<ns.length:=by omega
      have e1:ns[j]? =some (ns[j]'hjn):=List.getElem?_eq_getElem hjn;have e2:ns.getD j 0=ns[j]'hjn:=by rw[List.getD_eq_getElem?_getD,e1];rfl
      simp only[cond_true];rw[e2];exact(ap j _ _ e1 (List.getElem?_eq_getElem a)).1
     |false=>
      have p:obs'.length<=j:=by
       rcases Nat.lt_or_ge j obs'.length with h'|h'
       ·have:Nat.blt j obs'.length=true:=by simpa[Nat.blt_eq]using h'
        rw[this]at hb;cases hb
       ·exact h'
      simp only[cond_false];have:=ret.lk (j-obs'.length) (by omega);rw[A _ (by omega),<-this,show obs'.length+(j-obs'.length)=j by omega]
    have C:∀n y,app (jcl nm new.length ns obs'++jdo nm new) σ n=some y->∀b,Blk κ2 n y b->
      (∃j x,n=nm+j/\ new[j]? =some x/\ Blk κ' j (x.regen j) b/\ (Lent κc obs b \/w.heap.size<=b)/\ ¬F' b) \/
      (∃(j:Nat)(x:Obj'),ns[j]? =some n/\ obs'[j]? =some x/\ Blk κl j (x.regen j) b/\ (Lent κc obs b \/w.heap.size<=b)/\ ¬F' b) \/(n∉ns/\ σ n=some y/\ Blk κ n y b/\ b<w.heap.size):=by
     intro n y l b hb;rcases aw n y l with⟨j,x,rfl,a,rfl⟩|⟨j,x,a,k,rfl⟩|⟨d,B⟩
     ·have t:=(List.getElem?_eq_some_iff.1 a).1;have hb:Blk κ' j (x.regen j) b:=Blk.turnL (by rw[A j t]) (by rw[A j t]) hb;have:=ret.new.blk j x a b hb;exact .inl ⟨j,x,rfl,a,hb,this.1,this.2⟩
     ·obtain⟨e1,e2⟩:=ap j n x a k;have hb:Blk κl j (x.regen j) b:=Blk.turnL e1 e2 hb;have:=ret.lent.blk j x k b hb;exact .inr (.inl ⟨j,x,a,k,hb,this.1,this.2⟩)
     ·have hb:=hb.kap E (h.nb n y B).1 (h.nb n y B).2;exact .inr (.inr ⟨d,B,hb,jcx h B hb⟩)
    have aq:=ret.wx.size;refine⟨r.shift nm,_,κ2,F2,⟨r,new,obs',ret.post,rfl,rfl⟩,?_,?_,NB.shift (by omega) ret.nb⟩
    ·refine⟨E,fun b hb=>.inl hb,⟨ret.wx.os,ret.wx.tape,ret.wx.output,aq,fun b hb=>?_⟩,fun _ ho=>ja3 ho,?_⟩
     ·rcases hb with hb|hb
      ·exact aj b hb
      ·refine O b (Nat.lt_of_lt_of_le (h.kB b hb) h.bs) fun hl=>?_;obtain⟨n,x,_,s,hb'⟩:=q b hl;exact(h.free n x s b hb').2.1 hb
     ·refine⟨fun n y l=>?_,fun n y l=>?_,fun n y l b hb=>?_,fun n y n' y' l au Y b hb hb'=>?_,fun b hb=>?_,h.kB,h.gB,Nat.le_trans h.bs aq,h.inv.mono (fun b hb=>.inl hb) aj,fun j a=>⟨ja3 (h.lt j a).1,by rw[E j (h.lt j a).1];exact(h.lt j a).2⟩⟩
      ·rcases aw n y l with⟨j,x,rfl,a,rfl⟩|⟨j,x,a,k,rfl⟩|⟨d,B⟩
       ·have t:=(List.getElem?_eq_some_iff.1 a).1;obtain⟨g1,L⟩:=ret.new.ok j x a;exact jcb.turnL (by rw[A j t]) (by rw[A j t]) L (fun i hi=>by rw[A i hi]) (V.imp id fun hfl=>hfl.2.1 x (List.mem_of_getElem? a)) g1
       ·obtain⟨e1,e2⟩:=ap j n x a k;obtain⟨g1,L⟩:=ret.lent.ok j x k;exact jcb.turnL e1 e2 L hfl (V.imp id fun hfl=>hfl.2.2 x (List.mem_of_getElem? k)) g1
       ·have hu:=h.nb n y B;exact jcb.mono E (fun b hb=>.inl hb) aj hu.1 hu.2 (ad n y d B) (h.ok n y B)
      ·rcases aw n y l with⟨j,x,rfl,a,rfl⟩|⟨j,x,a,k,rfl⟩|⟨d,B⟩
       ·have t:=(List.getElem?_eq_some_iff.1 a).1;have aH:Un U nm (nm+j):=.inr ⟨by omega,by omega⟩;exact⟨aH,NBl.nbo aH (fun i hi=>.inr ⟨by omega,by omega⟩) (ret.new.ok j x a).2⟩
       ·obtain⟨z,hz⟩:=Z n (List.mem_of_getElem? a);have ay:=(List.getElem?_eq_some_iff.1 k).1;exact⟨ja3 (h.nb n z hz).1,NBl.nbo (.inr ⟨by omega,by omega⟩) (fun i hi=>by
         unfold jgp;cases hb:Nat.blt i obs'.length with
         |false=>exact .inr ⟨by simp only[cond_false];omega,by simp only[cond_false];omega⟩
         |true=>
         have aQ:i<obs'.length:=by simpa[Nat.blt_eq]using hb
         simp only[cond_true];have hin:i<ns.length:=by omega
         have e1:ns.getD i 0=ns[i]'hin:=by rw[List.getD_eq_getElem?_getD,List.getElem?_eq_getElem hin];rfl
         obtain⟨z',R⟩:=Z (ns.getD i 0) (by rw[e1];exact List.getElem_mem hin);exact ja3 (h.nb _ z' R).1) (ret.lent.ok j x k).2⟩
       ·have hu:=h.nb n y B;exact⟨ja3 hu.1,NBo.mono (fun _ ho=>ja3 ho) hu.2⟩
      ·have ln:(Lent κc obs b \/w.heap.size<=b)->¬F' b->¬F2 b/\ ¬cx.K b/\ cx.G b:=by
        intro g1 L;rcases g1 with g1|g1
        ·obtain⟨m,z,_,s,hb'⟩:=q b g1;have:=h.free m z s b hb';refine⟨fun hF=>?_,this.2⟩;rcases hF with hF|hF
         ·exact this.1 hF
         ·exact L hF.1
        ·refine⟨fun hF=>?_,fun hK=>?_,h.gB _ (Nat.le_trans h.bs g1)⟩
         ·rcases hF with hF|hF
          ·have:=(h.fG b hF).2;omega
          ·exact L hF.1
         ·have:=h.kB b hK;have:=h.bs;omega
       rcases C n y l b hb with⟨j,_,_,_,_,g1,L⟩|⟨j,_,_,_,_,g1,L⟩|⟨d,k,hb',t⟩
       ·exact ln g1 L
       ·exact ln g1 L
       ·have:=h.free n y k b hb';refine⟨fun hF=>?_,this.2⟩;rcases hF with hF|⟨_,hF|hF⟩
        ·exact this.1 hF
        ·exact aA n y d k b hb' hF
        ·omega
      ·have lo:∀n y,n∉ns->σ n=some y->Blk κ n y b->b<w.heap.size->(Lent κc obs b \/w.heap.size<=b)->False:=by
        intro n y d l hb t hl;rcases hl with hl|hl
        ·exact aA n y d l b hb hl
        ·omega
       rcases C n y l b hb with⟨j,z,e1,a,g0,g1,L⟩|⟨j,z,a,hz,g0,g1,L⟩|⟨d,k,g0,t⟩
       ·rcases C n' y' au b hb' with⟨j',z',ah,p,g,I,T⟩|⟨j',z',p,R,g,I,T⟩|⟨ac,aa,g,Q⟩
        ·exact ret.new.apart j z j' z' a p (fun e'=>Y (by rw[e1,ah,e'])) b g0 g
        ·exact ret.apart j' z' j z R a b g g0
        ·exact lo n' y' ac aa g Q g1
       ·rcases C n' y' au b hb' with⟨j',z',ah,p,g,I,T⟩|⟨j',z',p,R,g,I,T⟩|⟨ac,aa,g,Q⟩
        ·exact ret.apart j z j' z' hz p b g0 g
        ·exact ret.lent.apart j z j' z' hz R (fun e'=>Y (by subst e';rw[a]at p;cases p;rfl)) b g0 g
        ·exact lo n' y' ac aa g Q g1
       ·rcases C n' y' au b hb' with⟨j',z',ah,p,g,I,T⟩|⟨j',z',p,R,g,I,T⟩|⟨ac,aa,g,Q⟩
        ·exact lo n y d k g0 t I
        ·exact lo n y d k g0 t I
        ·exact h.apart n y n' y' k aa Y b g0 g
      ·rcases hb with hb|hb
       ·exact⟨(h.fG b hb).1,Nat.lt_of_lt_of_le (h.fG b hb).2 aq⟩
       ·refine⟨?_,ret.flt b hb.1⟩;rcases hb.2 with g1|g1
        ·obtain⟨m,z,_,s,hb'⟩:=q b g1;exact(h.free m z s b hb').2.2
        ·exact h.gB b (Nat.le_trans h.bs g1)
    ·refine RV.shift (m:=new.length) (fun j a=>A j a) ret.nb ?_;rcases V with V|hfl
     ·exact RV.mono (U:=(· <new.length)) (fun _ _=>rfl) V (fun _ _=>rfl) ret.nb ret.rv
     ·exact RV.flat hfl.1 ret.rv

end
end Go.Ab
