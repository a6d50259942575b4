/- My own layer, twelfth part: a function's contract from its body's triple. -/
import Derived.Test.YtimecodbnhcnoaaGreatAbRun
namespace Go.Ab
set_option linter.unusedVariables false
set_option linter.unusedSimpArgs false

def jmh:Value:=.slice none 0 0

mutual
def DLe:D->D->Prop
 | .sc v,d'=>d'=.sc v \/(v=jmh/\ ∃es,d'=.sl es [])
 | .sl es l,d'=>d'=.sl es l
 | .agg l,d'=>∃l',d'=.agg l'/\ DLes l l'
def DLes:List D->List D->Prop
 |[],l'=>l'=[]
 |d::l,l'=>∃d' r,l'=d'::r/\ DLe d d'/\ DLes l r
end

mutual
def Exp(k:Nat)(σ:Objs)(ns:List Nat):AV->AV->Prop
 | .dat d,r=>∃d',r=.dat d'/\ DLe d d'
 | .own o,r=>(∃es l,slO σ o=some (es,l)/\ o∉ns/\ k<=o/\ r=.dat (.sl es l)) \/∃j,ns[j]? =some o/\ r=.own j
 | .aggv l,r=>(∃ds,r=.dat (.agg ds)/\ ExpD k σ ns l ds) \/∃l',r=.aggv l'/\ ExpL k σ ns l l'
 | .tup l,r=>∃l',r=.tup l'/\ ExpL k σ ns l l'
 | .ref o i,r=>r=.unk \/∃j,ns[j]? =some o/\ r=.ref j i
 |_,r=>r=.unk
def ExpL(k:Nat)(σ:Objs)(ns:List Nat):List AV->List AV->Prop
 |[],l'=>l'=[]
 |x::l,l'=>∃y r,l'=y::r/\ Exp k σ ns x y/\ ExpL k σ ns l r
def ExpD(k:Nat)(σ:Objs)(ns:List Nat):List AV->List D->Prop
 |[],l'=>l'=[]
 |x::l,l'=>∃y r,l'=y::r/\ Exp k σ ns x (.dat y)/\ ExpD k σ ns l r
end

def jhg(ty:TypeId->Option TyE)(σ:Objs)(env:List AV):ResultVar->Option AV
 | .tmp t=>some (env.getD t .und)
 | .cell a t=>
  match env.getD a .und,ty t with
  | .ref o i,some T=>
   match σ o with
   |some (.box _ l)=>if T.isAgg then(if i+T.size<=l.length then some (.aggv ((l.drop i).take T.size))else none)else l[i]?
   |_=>none
  |_,_=>none
def jfm(ty:TypeId->Option TyE)(σ:Objs)(env:List AV):List ResultVar->Option (List AV)
 |[]=>some []
 |x::l=>match jhg ty σ env x,jfm ty σ env l with
  |some v,some r=>some (v::r)
  |_,_=>none
def jps(ty:TypeId->Option TyE)(rs:List ResultVar)(σ:Objs)(env:List AV):Option AV:=
 match jfm ty σ env rs with
 |some [x]=>some x
 |some l=>some (.tup l)
 |none=>none

def Fin(ty:TypeId->Option TyE)(rs:List ResultVar)(k:Nat)(post:AV->List Obj'->List Obj'->Prop)(e:Exit)(s:St):Prop:=
 (match e with| .normal| .ret=>True|_=>False)/\
 ∃v r ns new obs',jps ty rs s.ob s.env=some v/\ Exp k s.ob ns v r/\ post r new obs'/\ jex s.ob ns=some new/\ jir s.ob (ixN (List.range k++ns)) (List.range k)=some obs'/\ ns.Nodup/\ (∀n∈ns,k<=n)/\
  (∀x∈new,NBl new.length x)/\ (∀x∈obs',NBl (obs'.length+new.length) x)

def jhr(obs:List Obj'):Objs:=fun n=>(obs[n]?).map (·.regen n)

section
variable{P:Program}{cx:Cx}{κ:Kap}{F:Nat->Prop}{w:World}{U:Nat->Prop}{nm:Nat}{σ:Objs}{ty:TypeId->Option TyE}{Γ:Nat->Option FnSpec}

mutual
theorem RD.le:∀{d d':D}{v:Value},DLe d d'->RD F w d v->RD F w d' v
 | .sc u,d',v,h,a=>by
  unfold DLe at h;rcases h with rfl|⟨rfl,es,rfl⟩
  ·exact a
  ·unfold RD at a ⊢;exact⟨none,0,a.1,Nat.le_refl _,by unfold maxLen;omega,fun _=>rfl,.inl rfl⟩
 | .sl es l,d',v,h,a=>by unfold DLe at h;subst h;exact a
 | .agg l,d',v,h,a=>by
  unfold DLe at h;obtain⟨l',rfl,h⟩:=h;unfold RD at a ⊢;obtain⟨cs,b,c⟩:=a;exact⟨cs,b,RC.le h c⟩
theorem RC.le:∀{l l':List D}{us:List Value},DLes l l'->RC F w l us->RC F w l' us
 |[],l',us,h,a=>by unfold DLes at h;subst h;exact a
 |d::l,l',us,h,a=>by
  unfold DLes at h;obtain⟨d',r,rfl,i,j⟩:=h;unfold RC at a ⊢;obtain⟨u,b,c,e,f,g⟩:=a;exact⟨u,b,c,e,RD.le i f,RC.le j g⟩
end

mutual
theorem Exp.rv{k:Nat}{κ':Kap}{F':Nat->Prop}{ns:List Nat}(h:ORel cx κ F w U σ)(hF:∀b,F b->F' b)(hb:∀o es l x,σ o=some x->x.sl=some (es,l)->o∉ns->k<=o->∀b,Blk κ o x b->F' b)(g:∀(j o:Nat),ns[j]? =some o->(κ' j).v=(κ o).v):
  ∀{x r:AV}{v:Value},Exp k σ ns x r->RV κ F w x v->RV κ' F' w r v
 | .dat d,r,v,a,c=>by
  unfold Exp at a;obtain⟨d',rfl,hd⟩:=a;unfold RV at c ⊢;exact RD.le hd (RD.mono hF (fun _ _=>rfl) c)
 | .own o,r,v,a,c=>by
  unfold Exp at a;unfold RV at c;rcases a with⟨es,l,e,f,m,rfl⟩|⟨j,n,rfl⟩
  ·unfold RV;rw[c.1];obtain⟨x,a,hs⟩:=jen e;exact jr0 h hF a hs (hb o es l x a hs f m)
  ·unfold RV;rw[g j o n];exact c
 | .aggv l,r,v,a,c=>by
  unfold Exp at a;unfold RV at c;obtain⟨cs,e,f⟩:=c;rcases a with⟨ds,rfl,a⟩|⟨l',rfl,a⟩
  ·unfold RV RD;exact⟨cs,e,ExpD.rv h hF hb g a f⟩
  ·unfold RV;exact⟨cs,e,ExpL.rvc h hF hb g a f⟩
 | .tup l,r,v,a,c=>by
  unfold Exp at a;obtain⟨l',rfl,a⟩:=a;unfold RV at c ⊢;obtain⟨cs,e,f⟩:=c;exact⟨cs,e,ExpL.rvs h hF hb g a f⟩
 | .ref o i,r,v,a,c=>by
  unfold Exp at a;rcases a with rfl|⟨j,n,rfl⟩
  ·unfold RV;trivial
  ·unfold RV at c ⊢;rw[g j o n];exact c
 | .eref _ _ _ _,r,v,a,c=>by unfold Exp at a;subst a;unfold RV;trivial
 | .row _ _ _ _,r,v,a,c=>by unfold Exp at a;subst a;unfold RV;trivial
 | .rref _ _ _ _ _ _ _,r,v,a,c=>by unfold Exp at a;subst a;unfold RV;trivial
 | .vw _ _ _ _ _ _ _,r,v,a,c=>by unfold Exp at a;subst a;unfold RV;trivial
 | .fp _,r,v,a,c=>by unfold Exp at a;subst a;unfold RV;trivial
 | .fn _ _,r,v,a,c=>by unfold Exp at a;subst a;unfold RV;trivial
 | .und,r,v,a,c=>by unfold Exp at a;subst a;unfold RV;trivial
 | .unk,r,v,a,c=>by unfold Exp at a;subst a;unfold RV;trivial
theorem ExpL.rvs{k:Nat}{κ':Kap}{F':Nat->Prop}{ns:List Nat}(h:ORel cx κ F w U σ)(hF:∀b,F b->F' b)(hb:∀o es l x,σ o=some x->x.sl=some (es,l)->o∉ns->k<=o->∀b,Blk κ o x b->F' b)(e:∀(j o:Nat),ns[j]? =some o->(κ' j).v=(κ o).v):
  ∀{l l':List AV}{us:List Value},ExpL k σ ns l l'->RVs κ F w l us->RVs κ' F' w l' us
 |[],l',us,c,a=>by unfold ExpL at c;subst c;unfold RVs at a ⊢;exact a
 |x::l,l',us,c,a=>by
  unfold ExpL at c;obtain⟨y,r,rfl,m,n⟩:=c;unfold RVs at a ⊢;obtain⟨u,d,f,g,i⟩:=a;exact⟨u,d,f,Exp.rv h hF hb e m g,ExpL.rvs h hF hb e n i⟩
theorem ExpL.rvc{k:Nat}{κ':Kap}{F':Nat->Prop}{ns:List Nat}(h:ORel cx κ F w U σ)(hF:∀b,F b->F' b)(hb:∀o es l x,σ o=some x->x.sl=some (es,l)->o∉ns->k<=o->∀b,Blk κ o x b->F' b)(f:∀(j o:Nat),ns[j]? =some o->(κ' j).v=(κ o).v):
  ∀{l l':List AV}{us:List Value},ExpL k σ ns l l'->RVc κ F w l us->RVc κ' F' w l' us
 |[],l',us,c,a=>by unfold ExpL at c;subst c;unfold RVc at a ⊢;exact a
 |x::l,l',us,c,a=>by
  unfold ExpL at c;obtain⟨y,r,rfl,n,p⟩:=c;unfold RVc at a ⊢;obtain⟨u,e,g,d,i,m⟩:=a;exact⟨u,e,g,d,Exp.rv h hF hb f n i,ExpL.rvc h hF hb f p m⟩
theorem ExpD.rv{k:Nat}{κ':Kap}{F':Nat->Prop}{ns:List Nat}(h:ORel cx κ F w U σ)(hF:∀b,F b->F' b)(hb:∀o es l x,σ o=some x->x.sl=some (es,l)->o∉ns->k<=o->∀b,Blk κ o x b->F' b)(f:∀(j o:Nat),ns[j]? =some o->(κ' j).v=(κ o).v):
  ∀{l:List AV}{ds:List D}{us:List Value},ExpD k σ ns l ds->RVc κ F w l us->RC F' w ds us
 |[],ds,us,c,a=>by unfold ExpD at c;subst c;unfold RVc at a;unfold RC;exact a
 |x::l,ds,us,c,a=>by
  unfold ExpD at c;obtain⟨y,r,rfl,n,p⟩:=c;unfold RVc at a;obtain⟨u,e,g,d,i,m⟩:=a;have:=Exp.rv h hF hb f n i;unfold RV at this;unfold RC;exact⟨u,e,g,d,this,ExpD.rv h hF hb f p m⟩
end

mutual
theorem Exp.nb{k:Nat}{ns:List Nat}:∀{x r:AV},Exp k σ ns x r->NB (· <ns.length) r
 | .dat d,r,a=>by unfold Exp at a;obtain⟨d',rfl,_⟩:=a;unfold NB;trivial
 | .own o,r,a=>by
  unfold Exp at a;rcases a with⟨es,l,e,f,c,rfl⟩|⟨j,b,rfl⟩
  ·unfold NB;trivial
  ·unfold NB;exact(List.getElem?_eq_some_iff.1 b).1
 | .aggv l,r,a=>by
  unfold Exp at a;rcases a with⟨ds,rfl,a⟩|⟨l',rfl,a⟩
  ·unfold NB;trivial
  ·unfold NB;exact ExpL.nb a
 | .tup l,r,a=>by
  unfold Exp at a;obtain⟨l',rfl,a⟩:=a;unfold NB;exact ExpL.nb a
 | .ref o i,r,a=>by
  unfold Exp at a;rcases a with rfl|⟨j,b,rfl⟩
  ·unfold NB;trivial
  ·unfold NB;exact(List.getElem?_eq_some_iff.1 b).1
 | .eref _ _ _ _,r,a=>by unfold Exp at a;subst a;unfold NB;trivial
 | .row _ _ _ _,r,a=>by unfold Exp at a;subst a;unfold NB;trivial
 | .rref _ _ _ _ _ _ _,r,a=>by unfold Exp at a;subst a;unfold NB;trivial
 | .vw _ _ _ _ _ _ _,r,a=>by unfold Exp at a;subst a;unfold NB;trivial
 | .fp _,r,a=>by unfold Exp at a;subst a;unfold NB;trivial
 | .fn _ _,r,a=>by unfold Exp at a;subst a;unfold NB;trivial
 | .und,r,a=>by unfold Exp at a;subst a;unfold NB;trivial
 | .unk,r,a=>by unfold Exp at a;subst a;unfold NB;trivial
theorem ExpL.nb{k:Nat}{ns:List Nat}:∀{l l':List AV},ExpL k σ ns l l'->NBs (· <ns.length) l'
 |[],l',a=>by unfold ExpL at a;subst a;unfold NBs;trivial
 |x::l,l',a=>by
  unfold ExpL at a;obtain⟨y,r,rfl,b,c⟩:=a;unfold NBs;exact⟨Exp.nb b,ExpL.nb c⟩
end

theorem jtg(D:∀t x,ty t=some x->TyOK P t x){env:List AV}{a:Act}(B:RelU cx κ F U env σ a w){rs:List ResultVar}{fn:Func}(C:fn.results.toList=rs){v:AV}(h:jps ty rs σ env=some v):
  ∃u,(results fn a.tmps).run P w=.ok u w/\ RV κ F w v u:=by
 have one:∀(x:ResultVar)(y:AV),jhg ty σ env x=some y->∃u,(match x with| .tmp t=>pure (a.tmps.getD t undef)| .cell b t=>do loadVar t (<-asAddr (a.tmps.getD b undef)):Sem Value).run P w=.ok u w/\ RV κ F w y u:=by
  intro x y e;cases x with
  |tmp t=>
   simp only[jhg,Option.some.injEq]at e;subst e;exact⟨_,by simp,B.env.rv t⟩
  |cell b t=>
   simp only[jhg]at e;split at e
   ·rename_i o i T hb S;have n:=D _ _ S;have G:=B.env.rv b;rw[hb]at G;unfold RV at G;obtain⟨bb,V,N⟩:=G;split at e
    ·rename_i l A;obtain⟨Z,arr,H,O,I⟩:=B.orel.ok o _ A;rw[V]at H;simp at H;subst H;have M:=I.length;split at e
     ·rename_i z;split at e
      ·rename_i W;simp only[Option.some.injEq]at e;subst e;refine⟨_,?_,jpo ((I.drop i).take T.size)⟩;simp only[N,asAddr,Sem.run_bind,Sem.run_pure,Result.andThen_ok];refine jbr n z ?_ ?_
       ·rw[List.length_take,List.length_drop];omega
       ·intro j u m;rw[jg2 O];rw[List.getElem?_take]at m;split at m
        ·rw[List.getElem?_drop]at m;simpa using m
        ·cases m
      ·cases e
     ·rename_i z;obtain⟨u,k,g,L⟩:=RVc.at i y I e;refine⟨u,?_,L⟩;simp only[N,asAddr,Sem.run_bind,Sem.run_pure,Result.andThen_ok];exact jbq n (by simpa using z) (by rw[jg2 O];simpa using k)
    ·cases e
   ·cases e
 have p:∀(l:List ResultVar)(vs:List AV),jfm ty σ env l=some vs->∃us:List Value,(l.mapM fun x=>(match x with| .tmp t=>pure (a.tmps.getD t undef)| .cell b t=>do loadVar t (<-asAddr (a.tmps.getD b undef)):Sem Value)).run P w=.ok us w/\ RVs κ F w vs us:=by
  intro l
  induction l with
  |nil=>intro vs h;simp only[jfm,Option.some.injEq]at h;subst h;exact⟨[],by simp,by unfold RVs;rfl⟩
  |cons x l X=>
   intro vs h;simp only[jfm]at h;split at h
   ·rename_i y r k g;simp only[Option.some.injEq]at h;subst h;obtain⟨u,q,d⟩:=one x y k;obtain⟨us,Q,R⟩:=X r g;refine⟨u::us,?_,by unfold RVs;exact⟨u,us,rfl,d,R⟩⟩;simp only[List.mapM_cons,Sem.run_bind,q,Result.andThen_ok,Q,Sem.run_pure]
   ·cases h
 unfold jps at h;have J:∀us:List Value,(rs.mapM fun x=>(match x with| .tmp t=>pure (a.tmps.getD t undef)| .cell b t=>do loadVar t (<-asAddr (a.tmps.getD b undef)):Sem Value)).run P w=.ok us w->
   (results fn a.tmps).run P w=.ok (if h:us.toArray.size=1 then us.toArray[0]else .tuple us.toArray) w:=by
  intro us E;unfold results;rw[Array.mapM_eq_mapM_toList,map_eq_pure_bind,C];simp only[Sem.run_bind,Sem.run_pure];have:(rs.mapM fun x=>(match x with| .tmp t=>pure (a.tmps.getD t undef)| .cell b t=>do loadVar t (<-asAddr (a.tmps.getD b undef)):Sem Value)).run P w=.ok us w:=E
  erw [this]
  rfl
 cases f:jfm ty σ env rs with
 |none=>rw[f]at h;cases h
 |some l=>
  rw[f]at h;obtain⟨us,q,d⟩:=p rs l f;have c:=J us q
  match l,us,h,d,c with
  |[],us,h,d,c=>
   unfold RVs at d;subst d;simp only[Option.some.injEq]at h;subst h;exact⟨_,by simpa using c,by unfold RV;exact⟨[],rfl,by unfold RVs;rfl⟩⟩
  |[x],us,h,d,c=>
   unfold RVs at d;obtain⟨u,K,rfl,k,g⟩:=d;unfold RVs at g;subst g;simp only[Option.some.injEq]at h;subst h;exact⟨u,by simpa using c,k⟩
  |x::y::l,us,h,d,c=>
   have s:=d;unfold RVs at d;obtain⟨u,K,rfl,k,g⟩:=d;unfold RVs at g;obtain⟨u2,Y,rfl,L,h4⟩:=g;simp only[Option.some.injEq]at h;subst h;refine⟨_,by simpa using c,?_⟩;unfold RV;exact⟨_,rfl,s⟩

end
end Go.Ab
