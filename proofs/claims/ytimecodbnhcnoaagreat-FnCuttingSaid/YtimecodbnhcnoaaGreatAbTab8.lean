/- My own layer: tables: what their operations leave (8): a row is taken out and appended to. -/
import Derived.Test.YtimecodbnhcnoaaGreatAbTab7
namespace Go.Ab
set_option linter.unusedVariables false
set_option linter.unusedSimpArgs false
section
variable{P:Program}{cx:Cx}{κ:Kap}{F:Nat->Prop}{w:World}{U:Nat->Prop}{nm:Nat}{σ:Objs}{ty:TypeId->Option TyE}{Γ:Nat->Option FnSpec}

theorem joo(q:ORel cx κ F w U σ){n o g k j:Nat}(hn:¬U n){t:TabV}(ht:jb0 σ o g=some t)(hh:t.hole=none)(hk:k<t.l.length){e':TypeId}(hm:jao t.mask j=some e'):
  ORel cx (kapN κ n (kv ((κ g).r k j))) F w (fun m=>U m \/m=n) (upd (upd σ o (some (.tab t.e t.es t.mask t.l g (some (k,j))))) n (some (.arr e' (ja0 t.l k j).1 (ja0 t.l k j).2))):=by
 have u:=jbp ht;rw[hh]at u;have ac:(jao t.mask j).isSome=true:=by rw[hm];rfl
 have p:=q.nb o _ u;obtain⟨e2,W,T,aa,i⟩:=jfj q ht hk ac (by rw[hh];rfl);rw[hm]at W;cases W;rw[hh]at i;have M:∀m,U m->kapN κ n (kv ((κ g).r k j)) m=κ m:=fun m hm=>by
  have:m≠n:=fun e=>hn (e▸hm);simp[kapN,this]
 have Y:kapN κ n (kv ((κ g).r k j)) n=kv ((κ g).r k j):=by simp[kapN]
 have af:o≠n:=fun e=>hn (e▸p.1);have f:TabOK F w t.e t.es t.mask t.l (κ o).v (κ g).r none:=q.ok o _ u;have s:∀k' j',jbv t.mask t.l.length (some (k,j)) k' j'->jbv t.mask t.l.length none k' j'/\ (k',j')≠(k,j):=fun k' j' h=>⟨⟨h.1,h.2.1,by simp⟩,fun e=>h.2.2 (by rw[e])⟩;have hσ:∀m y,upd (upd σ o (some (.tab t.e t.es t.mask t.l g (some (k,j))))) n (some (.arr e' (ja0 t.l k j).1 (ja0 t.l k j).2)) m=some y->
   (m=n/\ y=.arr e' (ja0 t.l k j).1 (ja0 t.l k j).2) \/(m≠n/\ m=o/\ y=.tab t.e t.es t.mask t.l g (some (k,j))) \/(m≠n/\ m≠o/\ σ m=some y):=fun m y B=>by
  by_cases a:m=n
  ·subst a;rw[jax]at B;exact .inl ⟨rfl,(Option.some.inj B).symm⟩
  ·rw[jbz a]at B;by_cases C:m=o
   ·subst C;rw[jax]at B;exact .inr (.inl ⟨a,rfl,(Option.some.inj B).symm⟩)
   ·rw[jbz C]at B;exact .inr (.inr ⟨a,C,B⟩)
 have A:∀m y,upd (upd σ o (some (.tab t.e t.es t.mask t.l g (some (k,j))))) n (some (.arr e' (ja0 t.l k j).1 (ja0 t.l k j).2)) m=some y->∀b,Blk (kapN κ n (kv ((κ g).r k j))) m y b->
   (m=n/\ blk ((κ g).r k j)=some b) \/(m=o/\ m≠n/\ (blk (κ o).v=some b \/∃k' j',jbv t.mask t.l.length none k' j'/\ (k',j')≠(k,j)/\ blk ((κ g).r k' j')=some b)) \/(m≠n/\ m≠o/\ σ m=some y/\ Blk κ m y b):=by
  intro m y B b hb;rcases hσ m y B with⟨rfl,rfl⟩|⟨a,rfl,rfl⟩|⟨a,C,I⟩
  ·rcases hb with hb|hb
   ·rw[Y]at hb;exact .inl ⟨rfl,hb⟩
   ·exact hb.elim
  ·refine .inr (.inl ⟨rfl,a,?_⟩);rcases hb with hb|⟨k',j',ad,hb⟩
   ·rw[M m p.1]at hb;exact .inl hb
   ·rw[M g p.2]at hb;obtain⟨q1,H⟩:=s k' j' ad;exact .inr ⟨k',j',q1,H,hb⟩
  ·have G:=q.nb m y I;exact .inr (.inr ⟨a,C,I,hb.kap M G.1 G.2⟩)
 refine⟨fun m y B=>?_,fun m y B=>?_,fun m y B b hb=>?_,fun m y N R B L D b hb J=>?_,q.fG,q.kB,q.gB,q.bs,q.inv,fun j' K=>⟨.inl (q.lt j' K).1,by rw[M j' (q.lt j' K).1];exact(q.lt j' K).2⟩⟩
 ·rcases hσ m y B with⟨rfl,rfl⟩|⟨a,rfl,rfl⟩|⟨a,C,I⟩
  ·show jb7 F w e' (ja0 t.l k j).1 (kapN κ m (kv ((κ g).r k j)) m).v (ja0 t.l k j).2;rw[Y];exact T
  ·show TabOK F w t.e t.es t.mask t.l (kapN κ n (kv ((κ g).r k j)) m).v (kapN κ n (kv ((κ g).r k j)) g).r (some (k,j));rw[M m p.1,M g p.2];obtain⟨us,X,ae,hc⟩:=f.mem;refine⟨f.pos,f.mlen,f.cells,⟨us,X,ae,fun k' d j' c ab hd=>?_⟩,fun k1 j1 k2 j2 q1 H D=>f.apart k1 j1 k2 j2 (s _ _ q1).1 (s _ _ H).1 D,fun k1 j1 q1=>f.outer k1 j1 (s _ _ q1).1⟩;obtain⟨x,x1,x2,x3⟩:=hc k' d j' c ab hd;refine⟨x,x1,x2,?_⟩;cases V:jao t.mask j' with
   |none=>rw[V]at x3;exact x3
   |some e2=>
    rw[V]at x3;simp only[]at x3 ⊢;rcases x3 with⟨x4,x3|x3⟩
    ·cases x3
    ·exact⟨x4,.inr x3⟩
  ·have G:=q.nb m y I;exact jcb.mono M (fun _ hb=>hb) (fun _ _=>rfl) G.1 G.2 (fun _ _=>rfl) (q.ok m y I)
 ·rcases hσ m y B with⟨rfl,rfl⟩|⟨a,rfl,rfl⟩|⟨a,C,I⟩
  ·exact⟨.inr rfl,trivial⟩
  ·exact⟨.inl p.1,.inl p.2⟩
  ·have G:=q.nb m y I;exact⟨.inl G.1,NBo.mono (fun _ h=>.inl h) G.2⟩
 ·rcases A m y B b hb with⟨_,a⟩|⟨_,_,a⟩|⟨_,_,a,C⟩
  ·exact q.free o _ u b (.inr ⟨k,j,i,a⟩)
  ·refine q.free o _ u b ?_;rcases a with a|⟨k',j',q1,_,H⟩
   ·exact .inl a
   ·exact .inr ⟨k',j',q1,H⟩
  ·exact q.free m y a b C
 ·rcases A m y B b hb with⟨rfl,a⟩|⟨rfl,_,a⟩|⟨q1,H,a,C⟩
  ·rcases A N R L b J with⟨rfl,_⟩|⟨rfl,_,z⟩|⟨Z,E,z,S⟩
   ·exact D rfl
   ·rcases z with z|⟨k',j',O,r2,Q⟩
    ·exact f.outer k j i b a z
    ·exact f.apart k' j' k j O i r2 b Q a
   ·exact q.apart o _ N R u z (Ne.symm E) b (.inr ⟨k,j,i,a⟩) S
  ·have hB:Blk κ m (.tab t.e t.es t.mask t.l g none) b:=by
    rcases a with a|⟨k',j',O,_,Q⟩
    ·exact .inl a
    ·exact .inr ⟨k',j',O,Q⟩
   rcases A N R L b J with⟨rfl,z⟩|⟨rfl,_,_⟩|⟨Z,E,z,S⟩
   ·rcases a with a|⟨k',j',O,r2,Q⟩
    ·exact f.outer k j i b z a
    ·exact f.apart k' j' k j O i r2 b Q z
   ·exact D rfl
   ·exact q.apart m _ N R u z (Ne.symm E) b hB S
  ·rcases A N R L b J with⟨rfl,z⟩|⟨rfl,_,z⟩|⟨Z,E,z,S⟩
   ·exact q.apart m y o _ a u H b C (.inr ⟨k,j,i,z⟩)
   ·refine q.apart m y N _ a u H b C ?_;rcases z with z|⟨k',j',O,_,Q⟩
    ·exact .inl z
    ·exact .inr ⟨k',j',O,Q⟩
   ·exact q.apart m y N R a z D b C S

theorem jg9(aj:∀t x,ty t=some x->TyOK P t x)(h:ORel cx κ F w U σ)(hf:∀j,j<16->¬U (nm+j)){o:Oper}{ρ:Operand->Value}{e:Operand->AV}(he:∀x,RV κ F w (e x) (ρ x)){x y:Operand}{t:TypeId}
  (ho:o.op=.call {callee:=.builtin .append,args:= #[x,y],argTypes:= #[t,t]}) {el:TypeId} {E:TyE} {ob g k j:Nat} {K:List D} {rd:List Nat} (ab:jbs ty t=some (el,E)) (A:0<E.size) (am:E.zero.cells.size=E.size)
  (ac:e x=.row ob g k j) (ai:slOf σ E.size (e y)=some (K,rd)):ja4 P cx κ F w U nm σ o ρ (jb8 σ nm el E ob g k j K rd):=by
 have ao:∀v w',(Builtin.append_ #[t,t] o.type #[ρ x,ρ y]).run P w=.ok v w'->(execOp ρ o).run P w=.ok (.value v) w':=by
  intro v w' hv;unfold execOp;simp only[ho,resolve,invoke,builtin,Sem.run_bind,Sem.run_pure,Result.andThen_ok,List.map_toArray,List.map_cons,List.map_nil,hv]
 obtain⟨hu,ap⟩:=jbf aj ab;obtain⟨_,i,i1,Y,i3,i4,_⟩:=ap;have hx:=he x;rw[ac]at hx;unfold RV at hx;obtain⟨a2,c2,Z,ak,aa,V,B,f⟩:=jhb h ai (he y);have L:∀u∈Z,u.oneCell'=true:=fun u hu=>by rw[jnd];exact B.ones u hu
 unfold jb8;split
 ·rename_i b T;split
  ·rename_i C;split
   ·rename_i hm;intro J;obtain⟨p1,p2,p3,p4⟩:=(show _/\ _/\ _/\ _ from J);have p:¬U (nm+1):=hf 1 (by omega);have h1:=joo h p T C p1 hm;have af:=jbp T;have q:=h.nb ob _ af;have Q:=h1.ok (nm+1) _ (jax _ _);have W:kapN κ (nm+1) (kv ((κ g).r k j)) (nm+1)=kv ((κ g).r k j):=by simp[kapN]
    obtain⟨us,d,R,_⟩:=(show jb7 F w el (ja0 b.l k j).1 (kapN κ (nm+1) (kv ((κ g).r k j)) (nm+1)).v (ja0 b.l k j).2 from Q);rw[W]at d;rw[p2]at d R;obtain⟨v',w',g1,g2,g3,g4⟩:=jcg (P:=P) (w:=w) t o.type el i E.zero hu i1 i4 (by rw[am,Y]) (by rw[Y];exact A) ((κ g).r k j) (ja0 b.l k j).2.length us (by rw[Y];exact d)
     a2 K.length c2 aa Z (by rw[Y];exact V) f L (by unfold maxLen;omega) (by rw[i3];omega)
    rw[Y]at g2;have N:((ja0 b.l k j).2++K).length=(ja0 b.l k j).2.length+K.length:=List.length_append;rw[<-N]at g2;refine jam (ao _ _ (by rw[hx.1,ak];exact g1)) ?_;have S:=Own.slice d;obtain⟨a,c,e'⟩:=S;have ad:¬(fun m=>U m \/m=nm+1) nm:=fun hc=>by
     rcases hc with hc|hc
     ·exact hf 0 (by omega) hc
     ·omega
    have ha:=jdx h1 ad (v:=(κ g).r k j) (oo:=some (nm+1)) (fun o' O=>by simp at O;subst O;exact⟨⟨_,jax _ _⟩,by rw[W]⟩) (by simp) g3 ⟨_,_,_,e'⟩ g4 g2 (RE.app R B) A;refine⟨.own nm,_,(fun n=>if n=nm then kv v' else kapN κ (nm+1) (kv ((κ g).r k j)) n),F,⟨rfl,rfl⟩,⟨fun m hm'=>?_,fun _ hb=>hb,ha.wx,fun m hm'=>ja3 hm',?_⟩,?_,jb3 _ jbl⟩
    ·have ae:m≠nm+1:=fun M=>p (M▸hm');rw[ha.kap m (.inl hm')];simp[kapN,ae]
    ·have ah:=ha.orel;have hU:∀m,Un (fun m=>U m \/m=nm+1) nm m->Un U nm m:=fun m hm'=>by
      rcases hm' with(hm'|hm')|hm'
      ·exact .inl hm'
      ·exact .inr ⟨by omega,by omega⟩
      ·exact .inr hm'
     have s:=ah.un hU;have aq:ob≠nm:=fun M=>hf 0 (by omega) (by rw[Nat.add_zero];exact M▸q.1);have I:ob≠nm+1:=fun M=>p (M▸q.1);have X:σ (nm+1)=none:=by
      cases hs:σ (nm+1)with
      |none=>rfl
      |some z=>exact absurd (h.nb _ z hs).1 p
     have heq:upd (rmv (upd (upd σ ob (some (.tab b.e b.es b.mask b.l g (some (k,j))))) (nm+1) (some (.arr el (ja0 b.l k j).1 (ja0 b.l k j).2))) (some (nm+1))) nm (some (.arr el E.size ((ja0 b.l k j).2++K)))=
       app [(ob,some (.tab b.e b.es b.mask b.l g (some (k,j)))),(nm,some (.arr el E.size ((ja0 b.l k j).2++K)))] σ:=by
      funext m;show upd _ nm _ m=upd (upd σ ob _) nm _ m;by_cases G:m=nm
      ·subst G;rw[jax,jax]
      ·rw[jbz G,jbz G];simp only[rmv];by_cases H:m=nm+1
       ·subst H;rw[jax,jbz (Ne.symm I),X]
       ·rw[jbz H,jbz H]
     rw[heq]at s;exact s
    ·unfold RV;obtain⟨a,c,e'⟩:=Own.slice g2;exact⟨by simp,by rw[e'];rfl⟩
   ·intro J;exact J.elim
  ·intro J;exact J.elim
 ·intro J;exact J.elim


theorem jij(G:∀t x,ty t=some x->TyOK P t x)(h:ORel cx κ F w U σ){o:Oper}{ρ:Operand->Value}{e:Operand->AV}(u:∀x,RV κ F w (e x) (ρ x))(S:∀x,NB U (e x)){t:TypeId}{x:Operand}{lo hi:Option Operand}(T:o.op=.slice t x lo hi none)
  {el:TypeId} {E:TyE} {ob g k j:Nat} {l i:Int} {I:Operand} {kk:IntKind} (y:jbs ty t=some (el,E)) (z:e x=.row ob g k j) (A:hi=some I) (C:jbj (e I)=some (kk,i)) (D:jj9 (lo.map e)=some l):
  ja4 P cx κ F w U nm σ o ρ (jdl σ E ob g k j l i):=by
 obtain⟨M,K⟩:=jbf G y;have m:=jj8 u D;have B:hi.map ρ=some (.int kk i):=by rw[A,Option.map_some,jbx C (u I)]
 have H:=u x;have d:=S x;rw[z]at H d;unfold RV at H;unfold jdl;split
 ·rename_i q V;split
  ·rename_i hc;intro p;obtain⟨W,p2,X,Y,p5⟩:=(show _/\ _/\ _/\ _/\ _ from p);obtain⟨e',_,⟨us,n,_⟩,_⟩:=jfj h V W hc.2 hc.1;obtain⟨a,c,q1,Z,q3⟩:∃a c,(κ g).r k j=.slice a (ja0 q.l k j).2.length c/\ (ja0 q.l k j).2.length<=c/\ ((ja0 q.l k j).2.length=0 \/∃b f,a=some ⟨b,f,none⟩):=by
    rcases n.2 with⟨s,L⟩|⟨Q,J,c,N,s,_,R,_⟩
    ·exact⟨none,0,by rw[s,L],by omega,.inl L⟩
    ·exact⟨_,c,s,R,.inr ⟨Q,J,rfl⟩⟩
   have O:(i-l).toNat=i.toNat-l.toNat:=by omega
   refine jam (v:=.slice (if c=l.toNat then a else a.map (·.add (l.toNat*E.size))) (i.toNat-l.toNat) (c-l.toNat)) (w':=w) (jet T M (by simp) ?_) (jat h ?_ ?_)
   ·rw[H.1,q1];simp only[Instr.slice,Sem.run_bind,run_underlying M,Result.andThen_ok,jep true (ja0 q.l k j).2.length c m (.inr ⟨kk,B,by omega⟩) X Y,jar K,Sem.run_pure]
   ·unfold RV;refine⟨a,_,c,q1,Z,by omega,?_,by rw[O]⟩;rcases q3 with q3|q3
    ·left;omega
    ·exact .inr q3
   ·unfold NB at d ⊢;exact d
  ·intro p;exact p.elim
 ·intro p;exact p.elim
end
end Go.Ab
