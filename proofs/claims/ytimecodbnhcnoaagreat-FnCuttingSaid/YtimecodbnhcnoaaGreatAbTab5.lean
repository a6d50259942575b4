/- My own layer: tables: what their operations leave (5): stores into a table. -/
import Derived.Test.YtimecodbnhcnoaaGreatAbTab4
namespace Go.Ab
set_option linter.unusedVariables false
set_option linter.unusedSimpArgs false
section
variable{P:Program}{cx:Cx}{κ:Kap}{F:Nat->Prop}{w:World}{U:Nat->Prop}{nm:Nat}{σ:Objs}{ty:TypeId->Option TyE}{Γ:Nat->Option FnSpec}

theorem jup{k c b es:Nat}(g:b<es)(a:c≠k){p:Nat}(d:k*es<=p)(f:p<k*es+es):c*es+b≠p:=by
 intro e;rcases Nat.lt_or_gt_of_ne a with hlt|hlt
 ·have:=Nat.mul_le_mul_right es hlt;rw[Nat.succ_mul]at this;omega
 ·have:=Nat.mul_le_mul_right es hlt;rw[Nat.succ_mul]at this;omega

theorem jqp{hole:Option (Nat×Nat)}{j n k b a:Nat}(i:∀h m,hole=some (h,m)->jav hole j n=false->h=k)(d:jdd hole j n≠some (b,a))(l:¬(b=k/\ j<=a/\ a<j+n)):hole≠some (b,a):=by
 intro e;unfold jdd at d;cases hb:jav hole j n with
 |true=>rw[hb]at d;exact d e
 |false=>
  have:=i b a e hb;rw[e]at hb;simp only[jav,Bool.or_eq_false_iff]at hb;refine l ⟨this,?_,?_⟩
  ·have f:=hb.1;apply Classical.byContradiction;intro c;rw[show Nat.blt a j=true from by simpa[Nat.blt_eq]using Nat.lt_of_not_le c]at f;cases f
  ·have g:=hb.2;apply Classical.byContradiction;intro c;rw[show Nat.ble (j+n) a=true from by simpa using Nat.le_of_not_lt c]at g;cases g

theorem jig(aQ:∀t x,ty t=some x->TyOK P t x)(h:ORel cx κ F w U σ)(hf:¬U nm){o:Oper}{ρ:Operand->Value}{e:Operand->AV}(he:∀x,RV κ F w (e x) (ρ x))(hn:∀x,NB U (e x)){t:TypeId}{a x:Operand}(ho:o.op=.store t a x)
  {T:TyE} {cs:List AV} {ob es k j:Nat} (hT:ty t=some T) (aJ:(e x).cells=some cs) (ay:cs.length=T.size) (aL:e a=.eref ob es k j):ja4 P cx κ F w U nm σ o ρ (jcd ty σ nm ob es k j cs):=by
 have aU:=aQ t T hT;obtain⟨hc,aZ⟩:=jdm aJ (he x) (hn x);have aE:(ρ x).cells.size=cs.length:=by rw[<-Array.length_toList];exact hc.length
 have aS:(ρ x).cells.toList.length=cs.length:=by rw[Array.length_toList];exact aE
 have ha:=he a;rw[aL]at ha;unfold RV at ha;obtain⟨b,f,n,aV,hk,hρ⟩:=ha;unfold jcd;split
 ·rename_i e' es' mask l g hole M;have ht:TabOK F w e' es' mask l (κ ob).v (κ g).r hole:=h.ok ob _ M;have hU:=h.nb ob _ M;split
  ·rename_i E ds ns ks hE aB;obtain⟨q1,q2,q3⟩:=jc8 aB;split
   ·rename_i aI;obtain⟨rfl,aW⟩:=aI;have key:∀(d:D),k<l.length->j+ds.length<=es->(∀k'∈ks,k'=k)->(∀k0 j0,hole=some (k0,j0)->jav hole j ds.length=false->k0=k)->ns.Nodup->
      d.cells=spl (l.getD k (.sc undef)).cells j ds->∀{p:Prop}{rd:List Nat},Out P o ρ w (SR cx κ F w U nm σ (.det p rd .und (jfu ns++[(ob,some (.tab e' es mask (l.set k d) nm (jdd hole j ds.length)))]))):=by
     intro d p1 p2 p3 p4 p5 hd p rd;obtain⟨us,aA,aR,am⟩:=ht.mem;have ao:=jaz (d:=D.sc undef) p1;have ar:=ht.cells k _ ao;have bc:(k+1)*es<=l.length*es:=Nat.mul_le_mul_right _ p1;have be:(k+1)*es=k*es+es:=by rw[Nat.add_mul,Nat.one_mul]
     obtain⟨ap,_,fz,c1,cz,c2,c3⟩:=jp0 aA hk (p:=k*es+j) (vs:=(ρ x).cells.toList) (by omega);have hW:∀G,G≠b->(w.setRow b (spl ap.toList (f+(k*es+j)) (ρ x).cells.toList).toArray).heap[G]? =w.heap[G]?:=fun G B=>setRow_other w b G _ B;generalize aa:w.setRow b (spl ap.toList (f+(k*es+j)) (ρ x).cells.toList).toArray=w' at*
     have ad:blk (κ ob).v=some b:=by rw[hk];rfl
     have ai:jd6 κ σ (.obj ob) b:=⟨_,M,ad⟩
     let src:Nat->Nat->Option Sc:=fun C z=>if C=k/\ j<=z/\ z<j+ds.length then some (match ownN (cs.getD (z-j) .und)with|some n=>.obj n|none=>.row ob k z)else some (.row ob C z)
     have V:∀i x,cs[i]? =some x->i<ds.length->src k (j+i)=some (match ownN x with|some n=>.obj n|none=>.row ob k (j+i)):=fun i x hi K=>by
      show(if k=k/\ j<=j+i/\ j+i<j+ds.length then some (match ownN (cs.getD (j+i-j) .und)with|some n=>Sc.obj n|none=>.row ob k (j+i))else some (.row ob k (j+i)))=_;rw[if_pos ⟨rfl,by omega,by omega⟩,show j+i-j=i from by omega,List.getD_eq_getElem?_getD,hi];rfl
     have N:∀C z,¬(C=k/\ j<=z/\ z<j+ds.length)->src C z=some (.row ob C z):=fun C z ae=>by
      show(if C=k/\ j<=z/\ z<j+ds.length then _ else some (Sc.row ob C z))=_;rw[if_neg ae]
     have ak:∀q,(spl us (k*es+j) (ρ x).cells.toList)[q]? =if q<k*es+j then us[q]? else if q<k*es+j+ds.length then(ρ x).cells.toList[q-(k*es+j)]? else us[q]?:=fun q=>by
      rw[jc9 (by omega),aS,q1]
     have W:TabC κ σ F w mask es (l.set k d) (spl us (k*es+j) (ρ x).cells.toList) (jdd hole j ds.length) src:=by
      refine⟨?_,fun C d1 L=>?_,fun C d1 z c1 L I=>?_⟩
      ·rw[jbh (by omega),List.length_set];exact aR
      ·by_cases O:C=k
       ·subst O;rw[List.getElem?_set_self p1]at L;cases L;rw[hd,jbh (by omega)];exact ar
       ·rw[List.getElem?_set_ne (Ne.symm O)]at L;exact ht.cells _ _ L
      ·
       have old:∀d0,l[C]? =some d0->d0.cells[z]? =some c1->¬(C=k/\ j<=z/\ z<j+ds.length)->z<es->∃ac,(spl us (k*es+j) (ρ x).cells.toList)[C*es+z]? =some ac/\ one ac=true/\ match jao mask z with
         |none=>RD F w c1 ac
         |some e'=>jdd hole j ds.length=some (C,z) \/((∃es' rows,c1=.sl es' rows/\ jb7 F w e' es' ac rows)/\ ∀b,blk ac=some b->∃s,src C z=some s/\ jd6 κ σ s b):=by
        intro d0 ax aN ae aO;obtain⟨u,u1,u2,u3⟩:=am C d0 z c1 ax aN;refine⟨u,?_,u2,?_⟩
        ·rw[ak];by_cases O:C=k
         ·subst O;by_cases bb:z<j
          ·rw[if_pos (by omega)];exact u1
          ·rw[if_neg (by omega),if_neg (by omega)];exact u1
         ·by_cases hq:C*es+z<k*es+j
          ·rw[if_pos hq];exact u1
          ·rw[if_neg hq,if_neg ?_]
           ·exact u1
           ·intro bg;exact jup aO O (p:=C*es+z) (by omega) (by omega) rfl
        ·cases Q:jao mask z with
         |none=>rw[Q]at u3;exact u3
         |some e2=>
          rw[Q]at u3;simp only[]at u3 ⊢;by_cases hh:jdd hole j ds.length=some (C,z)
          ·exact .inl hh
          ·have au:=jqp (fun k0 j0=>p4 k0 j0) hh ae;rcases u3 with⟨u3,u6|⟨aq,ab,u4,u5⟩⟩
           ·exact absurd u6 au
           ·refine .inr ⟨⟨aq,ab,u4,u5⟩,fun G B=>⟨_,N C z ae,e',es,mask,l,g,hole,M,⟨(List.getElem?_eq_some_iff.1 ax).1,by rw[Q];rfl,au⟩,by rw[<-u3];exact B⟩⟩
       by_cases O:C=k
       ·subst O;rw[List.getElem?_set_self p1]at L;cases L;have X:z<es:=by
         have:=(List.getElem?_eq_some_iff.1 I).1;rw[hd,jbh (by omega),ar]at this;exact this
        rw[hd,jc9 (by omega)]at I;by_cases h1:z<j
        ·rw[if_pos h1]at I;exact old _ ao I (by omega) X
        ·rw[if_neg h1]at I;by_cases h2:z<j+ds.length
         ·rw[if_pos h2]at I;have K:z-j<cs.length:=by omega
          obtain⟨u,u1,u2,u3⟩:=RVc.at (z-j) _ hc (List.getElem?_eq_getElem K);obtain⟨cc,v1,v2⟩:=q3 (z-j) _ (List.getElem?_eq_getElem K);rw[I]at v1;cases v1;rw[show j+(z-j)=z from by omega]at v2;refine⟨u,?_,u2,?_⟩
          ·rw[ak,if_neg (by omega),if_pos (by omega),show C*es+z-(C*es+j)=z-j from by omega];exact u1
          ·have J:=jgw h v2 (.inr ⟨e',es,l,M,rfl,p1,p3⟩) u3;have S:=V (z-j) _ (List.getElem?_eq_getElem K) (by omega);rw[show j+(z-j)=z from by omega]at S;cases Q:jao mask z with
           |none=>rw[Q]at J;exact J
           |some e2=>
            rw[Q]at J;simp only[]at J ⊢;exact .inr ⟨J.1,fun G B=>⟨_,S,J.2 G B⟩⟩
         ·rw[if_neg h2]at I;exact old _ ao I (by omega) X
       ·rw[List.getElem?_set_ne (Ne.symm O)]at L;have X:z<es:=by
         have:=(List.getElem?_eq_some_iff.1 I).1;rw[ht.cells _ _ L]at this;exact this
        exact old _ L I (by simp[O]) X
     have A:∀C z s,jbv mask (l.set k d).length (jdd hole j ds.length) C z->src C z=some s->s=.row ob C z \/∃i n,C=k/\ z=j+i/\ i<ds.length/\ cs[i]? =some (.own n)/\ s=.obj n:=by
      intro C z s _ hs;by_cases aw:C=k/\ j<=z/\ z<j+ds.length
      ·obtain⟨rfl,h2,h3⟩:=aw;have K:z-j<cs.length:=by omega
       have S:=V (z-j) _ (List.getElem?_eq_getElem K) (by omega);rw[show j+(z-j)=z from by omega,hs]at S;simp only[Option.some.injEq]at S;cases hx:ownN (cs[z-j])with
       |none=>rw[hx]at S;exact .inl S
       |some n=>
        rw[hx]at S;exact .inr ⟨z-j,n,rfl,by omega,by omega,by rw[List.getElem?_eq_getElem K,jfn hx],S⟩
      ·rw[N C z aw]at hs;exact .inl (Option.some.inj hs).symm
     have R:∀(i n:Nat),cs[i]? =some (AV.own n)->n∈ns:=fun i n hi=>by rw[q2];exact List.mem_filterMap.2 ⟨_,List.mem_of_getElem? hi,rfl⟩
     have aP:∀n∈ns,∃e es rows,σ n=some (.arr e es rows):=fun n hn=>by
      rw[q2]at hn;obtain⟨y,hy,aT⟩:=List.mem_filterMap.1 hn;have:=jfn aT;subst this;obtain⟨i,hi⟩:=List.getElem?_of_mem hy;obtain⟨c,v1,v2⟩:=q3 i _ hi;unfold jek at v2;split at v2
      ·cases v2
      ·rcases v2 with⟨m,es',rows,Q,hσ,_⟩|⟨_,Q,_⟩|⟨Q,_⟩|⟨_,_,_,_,Q,_⟩
       ·cases Q;exact⟨_,_,_,hσ⟩
       ·cases Q
       ·cases Q
       ·cases Q
     have aj:ob∉ns:=fun Q=>by
      obtain⟨_,_,_,h1⟩:=aP ob Q;rw[M]at h1;cases h1
     have aG:∀C z s G,jbv mask (l.set k d).length (jdd hole j ds.length) C z->src C z=some s->jd6 κ σ s G->G≠b:=by
      intro C z s G hr hs B e2;subst e2;have:=jgt h B ai;rcases A C z s hr hs with rfl|⟨i,n,_,_,_,hi,rfl⟩
      ·cases this
      ·cases this;exact aj (R i ob hi)
     have aF:∀G,F G->G≠b:=fun G B e2=>(h.free ob _ M b (.inl ad)).1 (e2▸B);have az:ob≠nm:=fun e2=>hf (e2▸hU.1);refine jfo (w':=w') (by rw[<-aa];exact jes aU ho hρ c1 (fun _ hj=>cz.not hj) (by rw[aE,ay]) (by rw[Array.length_toList]at c2;exact c2) hc.ones) ?_;refine⟨.und,_,kapN κ nm ⟨undef,fun C z=>(spl us (k*es+j) (ρ x).cells.toList).getD (C*es+z) undef⟩,F,⟨rfl,rfl⟩,?_,by unfold RV;rfl,by unfold NB;trivial⟩;refine jkq h hf (ob::ns) ob (.inr hU.1) (by rw[<-aa];rfl) (by rw[<-aa];rfl) (by rw[<-aa];rfl) (by rw[<-aa];simp) (fun G _ B=>hW G fun e2=>B ob (List.mem_cons_self ..) _ M (.inl (by rw[e2];exact ad))) (x:=.tab e' es mask (l.set k d) nm (jdd hole j ds.length)) (fun G B=>?_) ?_ jbl ?_
     ·left;rcases B with B|⟨C,z,hr,B⟩
      ·simp only[kapN,if_neg az]at B;exact⟨ob,List.mem_cons_self ..,_,M,.inl B⟩
      ·simp only[kapN,if_true]at B;obtain⟨s,g1,g2⟩:=W.src_blk ht.mlen hr B;obtain⟨y,hy,aH⟩:=g2.blk;refine⟨s.o,?_,y,hy,aH⟩;rcases A C z s hr g1 with rfl|⟨i,n,_,_,_,hi,rfl⟩
       ·exact List.mem_cons_self ..
       ·exact List.mem_cons_of_mem _ (R i n hi)
     ·show TabOK F w' e' es mask (l.set k d) (kapN κ nm _ ob).v (kapN κ nm _ nm).r (jdd hole j ds.length);simp only[kapN,if_neg az,if_true];refine W.tab h ht.pos ht.mlen (fun G B=>hW G (aF G B)) (fun C z s G hr hs B=>hW G (aG C z s G hr hs B)) (by rw[List.length_set];exact c3) ?_ (fun G B=>.inr ⟨ob,?_,fun C z hr hs=>?_⟩)
      ·intro C z k2 j2 s hr aC hs aD;rcases A C z s hr hs with rfl|⟨i,n,rfl,rfl,ba,hi,rfl⟩
       ·rcases A k2 j2 _ aC aD with H|⟨i',n',_,_,_,_,H⟩
        ·cases H;rfl
        ·cases H
       ·rcases A k2 j2 _ aC aD with H|⟨i',n',rfl,rfl,_,aM,H⟩
        ·cases H
        ·cases H;rw[jj4 (by rw[<-q2];exact p5) hi aM]
      ·rw[ad]at B;cases B;exact ai
      ·rcases A C z _ hr hs with H|⟨i,n,_,_,_,hi,H⟩
       ·cases H
       ·cases H;exact aj (R i ob hi)
     ·intro o' y hy;rw[jkn]at hy;have ah:upd (rmvs σ ns) ob (some (.tab e' es mask (l.set k d) nm (jdd hole j ds.length))) o'=some y:=hy;by_cases af:o'=ob
      ·subst af;rw[jax]at ah;exact .inl ⟨rfl,(Option.some.inj ah).symm⟩
      ·rw[jbz af]at ah;obtain⟨g1,g2⟩:=jfl ah;exact .inr ⟨af,by simp[af,g2],g1⟩
    split
    ·rename_i hg;intro Y;obtain⟨p1,p2,p3,p4,p5⟩:=(show _/\ _/\ _/\ _/\ _ from Y);exact key (.agg _) p1 p2 p3 p4 p5 rfl
    ·rename_i hg;split
     ·rename_i d;split
      ·rename_i h1;subst h1;intro Y;obtain⟨p1,rfl,p3,p4,p5⟩:=(show _/\ _/\ _/\ _/\ _ from Y);refine key d p1 (by simp) p3 p4 p5 ?_;have aY:=ht.cells k _ (jaz (d:=D.sc undef) p1);have aK:d.cells=[d]:=by
        have K:0<cs.length:=by rw[<-q1];simp
        obtain⟨c,v1,v2⟩:=q3 0 _ (List.getElem?_eq_getElem K);simp only[List.getElem?_cons_zero,Option.some.injEq]at v1;subst v1;obtain⟨u,u1,u2,u3⟩:=RVc.at 0 _ hc (List.getElem?_eq_getElem K);have J:=jgw h v2 (.inr ⟨_,_,l,M,rfl,p1,p3⟩) u3;cases Q:jao mask (0+0)with
        |none=>
         rw[Q]at J;have Z:RD F w d u:=J;have h3:=(jnb u2 Z).length;cases d with
         |agg cs'=>
          unfold RD at Z;obtain⟨bi,rfl,_⟩:=Z;cases u2
         |_=>rfl
        |some e2=>
         rw[Q]at J;obtain⟨aq,ab,rfl,_⟩:=J.1;rfl
       rw[aK];unfold spl;rw[List.take_zero,List.nil_append];simp only[List.length_cons,List.length_nil,Nat.zero_add];rw[List.drop_eq_nil_of_le (by omega),List.append_nil]
      ·intro Y;exact Y.elim
     ·intro Y;exact Y.elim
   ·intro Y;exact Y.elim
  ·intro Y;exact Y.elim
 ·intro Y;exact Y.elim

end
end Go.Ab
