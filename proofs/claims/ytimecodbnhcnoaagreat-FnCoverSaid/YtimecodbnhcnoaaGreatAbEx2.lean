/- My own layer, some of its parts together. -/
import Derived.Test.YtimecodbnhcnoaaGreatAbTab6
import Derived.Still
set_option linter.unusedVariables false
set_option linter.unusedSimpArgs false
namespace Go.Ab
section
section
variable{P:Program}{cx:Cx}{κ:dx}{F:Nat->Prop}{w:World}{U:Nat->Prop}{nm:Nat}{σ:bJ}{ty:TypeId->Option bD}{Γ:Nat->Option dJ}

theorem PG{d:D}{u:Value}(a:one u=true)(h:RD F w d u):d.cells=[d]:=by
 cases d with
 |agg cs=>
  unfold RD at h;obtain⟨vs,rfl,_⟩:=h;cases a
 |_=>rfl

def Ia:Value:=.slice none 0 0
theorem JE(h:dh cx κ F w U σ){mask:List (Option TypeId)}{agg:Bool}{es:Nat}{ρ:Operand->Value}{e:Operand->AV}(he:∀x,RV κ F w (e x) (ρ x))(hn:∀x,NB U (e x)):
  ∀(l:List (Nat×Operand))(k:Nat)(ds:List D)(ns:List Nat)(c:Array Value),lK ty σ nm mask agg es k (l.map fun p=>(p.1,e p.2))=some (ds,ns)->c.size=(k+l.length)*es->
   ∃X us src,Instr.fill (fun i=>some (i*es,es)) c (l.map fun p=>(p.1,ρ p.2))=some X/\ X.toList=c.toList.take (k*es)++us/\ kF κ σ F w mask es ds us none src/\
    (∀k j s,j<es->src k j=some s->∃n,s=.obj n/\ n∈ns)/\ (ns.Nodup->∀k j k' j' s,j<es->j'<es->src k j=some s->src k' j'=some s->(k,j)=(k',j'))/\ ds.length=l.length
 |[],k,ds,ns,c,o,hc=>by
  simp only[jv,lK,bU,eY]at o;obtain⟨rfl,rfl⟩:=o;refine⟨c,[],fun _ _=>none,rfl,?_,⟨by simp,by simp,by simp⟩,by simp,by simp,rfl⟩;rw[mD,iw (by simp at hc ⊢;omega)]
 |(i,x)::m,k,ds,ns,c,o,hc=>by
  simp only[dX,lK]at o;split at o
  ·rename_i ae;subst ae;split at o
   ·rename_i cs ad;split at o
    ·rename_i H;split at o
     ·rename_i O ao r am T hr;split at o
      ·rename_i d hd;simp only[bU,eY]at o;obtain⟨rfl,rfl⟩:=o;obtain⟨h1,h2⟩:=qR ad (he x) (hn x);obtain⟨q1,q2,q3⟩:=xL T;have ak:(ρ x).cells.size=es:=by rw[<-iF,h1.length];exact H
       simp only[gZ]at hc;have e1:(i+(m.length+1))*es=i*es+es+m.length*es:=by rw[iD,iD,nH];omega
       have e2:(i+1+m.length)*es=i*es+es+m.length*es:=by rw[iD,iD,nH]
       have G:i*es+(ρ x).cells.size<=c.size:=by omega
       obtain⟨X,us,aq,g1,g2,g3,g4,g5,g6⟩:=JE h he hn m (i+1) r am (spl c.toList (i*es) (ρ x).cells.toList).toArray hr (by
        simp only[pG];rw[mJ (by simpa using G),iF];omega)
       have t:∀j<es,∃y u M,cs[j]? =some y/\ (ρ x).cells.toList[j]? =some u/\ one u=true/\ RV κ F w y u/\ O[j]? =some M/\ kM ty σ nm nm mask none (.sc undef) [] j y M:=fun j I=>by
        have C:j<cs.length:=by omega
        obtain⟨u,u1,W,K⟩:=bQ.at j _ h1 (fO C);obtain⟨M,L,B⟩:=q3 j _ (fO C);rw[j4]at B;exact⟨_,u,M,fO C,u1,W,K,L,B⟩
       have R:d.cells=O:=by
        unfold lK.F7 at hd;split at hd
        ·cases hd;rfl
        ·split at hd
         ·rename_i d';cases hd;simp only[gZ,mq,j4]at q1;obtain⟨y,u,M,_,_,W,K,L,B⟩:=t 0 (by omega);simp only[mM,bU]at L;subst L;have g:=zq (k:=0) h B (.inl rfl) K;cases S:dA mask 0 with
          |none=>rw[S]at g;exact PG W g
          |some e2=>
           rw[S]at g;obtain⟨aa,ap,rfl,_⟩:=g.1;rfl
         ·cases hd
       let z:Nat->Nat->Option Sc:=fun k j=>if k=0 then(jg (cs.getD j .und)).map .obj else none
       have E:∀k j s,z k j=some s->k=0/\ ∃n,cs[j]? =some (.own n)/\ s=.obj n:=fun k j s hs=>by
        have f:(if k=0 then(jg (cs.getD j .und)).map Sc.obj else none)=some s:=hs;by_cases A:k=0
        ·rw[if_pos A]at f;obtain⟨n,af,ah⟩:=kG.1 f;have:=zJ af;refine⟨A,n,?_,ah.symm⟩;rw[dD]at this;cases Q:cs[j]? with
         |none=>rw[Q]at this;cases this
         |some y=>rw[Q]at this;simp only[rC]at this;rw[this]
        ·rw[if_neg A]at f;cases f
       have ab:kF κ σ F w mask es [d] (ρ x).cells.toList none z:=by
        refine⟨by simp[ak],fun k' d' a=>?_,fun k' d' j M a q=>?_⟩
        ·cases k' with
         |zero=>simp at a;subst a;rw[R,q1];exact H
         |succ k'=>simp at a
        ·cases k' with
         |succ k'=>simp at a
         |zero=>
          simp at a;subst a;rw[R]at q;have C:=(cK.1 q).1;obtain⟨y,u,ar,v0,u1,W,K,L,B⟩:=t j (by omega);rw[q]at L;cases L;refine⟨u,by rw[o8,j4];exact u1,W,?_⟩;have g:=zq (k:=0) h B (.inl rfl) K;have aj:z 0 j=(jg y).map .obj:=by
           show(if 0=0 then(jg (cs.getD j .und)).map Sc.obj else none)=_;rw[if_pos rfl,dD,v0];rfl
          unfold kM at B;cases S:dA mask j with
          |none=>rw[S]at g;exact g
          |some e2=>
           rw[S]at g B;simp only[]at g B ⊢;refine .inr ⟨g.1,fun b hb=>?_⟩;have ac:=g.2 b hb;rcases B with⟨n,aa,rows,rfl,hσ,_⟩|⟨k2,_,J,_⟩|⟨rfl,_⟩|⟨k2,_,_,_,_,J,_⟩
           ·exact⟨.obj n,by rw[aj];rfl,ac⟩
           ·cases J
           ·unfold RV RD at K;rw[K.1]at hb;simp[blk]at hb
           ·cases J
       have v:∀(j n:Nat),cs[j]? =some (AV.own n)->n∈ao:=fun j n I=>by rw[q2];exact qx.2 ⟨_,bT I,rfl⟩
       refine⟨X,(ρ x).cells.toList++us,_,?_,?_,ab.app g3,fun k j s I hs=>?_,fun ai k j k' j' s I q hs f=>?_,by simp[g6]⟩
       ·simp only[dX,Instr.fill];rw[if_neg (by simp only[mF,decide_eq_true_eq,ne_eq];omega),Dm _ _ _ G];exact g1
       ·rw[g2,<-eU];congr 1;have e3:(i+1)*es=i*es+es:=by rw[iD,nH]
        unfold spl;have:(c.toList.take (i*es)++(ρ x).cells.toList).length=(i+1)*es:=by
         rw[gu,eF,iF,iF];omega
        rw[<-this,Ap]
       ·by_cases A:k<[d].length
        ·rw[if_pos A]at hs;obtain⟨_,n,h3,rfl⟩:=E k j s hs;exact⟨n,rfl,iI _ (v j n h3)⟩
        ·rw[if_neg A]at hs;obtain⟨n,rfl,h3⟩:=g4 _ j s I hs;exact⟨n,rfl,jX _ h3⟩
       ·obtain⟨n1,n2,n3⟩:=kJ.1 ai;by_cases A:k<[d].length
        ·rw[if_pos A]at hs;obtain⟨a1,n,a2,rfl⟩:=E k j s hs;by_cases a:k'<[d].length
         ·rw[if_pos a]at f;obtain⟨b1,V,Y,N⟩:=E k' j' _ f;cases N;rw[a1,b1,CY (by rw[<-q2];exact n1) a2 Y]
         ·rw[if_neg a]at f;obtain⟨V,N,Z⟩:=g4 _ j' _ q f;cases N;exact absurd rfl (n3 n (v j n a2) n Z)
        ·rw[if_neg A]at hs;by_cases a:k'<[d].length
         ·rw[if_pos a]at f;obtain⟨b1,V,Y,rfl⟩:=E k' j' _ f;obtain⟨n,N,Z⟩:=g4 _ j _ I hs;cases N;exact absurd rfl (n3 V (v j' V Y) V Z)
         ·rw[if_neg a]at f;have:=g5 n2 _ j _ j' s I q hs f;simp only[eY,gZ,mq]at this A a ⊢;exact⟨by omega,this.2⟩
      ·cases o
     ·cases o
    ·cases o
   ·cases o
  ·cases o

theorem JB:∀{cs:List AV},(jP σ cs).length=cs.length
 |[]=>rfl
 |x::cs=>by
  cases x<;>simp[jP,JB (cs:=cs)]

theorem Sn(V:∀t x,ty t=some x->bS P t x)(h:dh cx κ F w U σ)(hf:¬U nm){o:Oper}{ρ:Operand->Value}{e:Operand->AV}(he:∀x,RV κ F w (e x) (ρ x))(hn:∀x,NB U (e x)){t:TypeId}{len:Nat}{a:Array (Nat×Operand)}(ho:o.op=.buildSlice t len a)
  {el:TypeId} {E:bD} {ds:List D} {ns:List Nat} (O:iY ty t=some (el,E)) (l:a.toList.length=len) (ab:len*E.size<=16777216) (m:0<E.size) (ad:E.zero.cells.size=E.size)
  (c:lK ty σ nm (jP σ (nA (a.toList.map fun p=>(p.1,e p.2)))) E.isAgg E.size 0 (a.toList.map fun p=>(p.1,e p.2))=some (ds,ns)):
  dP P cx κ F w U nm σ o ρ (.bR ns.Nodup ns (.own nm) (lU ns++[(nm,some (.tab el E.size (jP σ (nA (a.toList.map fun p=>(p.1,e p.2)))) ds nm none))])):=by
 obtain⟨hu,H⟩:=nD V O;intro R;have d:(jP σ (nA (a.toList.map fun p=>(p.1,e p.2)))).length<=E.size:=by
  rw[JB];cases hp:a.toList with
  |nil=>simp[nA]
  |cons p Z=>
   obtain⟨i,x⟩:=p;rw[hp]at c;simp only[dX,lK]at c;split at c<;>try cases c
   split at c<;>try cases c
   rename_i cs M;split at c<;>try cases c
   rename_i hl;simp only[dX,nA,M,rC];omega
 generalize ac:jP σ (nA (a.toList.map fun p=>(p.1,e p.2)))=mask at*
 obtain⟨u,us,src,I,K,A,g4,g5,g6⟩:=JE h he hn a.toList 0 ds ns ((Array.range (len*E.size)).map (fun i=>(if len*E.size=0 then #[]else E.zero.cells)[i%(if len*E.size=0 then #[]else E.zero.cells).size]!)) c (by simp[<-l]);simp only[o8,oC,jD]at K;have hv:(a.map fun(i,x)=>(i,ρ x)).toList=a.toList.map fun p=>(p.1,ρ p.2):=by simp
 have J:ds.length=len:=by rw[g6];exact l
 have G:∀k j s,fU mask ds.length none k j->src k j=some s->∃n,s=.obj n/\ n∈ns:=fun k j s z hs=>g4 k j s (kH (uT z.2.1) d) hs;refine dW (v:=.slice (some ⟨w.heap.size,0,none⟩) ds.length ds.length) (w':=w.alloc (.cells u el)) ?_ ?_
 ·unfold execOp;simp only[ho];refine iK _ ?_;have B:¬(len*E.size>2^24):=by omega
  simp only[Instr.buildSlice,Sem.run_bind,run_underlying hu,Result.andThen_ok,jm H,B,if_false,hv];by_cases h0:len*E.size=0
  ·simp only[h0,if_true]at I;simp only[h0,if_true,Sem.run_bind,Sem.run_pure,Result.andThen_ok,I,vC,J]
  ·simp only[h0,if_false]at I;simp only[h0,if_false,Sem.run_bind,vB H,Sem.run_pure,Result.andThen_ok,I,vC,J]
 ·have f:∀b,b<w.heap.size->(w.alloc (.cells u el)).heap[b]? =w.heap[b]?:=fun b hb=>Go.RowKit.Below.heap_alloc w _ b hb;have N:ds.length<=maxLen:=by
   unfold maxLen;have:ds.length*1<=ds.length*E.size:=DW _ m;rw[J]at this ⊢;omega
  have aa:u.size=ds.length*E.size:=by rw[<-iF,K,A.len]
  have C:Own (w.alloc (.cells u el)) el E.size (.slice (some ⟨w.heap.size,0,none⟩) ds.length ds.length) ds.length us:=by
   refine⟨A.len,.inr ⟨w.heap.size,0,ds.length,u,rfl,⟨_,_,heap_alloc_new w _,.inl rfl⟩,dQ _,N,by omega,?_⟩⟩;rw[uj,K,iw (by rw[A.len];omega)]
  refine⟨.own nm,_,_,F,⟨rfl,rfl⟩,y7 (w':=w.alloc (.cells u el)) h hf ns nm (.inl rfl) (v:=⟨.slice (some ⟨w.heap.size,0,none⟩) ds.length ds.length,fun k j=>us.getD (k*E.size+j) undef⟩) rfl rfl rfl (by simp) (fun b hb _=>f b hb) (x:=.tab el E.size mask ds nm none) (fun b hb=>?_) ?_ fI ?_,?_,jA _ fI⟩
  ·rcases hb with hb|⟨k,j,z,hb⟩
   ·simp[eO,blk]at hb;exact .inr (by omega)
   ·simp only[eO,if_true]at hb;obtain⟨s,W,X⟩:=A.wm d z hb;obtain⟨n,rfl,Q⟩:=G k j s z W;obtain⟨x,hx,L⟩:=X.blk;exact .inl ⟨n,Q,x,hx,L⟩
  ·show eB F _ el E.size mask ds (eO κ nm _ nm).v (eO κ nm _ nm).r none;simp only[eO,if_true];refine A.tab h m d (fun b hb=>f b (h.fG b hb).2) (fun k j s b _ _ hb=>f b (yJ h hb)) C (fun k j k' j' s z S hs T=>?_) (fun b hb=>.inl ?_)
   ·exact g5 R k j k' j' s (kH (uT z.2.1) d) (kH (uT S.2.1) d) hs T
   ·simp[blk]at hb;omega
  ·intro o' y Y;rw[CK]at Y;have g:upd (sj σ ns) nm (some (.tab el E.size mask ds nm none)) o'=some y:=Y;by_cases q:o'=nm
   ·subst q;rw[iP]at g;exact .inl ⟨rfl,(gT g).symm⟩
   ·rw[jq q]at g;obtain⟨W,X⟩:=zK g;exact .inr ⟨q,X,W⟩
  ·unfold RV;exact⟨by simp[eO],rfl⟩

theorem IV:∀{e:List (Option TypeId)}{vs:List Value}{ds:List D}{j:Nat}{e':TypeId},dA (j3 e vs ds) j=some e'->vs[j]? =some Ia/\ ∃n,ds[j]? =some (.sl (n+1) [])
 |[],vs,ds,j,e',h=>by simp[j3,dA]at h
 |t::e,[],ds,j,e',h=>by cases t<;>simp[j3,dA]at h
 |t::e,v::vs,[],j,e',h=>by cases t<;>simp[j3,dA]at h
 |t::e,v::vs,d::ds,0,e',h=>by
  unfold j3 at h;split at h
  ·rename_i c a b;cases a;cases b;exact⟨rfl,_,rfl⟩
  ·simp[dA]at h
  ·simp[dA]at h
 |t::e,v::vs,d::ds,j+1,e',h=>by
  have f:dA (j3 e vs ds) j=some e':=by
   unfold j3 at h;split at h
   ·rename_i c a b;cases c;cases a;cases b;simpa[dA]using h
   ·rename_i c a b;cases c;cases a;cases b;simpa[dA]using h
   ·simp[dA]at h
  simpa using IV f
theorem Db:∀{e:List (Option TypeId)}{vs:List Value}{ds:List D},(j3 e vs ds).length<=ds.length
 |[],vs,ds=>by simp[j3]
 |t::e,[],ds=>by cases t<;>simp[j3]
 |t::e,v::vs,[]=>by cases t<;>simp[j3]
 |t::e,v::vs,d::ds=>by
  unfold j3;split
  ·rename_i a b c;cases a;cases b;cases c;simpa using Db
  ·rename_i a b c;cases a;cases b;cases c;simpa using Db
  ·simp
theorem GQ{z:Array Value}:∀{n k j:Nat},k<n->j<z.size->(madeCells z (n*z.size)).toList[k*z.size+j]? =z.toList[j]?
 |0,k,j,b,_=>by omega
 |n+1,0,j,_,a=>by
  rw[C9,o8,j4,jK (by simpa using a)]
 |n+1,k+1,j,b,a=>by
  rw[C9,kg (by simp[iD];omega)];have:(k+1)*z.size+j-z.toList.length=k*z.size+j:=by simp[iD];omega
  rw[this];exact GQ (by omega) a

theorem RY(X:∀t x,ty t=some x->bS P t x)(h:dh cx κ F w U σ)(hf:¬U nm){o:Oper}{ρ:Operand->Value}{e:Operand->AV}(he:∀x,RV κ F w (e x) (ρ x)){t:TypeId}{l c:Operand}(ho:o.op=.makeSlice t l c)
  {el:TypeId} {E:bD} {k k':IntKind} {n m:Int} {d:D} (S:iY ty t=some (el,E)) (hl:fE (e l)=some (k,n)) (hc:fE (e c)=some (k',m)) (L:0<E.size) (C:E.zero.cells.size=E.size) (J:E.zero.cells.toList.all one=true)
  (hd:qE E.isAgg (oG (rW ty 6 el) (E.zero.cells.toList.map .sc))=some d):
  dP P cx κ F w U nm σ o ρ (.bR (0<=n/\ n=m/\ n<=140737488355328/\ n*E.bytes<=140737488355328) [] (.own nm) [(nm,some (.tab el E.size (j3 (rY ty 6 el) E.zero.cells.toList d.cells) (List.replicate n.toNat d) nm none))]):=by
 obtain⟨hu,Y⟩:=nD X S;have vl:=jl hl (he l);have vc:=jl hc (he c);intro hp;obtain⟨p1,p2,p3,p4⟩:=(show _/\ _/\ _/\ _ from hp);subst p2;obtain⟨_,i,i1,i2,i3,i4,_⟩:=Y;have O:=run_make (P:=P) w t el i E.zero hu i1 i4 k k' n n p1 (kR _) (by rw[i3,Int.mul_comm];omega) (by omega);have M:RC F w d.cells E.zero.cells.toList:=Ch hd (RC.nz _ _ _ (qM J));have G:d.cells.length=E.size:=by rw[<-M.length,iF,C]
 have p:(List.replicate n.toNat d).length=n.toNat:=xW;generalize H:j3 (rY ty 6 el) E.zero.cells.toList d.cells=mask;have I:mask.length<=E.size:=by rw[<-H,<-G];exact Db
 generalize f:(madeCells E.zero.cells (n.toNat*E.size))=c';have B:c'.size=n.toNat*E.size:=by rw[<-f];simp[madeCells]
 have hC:kF κ σ F w mask E.size (List.replicate n.toNat d) c'.toList none (fun _ _=>none):=by
  refine⟨by rw[iF,B,p],fun k d' N=>?_,fun k d' j cc N T=>?_⟩
  ·have:=List.mem_replicate.1 (bT N);rw[this.2];exact G
  ·have W:k<n.toNat:=by have:=(cK.1 N).1;omega
   have R:=(List.mem_replicate.1 (bT N)).2;subst R;have V:j<E.size:=by have:=(cK.1 T).1;omega
   have Q:c'.toList[k*E.size+j]? =E.zero.cells.toList[j]?:=by
    have:=GQ (z:=E.zero.cells) W (by rw[C];exact V);rw[C,f]at this;exact this
   obtain⟨u,u1,u2,u3⟩:=RC.at j cc M T;refine⟨u,by rw[Q];exact u1,u2,?_⟩;cases hm:dA mask j with
   |none=>exact u3
   |some e'=>
    rw[<-H]at hm;obtain⟨Z,q,g2⟩:=IV hm;rw[u1]at Z;cases Z;rw[T]at g2;cases g2;exact .inr ⟨⟨q+1,[],rfl,[],Own.nil w e' (q+1),by unfold RE;rfl,by omega⟩,by simp[blk,Ia]⟩
 refine dW (v:=.slice (some ⟨w.heap.size,0,none⟩) n.toNat n.toNat) (w':=w.alloc (.cells c' el)) ?_ ?_
 ·unfold execOp;simp only[ho];refine iK _ ?_;rw[vl,vc,O,i2,f]
 ·have a:∀b,b<w.heap.size->(w.alloc (.cells c' el)).heap[b]? =w.heap[b]?:=fun b hb=>Go.RowKit.Below.heap_alloc w _ b hb;have K:Own (w.alloc (.cells c' el)) el E.size (.slice (some ⟨w.heap.size,0,none⟩) n.toNat n.toNat) (List.replicate n.toNat d).length c'.toList:=by
   rw[p];refine⟨by rw[iF,B],.inr ⟨w.heap.size,0,n.toNat,c',rfl,⟨_,_,heap_alloc_new w _,.inl rfl⟩,dQ _,by unfold maxLen;omega,by omega,?_⟩⟩;rw[uj,iw (by rw[iF,B];omega)]
  refine⟨.own nm,_,_,F,⟨rfl,rfl⟩,y7 (w':=w.alloc (.cells c' el)) h hf [] nm (.inl rfl) (v:=⟨.slice (some ⟨w.heap.size,0,none⟩) n.toNat n.toNat,fun k j=>c'.toList.getD (k*E.size+j) undef⟩) rfl rfl rfl (by simp) (fun b hb _=>a b hb) (x:=.tab el E.size mask (List.replicate n.toNat d) nm none) (fun b hb=>?_) ?_ fI ?_,?_,jA _ fI⟩
  ·rcases hb with hb|⟨k,j,O,hb⟩
   ·simp[eO,blk]at hb;exact .inr (by omega)
   ·simp only[eO,if_true]at hb;obtain⟨s,k1,k2⟩:=hC.wm I O hb;cases k1
  ·show eB F _ el E.size mask (List.replicate n.toNat d) (eO κ nm _ nm).v (eO κ nm _ nm).r none;simp only[eO,if_true];refine hC.tab h L I (fun b hb=>a b (h.fG b hb).2) (fun k j s b _ _ hb=>a b (yJ h hb)) K (fun k j k' j' s O aa hs ab=>?_) (fun b hb=>.inl ?_)
   ·cases hs
   ·simp[blk]at hb;omega
  ·intro o' y hy;have g:upd σ nm (some (.tab el E.size mask (List.replicate n.toNat d) nm none)) o'=some y:=hy;by_cases A:o'=nm
   ·subst A;rw[iP]at g;exact .inl ⟨rfl,(gT g).symm⟩
   ·rw[jq A]at g;exact .inr ⟨A,by simp,g⟩
  ·unfold RV;exact⟨by simp[eO],rfl⟩

end
end
section
section
variable{P:Program}{cx:Cx}{κ:dx}{F:Nat->Prop}{w:World}{U:Nat->Prop}{nm:Nat}{σ:bJ}{ty:TypeId->Option bD}{Γ:Nat->Option dJ}

theorem QN(q:dh cx κ F w U σ){n o g k j:Nat}(hn:¬U n){t:vS}(ht:gM σ o g=some t)(hh:t.hole=none)(hk:k<t.l.length){e':TypeId}(hm:dA t.mask j=some e'):
  dh cx (eO κ n (kv ((κ g).r k j))) F w (fun m=>U m \/m=n) (upd (upd σ o (some (.tab t.e t.es t.mask t.l g (some (k,j))))) n (some (.arr e' (dM t.l k j).1 (dM t.l k j).2))):=by
 have u:=nY ht;rw[hh]at u;have ac:(dA t.mask j).isSome=true:=by rw[hm];rfl
 have p:=q.nb o _ u;obtain⟨e2,W,T,aa,i⟩:=p9 q ht hk ac (by rw[hh];rfl);rw[hm]at W;cases W;rw[hh]at i;have M:∀m,U m->eO κ n (kv ((κ g).r k j)) m=κ m:=fun m hm=>by
  have:m≠n:=fun e=>hn (e▸hm);simp[eO,this]
 have Y:eO κ n (kv ((κ g).r k j)) n=kv ((κ g).r k j):=by simp[eO]
 have af:o≠n:=fun e=>hn (e▸p.1);have f:eB F w t.e t.es t.mask t.l (κ o).v (κ g).r none:=q.ok o _ u;have s:∀k' j',fU t.mask t.l.length (some (k,j)) k' j'->fU t.mask t.l.length none k' j'/\ (k',j')≠(k,j):=fun k' j' h=>⟨⟨h.1,h.2.1,by simp⟩,fun e=>h.2.2 (by rw[e])⟩;have hσ:∀m y,upd (upd σ o (some (.tab t.e t.es t.mask t.l g (some (k,j))))) n (some (.arr e' (dM t.l k j).1 (dM t.l k j).2)) m=some y->
   (m=n/\ y=.arr e' (dM t.l k j).1 (dM t.l k j).2) \/(m≠n/\ m=o/\ y=.tab t.e t.es t.mask t.l g (some (k,j))) \/(m≠n/\ m≠o/\ σ m=some y):=fun m y B=>by
  by_cases a:m=n
  ·subst a;rw[iP]at B;exact .inl ⟨rfl,(gT B).symm⟩
  ·rw[jq a]at B;by_cases C:m=o
   ·subst C;rw[iP]at B;exact .inr (.inl ⟨a,rfl,(gT B).symm⟩)
   ·rw[jq C]at B;exact .inr (.inr ⟨a,C,B⟩)
 have A:∀m y,upd (upd σ o (some (.tab t.e t.es t.mask t.l g (some (k,j))))) n (some (.arr e' (dM t.l k j).1 (dM t.l k j).2)) m=some y->∀b,dw (eO κ n (kv ((κ g).r k j))) m y b->
   (m=n/\ blk ((κ g).r k j)=some b) \/(m=o/\ m≠n/\ (blk (κ o).v=some b \/∃k' j',fU t.mask t.l.length none k' j'/\ (k',j')≠(k,j)/\ blk ((κ g).r k' j')=some b)) \/(m≠n/\ m≠o/\ σ m=some y/\ dw κ m y b):=by
  intro m y B b hb;rcases hσ m y B with⟨rfl,rfl⟩|⟨a,rfl,rfl⟩|⟨a,C,I⟩
  ·rcases hb with hb|hb
   ·rw[Y]at hb;exact .inl ⟨rfl,hb⟩
   ·exact hb.elim
  ·refine .inr (.inl ⟨rfl,a,?_⟩);rcases hb with hb|⟨k',j',ad,hb⟩
   ·rw[M m p.1]at hb;exact .inl hb
   ·rw[M g p.2]at hb;obtain⟨q1,H⟩:=s k' j' ad;exact .inr ⟨k',j',q1,H,hb⟩
  ·have G:=q.nb m y I;exact .inr (.inr ⟨a,C,I,hb.pO M G.1 G.2⟩)
 refine⟨fun m y B=>?_,fun m y B=>?_,fun m y B b hb=>?_,fun m y N R B L D b hb J=>?_,q.fG,q.kB,q.gB,q.bs,q.inv,fun j' K=>⟨.inl (q.lt j' K).1,by rw[M j' (q.lt j' K).1];exact(q.lt j' K).2⟩⟩
 ·rcases hσ m y B with⟨rfl,rfl⟩|⟨a,rfl,rfl⟩|⟨a,C,I⟩
  ·show iq F w e' (dM t.l k j).1 (eO κ m (kv ((κ g).r k j)) m).v (dM t.l k j).2;rw[Y];exact T
  ·show eB F w t.e t.es t.mask t.l (eO κ n (kv ((κ g).r k j)) m).v (eO κ n (kv ((κ g).r k j)) g).r (some (k,j));rw[M m p.1,M g p.2];obtain⟨us,X,ae,hc⟩:=f.mem;refine⟨f.pos,f.oH,f.cells,⟨us,X,ae,fun k' d j' c ab hd=>?_⟩,fun k1 j1 k2 j2 q1 H D=>f.apart k1 j1 k2 j2 (s _ _ q1).1 (s _ _ H).1 D,fun k1 j1 q1=>f.outer k1 j1 (s _ _ q1).1⟩;obtain⟨x,x1,x2,x3⟩:=hc k' d j' c ab hd;refine⟨x,x1,x2,?_⟩;cases V:dA t.mask j' with
   |none=>rw[V]at x3;exact x3
   |some e2=>
    rw[V]at x3;simp only[]at x3 ⊢;rcases x3 with⟨x4,x3|x3⟩
    ·cases x3
    ·exact⟨x4,.inr x3⟩
  ·have G:=q.nb m y I;exact iH.mono M (fun _ hb=>hb) (fun _ _=>rfl) G.1 G.2 (fun _ _=>rfl) (q.ok m y I)
 ·rcases hσ m y B with⟨rfl,rfl⟩|⟨a,rfl,rfl⟩|⟨a,C,I⟩
  ·exact⟨.inr rfl,trivial⟩
  ·exact⟨.inl p.1,.inl p.2⟩
  ·have G:=q.nb m y I;exact⟨.inl G.1,gG.mono (fun _ h=>.inl h) G.2⟩
 ·rcases A m y B b hb with⟨_,a⟩|⟨_,_,a⟩|⟨_,_,a,C⟩
  ·exact q.free o _ u b (.inr ⟨k,j,i,a⟩)
  ·refine q.free o _ u b ?_;rcases a with a|⟨k',j',q1,_,H⟩
   ·exact .inl a
   ·exact .inr ⟨k',j',q1,H⟩
  ·exact q.free m y a b C
 ·rcases A m y B b hb with⟨rfl,a⟩|⟨rfl,_,a⟩|⟨q1,H,a,C⟩
  ·rcases A N R L b J with⟨rfl,_⟩|⟨rfl,_,z⟩|⟨Z,E,z,S⟩
   ·exact D rfl
   ·rcases z with z|⟨k',j',O,r2,Q⟩
    ·exact f.outer k j i b a z
    ·exact f.apart k' j' k j O i r2 b Q a
   ·exact q.apart o _ N R u z (Ne.symm E) b (.inr ⟨k,j,i,a⟩) S
  ·have hB:dw κ m (.tab t.e t.es t.mask t.l g none) b:=by
    rcases a with a|⟨k',j',O,_,Q⟩
    ·exact .inl a
    ·exact .inr ⟨k',j',O,Q⟩
   rcases A N R L b J with⟨rfl,z⟩|⟨rfl,_,_⟩|⟨Z,E,z,S⟩
   ·rcases a with a|⟨k',j',O,r2,Q⟩
    ·exact f.outer k j i b z a
    ·exact f.apart k' j' k j O i r2 b Q z
   ·exact D rfl
   ·exact q.apart m _ N R u z (Ne.symm E) b hB S
  ·rcases A N R L b J with⟨rfl,z⟩|⟨rfl,_,z⟩|⟨Z,E,z,S⟩
   ·exact q.apart m y o _ a u H b C (.inr ⟨k,j,i,z⟩)
   ·refine q.apart m y N _ a u H b C ?_;rcases z with z|⟨k',j',O,_,Q⟩
    ·exact .inl z
    ·exact .inr ⟨k',j',O,Q⟩
   ·exact q.apart m y N R a z D b C S

theorem SB(aj:∀t x,ty t=some x->bS P t x)(h:dh cx κ F w U σ)(hf:∀j,j<16->¬U (nm+j)){o:Oper}{ρ:Operand->Value}{e:Operand->AV}(he:∀x,RV κ F w (e x) (ρ x)){x y:Operand}{t:TypeId}
  (ho:o.op=.call {callee:=.builtin .append,args:= #[x,y],argTypes:= #[t,t]}) {el:TypeId} {E:bD} {ob g k j:Nat} {K:List D} {rd:List Nat} (ab:iY ty t=some (el,E)) (A:0<E.size) (am:E.zero.cells.size=E.size)
  (ac:e x=.row ob g k j) (ai:lS σ E.size (e y)=some (K,rd)):dP P cx κ F w U nm σ o ρ (oZ σ nm el E ob g k j K rd):=by
 have ao:∀v w',(Builtin.append_ #[t,t] o.type #[ρ x,ρ y]).run P w=.ok v w'->(execOp ρ o).run P w=.ok (.value v) w':=by
  intro v w' hv;unfold execOp;simp only[ho,resolve,invoke,builtin,Sem.run_bind,Sem.run_pure,Result.andThen_ok,rG,dX,jv,hv]
 obtain⟨hu,ap⟩:=nD aj ab;obtain⟨_,i,i1,Y,i3,i4,_⟩:=ap;have hx:=he x;rw[ac]at hx;unfold RV at hx;obtain⟨a2,c2,Z,ak,aa,V,B,f⟩:=Dh h ai (he y);have L:∀u∈Z,u.oneCell'=true:=fun u hu=>by rw[yS];exact B.ones u hu
 unfold oZ;split
 ·rename_i b T;split
  ·rename_i C;split
   ·rename_i hm;intro J;obtain⟨p1,p2,p3,p4⟩:=(show _/\ _/\ _/\ _ from J);have p:¬U (nm+1):=hf 1 (by omega);have h1:=QN h p T C p1 hm;have af:=nY T;have q:=h.nb ob _ af;have Q:=h1.ok (nm+1) _ (iP _ _);have W:eO κ (nm+1) (kv ((κ g).r k j)) (nm+1)=kv ((κ g).r k j):=by simp[eO]
    obtain⟨us,d,R,_⟩:=(show iq F w el (dM b.l k j).1 (eO κ (nm+1) (kv ((κ g).r k j)) (nm+1)).v (dM b.l k j).2 from Q);rw[W]at d;rw[p2]at d R;obtain⟨v',w',g1,g2,g3,g4⟩:=xK (P:=P) (w:=w) t o.type el i E.zero hu i1 i4 (by rw[am,Y]) (by rw[Y];exact A) ((κ g).r k j) (dM b.l k j).2.length us (by rw[Y];exact d)
     a2 K.length c2 aa Z (by rw[Y];exact V) f L (by unfold maxLen;omega) (by rw[i3];omega)
    rw[Y]at g2;have N:((dM b.l k j).2++K).length=(dM b.l k j).2.length+K.length:=gu;rw[<-N]at g2;refine dW (ao _ _ (by rw[hx.1,ak];exact g1)) ?_;have S:=Own.slice d;obtain⟨a,c,e'⟩:=S;have ad:¬(fun m=>U m \/m=nm+1) nm:=fun hc=>by
     rcases hc with hc|hc
     ·exact hf 0 (by omega) hc
     ·omega
    have ha:=xE h1 ad (v:=(κ g).r k j) (oo:=some (nm+1)) (fun o' O=>by simp at O;subst O;exact⟨⟨_,iP _ _⟩,by rw[W]⟩) (by simp) g3 ⟨_,_,_,e'⟩ g4 g2 (RE.app R B) A;refine⟨.own nm,_,(fun n=>if n=nm then kv v' else eO κ (nm+1) (kv ((κ g).r k j)) n),F,⟨rfl,rfl⟩,⟨fun m hm'=>?_,fun _ hb=>hb,ha.wx,fun m hm'=>fF hm',?_⟩,?_,jA _ fI⟩
    ·have ae:m≠nm+1:=fun M=>p (M▸hm');rw[ha.pO m (.inl hm')];simp[eO,ae]
    ·have ah:=ha.gP;have hU:∀m,Un (fun m=>U m \/m=nm+1) nm m->Un U nm m:=fun m hm'=>by
      rcases hm' with(hm'|hm')|hm'
      ·exact .inl hm'
      ·exact .inr ⟨by omega,by omega⟩
      ·exact .inr hm'
     have s:=ah.un hU;have aq:ob≠nm:=fun M=>hf 0 (by omega) (by rw[lN];exact M▸q.1);have I:ob≠nm+1:=fun M=>p (M▸q.1);have X:σ (nm+1)=none:=by
      cases hs:σ (nm+1)with
      |none=>rfl
      |some z=>exact absurd (h.nb _ z hs).1 p
     have heq:upd (uE (upd (upd σ ob (some (.tab b.e b.es b.mask b.l g (some (k,j))))) (nm+1) (some (.arr el (dM b.l k j).1 (dM b.l k j).2))) (some (nm+1))) nm (some (.arr el E.size ((dM b.l k j).2++K)))=
       app [(ob,some (.tab b.e b.es b.mask b.l g (some (k,j)))),(nm,some (.arr el E.size ((dM b.l k j).2++K)))] σ:=by
      funext m;show upd _ nm _ m=upd (upd σ ob _) nm _ m;by_cases G:m=nm
      ·subst G;rw[iP,iP]
      ·rw[jq G,jq G];simp only[uE];by_cases H:m=nm+1
       ·subst H;rw[iP,jq (Ne.symm I),X]
       ·rw[jq H,jq H]
     rw[heq]at s;exact s
    ·unfold RV;obtain⟨a,c,e'⟩:=Own.slice g2;exact⟨by simp,by rw[e'];rfl⟩
   ·intro J;exact J.elim
  ·intro J;exact J.elim
 ·intro J;exact J.elim


theorem Sl(G:∀t x,ty t=some x->bS P t x)(h:dh cx κ F w U σ){o:Oper}{ρ:Operand->Value}{e:Operand->AV}(u:∀x,RV κ F w (e x) (ρ x))(S:∀x,NB U (e x)){t:TypeId}{x:Operand}{lo hi:Option Operand}(T:o.op=.slice t x lo hi none)
  {el:TypeId} {E:bD} {ob g k j:Nat} {l i:Int} {I:Operand} {kk:IntKind} (y:iY ty t=some (el,E)) (z:e x=.row ob g k j) (A:hi=some I) (C:fE (e I)=some (kk,i)) (D:pW (lo.map e)=some l):
  dP P cx κ F w U nm σ o ρ (qU σ E ob g k j l i):=by
 obtain⟨M,K⟩:=nD G y;have m:=CX u D;have B:hi.map ρ=some (.int kk i):=by rw[A,gW,jl C (u I)]
 have H:=u x;have d:=S x;rw[z]at H d;unfold RV at H;unfold qU;split
 ·rename_i q V;split
  ·rename_i hc;intro p;obtain⟨W,p2,X,Y,p5⟩:=(show _/\ _/\ _/\ _/\ _ from p);obtain⟨e',_,⟨us,n,_⟩,_⟩:=p9 h V W hc.2 hc.1;obtain⟨a,c,q1,Z,q3⟩:∃a c,(κ g).r k j=.slice a (dM q.l k j).2.length c/\ (dM q.l k j).2.length<=c/\ ((dM q.l k j).2.length=0 \/∃b f,a=some ⟨b,f,none⟩):=by
    rcases n.2 with⟨s,L⟩|⟨Q,J,c,N,s,_,R,_⟩
    ·exact⟨none,0,by rw[s,L],by omega,.inl L⟩
    ·exact⟨_,c,s,R,.inr ⟨Q,J,rfl⟩⟩
   have O:(i-l).toNat=i.toNat-l.toNat:=by omega
   refine dW (v:=.slice (if c=l.toNat then a else a.map (·.add (l.toNat*E.size))) (i.toNat-l.toNat) (c-l.toNat)) (w':=w) (zQ T M (by simp) ?_) (fJ h ?_ ?_)
   ·rw[H.1,q1];simp only[Instr.slice,Sem.run_bind,run_underlying M,Result.andThen_ok,zT true (dM q.l k j).2.length c m (.inr ⟨kk,B,by omega⟩) X Y,jm K,Sem.run_pure]
   ·unfold RV;refine⟨a,_,c,q1,Z,by omega,?_,by rw[O]⟩;rcases q3 with q3|q3
    ·left;omega
    ·exact .inr q3
   ·unfold NB at d ⊢;exact d
  ·intro p;exact p.elim
 ·intro p;exact p.elim
end
end
section

mutual
def jH:Pt->D->Nat->AV
 | .rd,d,_=>.dat d
 | .zr,d,_=>.dat d
 | .sl,_,k=>.own k
 | .bx,_,k=>.ref k 0
 | .bo _,_,k=>.ref k 0
 | .ag l,.agg ds,k=>.aggv (fD l ds k)
 | .fn f l,.agg ds,k=>.fn f (fD l ds k)
 |_,_,_=>.unk
def fD:List Pt->List D->Nat->List AV
 |[],_,_=>[]
 |p::ls,d::ds,k=>jH p d k::fD ls ds (k+p.n)
 |_::ls,[],k=>.unk::fD ls [] k
end
def yG(κ:dx)(F:Nat->Prop)(w:World)(ls:List Pt)(ds:List D)(k:Nat)(vs:List Value):Prop:=dz κ F w (fD ls ds k) vs

structure Ai(κ:dx)(F:Nat->Prop)(w:World)(M:Nat->Prop)(m:Nat)(obs:List bH):Prop where
 ok:∀j x,obs[j]? =some x->iH κ F w j (x.eT j)/\ jU m x
 blk:∀j x,obs[j]? =some x->∀b,dw κ j (x.eT j) b->M b
 apart:∀i x j y,obs[i]? =some x->obs[j]? =some y->i≠j->∀b,dw κ i (x.eT i) b->¬dw κ j (y.eT j) b

def kQ(κ:dx)(obs:List bH)(b:Nat):Prop:=∃j x,obs[j]? =some x/\ dw κ j (x.eT j) b

structure DU(S:dJ)(ds:List D)(obs:List bH)(κ:dx)(F:Nat->Prop)(w:World)(v:Value)(w':World)(r:AV)(ns cO:List bH)(κ' κl:dx)(F':Nat->Prop):Prop where
 post:S.post ds obs r ns cO
 fr:∀b,F b->F' b
 fr':∀b,F' b->F b \/kQ κ obs b \/w.heap.size<=b
 flt:∀b,F' b->b<w'.heap.size
 wx:Wx (fun b=>b<w.heap.size/\ ¬kQ κ obs b) w w'
 rv:RV κ' F' w' r v
 nb:NB (· <ns.length) r
 apart:∀(i:Nat)(x:bH)(j:Nat)(y:bH),cO[i]? =some x->ns[j]? =some y->∀b,dw κl i (x.eT i) b->¬dw κ' j (y.eT j) b
 new:Ai κ' F' w' (fun b=>(kQ κ obs b \/w.heap.size<=b)/\ ¬F' b) ns.length ns
 sH:Ai κl F' w' (fun b=>(kQ κ obs b \/w.heap.size<=b)/\ ¬F' b) (cO.length+ns.length) cO
 lk:∀i,i<ns.length->(κl (cO.length+i)).v=(κ' i).v
 lv:∀j,j<cO.length->(κl j).v=(κ j).v

def FnOK(P:Program)(J:Inv)(f:Nat)(S:dJ):Prop:=
 (∀args w,(callFunc f args).run P w=.ok (.enter f args) w)/\
 ∀(vs:List Value)(w:World)(F:Nat->Prop)(ds:List D)(obs:List bH)(κ:dx),S.pre ds obs->yG κ F w S.lend ds 0 vs->(∀b,F b->b<w.heap.size)->vV J F w->
  Ai κ F w (fun b=>b<w.heap.size/\ ¬F b) obs.length obs->
  Calls P f vs.toArray w fun e w'=>∃v,e=.returned v/\ ∃r new cO κ' κl F',DU S ds obs κ F w v w' r new cO κ' κl F'

section
variable{P:Program}{cx:Cx}{κ:dx}{F:Nat->Prop}{w:World}{U:Nat->Prop}{nm:Nat}{σ:bJ}{ty:TypeId->Option bD}{Γ:Nat->Option dJ}

theorem RC.flat{F':Nat->Prop}{w':World}:∀{l:List D}{us:List Value},(∀d∈l,∃v,d=.sc v)->RC F w l us->RC F' w' l us
 |[],us,_,h=>by unfold RC at h ⊢;exact h
 |d::ds,us,c,h=>by
  unfold RC at h ⊢;obtain⟨u,a,e,f,b,g⟩:=h;obtain⟨v,rfl⟩:=c d (dU ..);unfold RD at b;exact⟨u,a,e,f,by unfold RD;exact b,RC.flat (fun d hd=>c d (dZ _ hd)) g⟩
theorem RD.flat{F':Nat->Prop}{w':World}{d:D}{v:Value}(hd:lW d)(h:RD F w d v):RD F' w' d v:=by
 cases d with
 |sc u=>unfold RD at h ⊢;exact h
 |sl es l=>exact hd.elim
 |agg l=>
  unfold RD at h ⊢;obtain⟨cs,a,b⟩:=h;exact⟨cs,a,RC.flat hd b⟩
theorem RE.flat{F':Nat->Prop}{w':World}{es:Nat}:∀{l:List D}{us:List Value},(∀d∈l,lW d)->RE F w es l us->RE F' w' es l us
 |[],us,_,h=>by unfold RE at h ⊢;exact h
 |d::ds,us,b,h=>by
  obtain⟨u,g,rfl,c,a,f⟩:=h.cons;refine RE.mk c ?_ (RE.flat (fun d hd=>b d (dZ _ hd)) f);have hd:=b d (dU ..);cases d with
  |sc v=>exact RC.flat (by simp[D.cells]) a
  |sl e l=>exact hd.elim
  |agg l=>exact RC.flat hd a
theorem RV.JI{F':Nat->Prop}{w':World}{x:AV}{v:Value}(a:uL x)(h:RV κ F w x v):RV κ F' w' x v:=by
 cases x with
 |dat d=>unfold RV at h ⊢;exact RD.flat a h
 |own o=>unfold RV at h ⊢;exact h
 |_=>exact a.elim
theorem bQ.flat{F':Nat->Prop}{w':World}:∀{l:List AV}{us:List Value},(∀x∈l,uL x)->bQ κ F w l us->bQ κ F' w' l us
 |[],us,_,h=>by unfold bQ at h ⊢;exact h
 |x::l,us,b,h=>by
  unfold bQ at h ⊢;obtain⟨u,a,c,e,f,g⟩:=h;exact⟨u,a,c,e,RV.JI (b x (dU ..)) f,bQ.flat (fun d hd=>b d (dZ _ hd)) g⟩
theorem RV.flatE{F':Nat->Prop}{w':World}{x:AV}{v:Value}(a:jry x)(h:RV κ F w x v):RV κ F' w' x v:=by
 cases x with
 |aggv l=>
  unfold RV at h ⊢;obtain⟨cs,b,c⟩:=h;exact⟨cs,b,bQ.flat a c⟩
 |_=>exact RV.JI a h
theorem dz.flat{F':Nat->Prop}{w':World}:∀{l:List AV}{us:List Value},(∀x∈l,jry x)->dz κ F w l us->dz κ F' w' l us
 |[],us,_,h=>by unfold dz at h ⊢;exact h
 |x::l,us,b,h=>by
  unfold dz at h ⊢;obtain⟨u,a,c,e,f⟩:=h;exact⟨u,a,c,RV.flatE (b x (dU ..)) e,dz.flat (fun d hd=>b d (dZ _ hd)) f⟩
theorem RV.flat{F':Nat->Prop}{w':World}{x:AV}{v:Value}(a:job x)(h:RV κ F w x v):RV κ F' w' x v:=by
 cases x with
 |tup l=>
  unfold RV at h ⊢;obtain⟨cs,b,c⟩:=h;exact⟨cs,b,dz.flat a c⟩
 |_=>exact RV.flatE a h
theorem iq.flat{F':Nat->Prop}{e:TypeId}{es:Nat}{u:Value}{l:List D}(f:∀d∈l,lW d)(h:iq F w e es u l):iq F' w e es u l:=by
 obtain⟨us,a,b,c⟩:=h;exact⟨us,a,RE.flat f b,c⟩
theorem eB.flat{F':Nat->Prop}{e:TypeId}{es:Nat}{mask:List (Option TypeId)}{l:List D}{u:Value}{r:Nat->Nat->Value}{hole:Option (Nat×Nat)}(v:∀d∈l,yF mask d)(h:eB F w e es mask l u r hole):eB F' w e es mask l u r hole:=by
 refine⟨h.pos,h.oH,h.cells,?_,h.apart,h.outer⟩;obtain⟨us,q,s,t⟩:=h.mem;refine⟨us,q,s,fun k d j c i hc=>?_⟩;obtain⟨x,n,o,a⟩:=t k d j c i hc;have b:=v d (bT i) j c hc;refine⟨x,n,o,?_⟩;cases m:dA mask j with
 |none=>
  rw[m]at a b;exact RD.flat b a
 |some e'=>
  rw[m]at a b;rcases a with⟨g,a|⟨es',rows,f,p⟩⟩
  ·exact⟨g,.inl a⟩
  ·exact⟨g,.inr ⟨es',rows,f,p.flat (b es' rows f)⟩⟩

mutual
def NR(V:Nat->Prop):AV->Prop
 | .own o| .ref o _| .eref o _ _ _=>V o
 | .aggv l| .tup l| .fn _ l=>gq V l
 |_=>True
def gq(V:Nat->Prop):List AV->Prop
 |[]=>True
 |x::l=>NR V x/\ gq V l
end
mutual
theorem NB.nr{V:Nat->Prop}:∀{x:AV},NB V x->NR V x
 | .dat _,h=>by unfold NR;trivial
 | .own o,h=>by unfold NB at h;unfold NR;exact h
 | .ref o _,h=>by unfold NB at h;unfold NR;exact h
 | .eref o _ _ _,h=>by unfold NB at h;unfold NR;exact h
 | .row _ _ _ _,h=>by unfold NR;trivial
 | .fH _ _ _ _ _ _ _,h=>by unfold NR;trivial
 | .vw _ _ _ _ _ _ _,h=>by unfold NR;trivial
 | .fp _,h=>by unfold NR;trivial
 | .aggv l,h=>by unfold NB at h;unfold NR;exact bN.nr h
 | .tup l,h=>by unfold NB at h;unfold NR;exact bN.nr h
 | .fn _ l,h=>by unfold NB at h;unfold NR;exact bN.nr h
 | .und,h=>by unfold NR;trivial
 | .unk,h=>by unfold NR;trivial
theorem bN.nr{V:Nat->Prop}:∀{l:List AV},bN V l->gq V l
 |[],_=>by unfold gq;trivial
 |x::l,h=>by unfold bN at h;unfold gq;exact⟨NB.nr h.1,bN.nr h.2⟩
end
mutual
theorem NR.mono{V a:Nat->Prop}(hV:∀o,V o->a o):∀{x:AV},NR V x->NR a x
 | .dat _,h=>by unfold NR;trivial
 | .own o,h=>by unfold NR at h ⊢;exact hV o h
 | .ref o _,h=>by unfold NR at h ⊢;exact hV o h
 | .eref o _ _ _,h=>by unfold NR at h ⊢;exact hV o h
 | .row _ _ _ _,h=>by unfold NR;trivial
 | .fH _ _ _ _ _ _ _,h=>by unfold NR;trivial
 | .vw _ _ _ _ _ _ _,h=>by unfold NR;trivial
 | .fp _,h=>by unfold NR;trivial
 | .aggv l,h=>by unfold NR at h ⊢;exact gq.mono hV h
 | .tup l,h=>by unfold NR at h ⊢;exact gq.mono hV h
 | .fn _ l,h=>by unfold NR at h ⊢;exact gq.mono hV h
 | .und,h=>by unfold NR;trivial
 | .unk,h=>by unfold NR;trivial
theorem gq.mono{V a:Nat->Prop}(hV:∀o,V o->a o):∀{l:List AV},gq V l->gq a l
 |[],_=>by unfold gq;trivial
 |x::l,h=>by unfold gq at h ⊢;exact⟨NR.mono hV h.1,gq.mono hV h.2⟩
end
mutual
theorem NR.su{V:Nat->Prop}{f:Nat->Nat}:∀{x:AV},NB V (x.ren f)->NR (fun o=>V (f o)) x
 | .dat _,h=>by unfold NR;trivial
 | .own o,h=>by unfold AV.ren NB at h;unfold NR;exact h
 | .ref o _,h=>by unfold AV.ren NB at h;unfold NR;exact h
 | .eref o _ _ _,h=>by unfold AV.ren NB at h;unfold NR;exact h
 | .row _ _ _ _,h=>by unfold NR;trivial
 | .fH _ _ _ _ _ _ _,h=>by unfold NR;trivial
 | .vw _ _ _ _ _ _ _,h=>by unfold NR;trivial
 | .fp _,h=>by unfold NR;trivial
 | .aggv l,h=>by unfold AV.ren NB at h;unfold NR;exact gq.su h
 | .tup l,h=>by unfold AV.ren NB at h;unfold NR;exact gq.su h
 | .fn _ l,h=>by unfold AV.ren NB at h;unfold NR;exact gq.su h
 | .und,h=>by unfold NR;trivial
 | .unk,h=>by unfold NR;trivial
theorem gq.su{V:Nat->Prop}{f:Nat->Nat}:∀{l:List AV},bN V (jf f l)->gq (fun o=>V (f o)) l
 |[],_=>by unfold gq;trivial
 |x::l,h=>by unfold jf bN at h;unfold gq;exact⟨NR.su h.1,gq.su h.2⟩
end
mutual
theorem NR.nb{V:Nat->Prop}{f:Nat->Nat}:∀{x:AV},NR (fun o=>V (f o)) x->NB V (x.ren f)
 | .dat _,h=>by unfold AV.ren NB;trivial
 | .own o,h=>by unfold NR at h;unfold AV.ren NB;exact h
 | .ref o _,h=>by unfold NR at h;unfold AV.ren NB;exact h
 | .eref o _ _ _,h=>by unfold NR at h;unfold AV.ren NB;exact h
 | .row _ _ _ _,h=>by unfold AV.ren NB;trivial
 | .fH _ _ _ _ _ _ _,h=>by unfold AV.ren NB;trivial
 | .vw _ _ _ _ _ _ _,h=>by unfold AV.ren NB;trivial
 | .fp _,h=>by unfold AV.ren NB;trivial
 | .aggv l,h=>by unfold NR at h;unfold AV.ren NB;exact gq.nb h
 | .tup l,h=>by unfold NR at h;unfold AV.ren NB;exact gq.nb h
 | .fn _ l,h=>by unfold NR at h;unfold AV.ren NB;exact gq.nb h
 | .und,h=>by unfold AV.ren NB;trivial
 | .unk,h=>by unfold AV.ren NB;trivial
theorem gq.nb{V:Nat->Prop}{f:Nat->Nat}:∀{l:List AV},gq (fun o=>V (f o)) l->bN V (jf f l)
 |[],_=>by unfold jf bN;trivial
 |x::l,h=>by unfold gq at h;unfold jf bN;exact⟨NR.nb h.1,gq.nb h.2⟩
end
mutual
theorem RV.ren{κ':dx}{F':Nat->Prop}{f:Nat->Nat}(hF:∀b,F b->F' b):∀{x:AV}{v:Value},NR (fun o=>(κ' (f o)).v=(κ o).v) x->RV κ F w x v->RV κ' F' w (x.ren f) v
 | .dat d,v,_,h=>by unfold AV.ren;unfold RV at h ⊢;exact RD.mono hF (fun _ _=>rfl) h
 | .own o,v,a,h=>by unfold NR at a;unfold AV.ren;unfold RV at h ⊢;rw[a];exact h
 | .ref o i,v,a,h=>by unfold NR at a;unfold AV.ren;unfold RV at h ⊢;rw[a];exact h
 | .eref o es k j,v,a,h=>by unfold NR at a;unfold AV.ren;unfold RV at h ⊢;rw[a];exact h
 | .row _ _ _ _,v,_,h=>by unfold AV.ren RV;trivial
 | .fH _ _ _ _ _ _ _,v,_,h=>by unfold AV.ren RV;trivial
 | .vw _ _ _ _ _ _ _,v,_,h=>by unfold AV.ren RV;trivial
 | .fp ds,v,_,h=>by
  unfold AV.ren;unfold RV at h ⊢;obtain⟨b,m,us,c,e,n,p⟩:=h;exact⟨b,m,us,c,hF b e,n,RC.mono hF (fun _ _=>rfl) p⟩
 | .aggv l,v,a,h=>by
  unfold NR at a;unfold AV.ren;unfold RV at h ⊢;obtain⟨cs,c,e⟩:=h;exact⟨cs,c,bQ.ren hF a e⟩
 | .tup l,v,a,h=>by
  unfold NR at a;unfold AV.ren;unfold RV at h ⊢;obtain⟨cs,c,e⟩:=h;exact⟨cs,c,dz.ren hF a e⟩
 | .fn g l,v,a,h=>by
  unfold NR at a;unfold AV.ren;unfold RV at h ⊢;obtain⟨cs,c,e⟩:=h;exact⟨cs,c,dz.ren hF a e⟩
 | .und,v,_,h=>by unfold AV.ren;unfold RV at h ⊢;exact h
 | .unk,v,_,h=>by unfold AV.ren RV;trivial
theorem dz.ren{κ':dx}{F':Nat->Prop}{f:Nat->Nat}(hF:∀b,F b->F' b):∀{l:List AV}{us:List Value},gq (fun o=>(κ' (f o)).v=(κ o).v) l->dz κ F w l us->dz κ' F' w (jf f l) us
 |[],us,_,h=>by unfold jf;unfold dz at h ⊢;exact h
 |x::l,us,a,h=>by
  unfold gq at a;unfold jf;unfold dz at h ⊢;obtain⟨u,c,d,e,g⟩:=h;exact⟨u,c,d,RV.ren hF a.1 e,dz.ren hF a.2 g⟩
theorem bQ.ren{κ':dx}{F':Nat->Prop}{f:Nat->Nat}(hF:∀b,F b->F' b):∀{l:List AV}{us:List Value},gq (fun o=>(κ' (f o)).v=(κ o).v) l->bQ κ F w l us->bQ κ' F' w (jf f l) us
 |[],us,_,h=>by unfold jf;unfold bQ at h ⊢;exact h
 |x::l,us,c,h=>by
  unfold gq at c;unfold jf;unfold bQ at h ⊢;obtain⟨u,d,e,a,g,i⟩:=h;exact⟨u,d,e,a,RV.ren hF c.1 g,bQ.ren hF c.2 i⟩
end
theorem wU:∀{ns:List Nat}{o:Nat},ixN ns o<ns.length->ns[ixN ns o]? =some o
 |[],o,h=>by simp[ixN]at h
 |a::r,o,h=>by
  unfold ixN at h ⊢;cases hb:Nat.beq a o with
  |true=>have:=eG hb;subst this;rfl
  |false=>
   rw[hb]at h;simp only[cond_false,gZ,Nat.add_lt_add_iff_right]at h;simpa using wU (o:=o) h

theorem iH.uy{κ':dx}{F':Nat->Prop}{o o' g d L:Nat}{x:bH}{f:Nat->Nat}(c:(κ' o').v=(κ o).v)(n:(κ' d).r=(κ g).r)(u:jU L x)(s:∀j,j<L->(κ' (f j)).v=(κ j).v)(hF:(∀b,F b->F' b) \/lY x)(h:iH κ F w o (x.eT g)):iH κ' F' w o' ((x.ren f).eT d):=by
 cases x with
 |box T l=>
  obtain⟨b,arr,k,m,i⟩:=h;refine⟨b,arr,by rw[c];exact k,m,?_⟩;have a:gq (fun o=>(κ' (f o)).v=(κ o).v) l:=gq.mono s (bN.nr u);rcases hF with hF|hF
  ·exact bQ.ren hF a i
  ·exact bQ.ren (fun _ hb=>hb) a (bQ.flat hF i)
 |gF T E l q=>
  show qJ w T E (κ' o').v ((κ' d).r 0 0) l;rw[c,n];exact h
 |mp t l=>
  show nP w (κ' o').v l;rw[c];exact h
 |arr e es l=>
  show iq F' w e es (κ' o').v l;have h:iq F w e es (κ o).v l:=h;rw[c];rcases hF with hF|hF
  ·obtain⟨us,k,m,i⟩:=h;exact⟨us,k,RE.mono hF (fun _ _=>rfl) m,i⟩
  ·exact h.flat hF
 |tab e es mask l q hole=>
  have p:eB F w e es mask l (κ o).v (κ g).r hole:=h;show eB F' w e es mask l (κ' o').v (κ' d).r hole;rw[c,n];rcases hF with hF|hF
  ·exact p.mono hF (fun _ _=>rfl) (fun _ _=>rfl) (fun _ _ _ _ _=>rfl)
  ·exact p.flat hF
theorem dw.uy{κ':dx}{o o' g c b:Nat}{x:bH}{f:Nat->Nat}(a:(κ' o').v=(κ o).v)(d:(κ' c).r=(κ g).r)(h:dw κ' o' ((x.ren f).eT c) b):dw κ o (x.eT g) b:=by
 cases x with
 |tab e es mask l q hole=>
  rcases h with h|⟨k,i,j,m⟩
  ·exact .inl (by rw[<-a];exact h)
  ·exact .inr ⟨k,i,j,by rw[<-d];exact m⟩
 |gF T E l q=>
  rcases h with h|h
  ·exact .inl (by rw[<-a];exact h)
  ·refine .inr ?_;show blk ((κ g).r 0 0)=some b;rw[<-d];exact h
 |_=>
  rcases h with h|h
  ·exact .inl (by rw[<-a];exact h)
  ·exact h.elim
theorem jU.sw{x:bH}{n L:Nat}{f:Nat->Nat}(hU:U n)(a:∀j,j<L->U (f j))(h:jU L x):gG U ((x.ren f).eT n):=by
 cases x with
 |box T l=>exact gq.nb (gq.mono a (bN.nr h))
 |arr e es l=>trivial
 |mp t l=>trivial
 |gF T E l g=>exact hU
 |tab e es mask l g hole=>exact hU

theorem jU.nbo0{x:bH}{n L:Nat}(hU:U n)(a:∀j,j<L->U j)(h:jU L x):gG U (x.eT n):=by
 cases x with
 |box T l=>exact bN.mono a h
 |arr e es l=>trivial
 |mp t l=>trivial
 |gF T E l g=>exact hU
 |tab e es mask l g hole=>exact hU

def tk(κ:dx)(σ:bJ)(n:Nat):KV:=match σ n with
 |some (.tab _ _ _ _ g _)=>⟨(κ n).v,(κ g).r⟩
 |some (.gF _ _ _ g)=>⟨(κ n).v,(κ g).r⟩
 |some (.box _ _)=>⟨(κ n).v,fun _ _=>.slice none 0 0⟩
 |_=>κ n
theorem jw(κ:dx)(σ:bJ)(n:Nat):(tk κ σ n).v=(κ n).v:=by
 unfold tk;split<;>rfl
theorem iH.named{a:dx}{F':Nat->Prop}{n j L:Nat}{y:bH}{f:Nat->Nat}(i:σ n=some y)(u:jU L ((y.ren f).eT 0))(d:a j=tk κ σ n)(q:∀o,f o<L->(a (f o)).v=(κ o).v)(hF:∀b,F b->F' b)(h:iH κ F w n y):iH a F' w j (((y.ren f).eT 0).eT j):=by
 cases y with
 |box T l=>
  obtain⟨b,arr,k,m,p⟩:=h;exact⟨b,arr,by rw[d,jw];exact k,m,bQ.ren hF (gq.mono q (gq.su u)) p⟩
 |gF T E l g=>
  have c:a j=⟨(κ n).v,(κ g).r⟩:=by rw[d];unfold tk;rw[i]
  show qJ w T E (a j).v ((a j).r 0 0) l;rw[c];exact h
 |mp t l=>
  show nP w (a j).v l;rw[d,jw];exact h
 |arr e es l=>exact iH.uy (o:=n) (g:=n) (L:=0) (f:=f) (x:=.arr e es l) (by rw[d,jw]) (by rw[d];unfold tk;rw[i]) trivial (fun j s=>absurd s (Nat.not_lt_zero _)) (.inl hF) h
 |tab e es mask l g hole=>
  have z:eB F w e es mask l (κ n).v (κ g).r hole:=h;have c:a j=⟨(κ n).v,(κ g).r⟩:=by rw[d];unfold tk;rw[i]
  show eB F' w e es mask l (a j).v (a j).r hole;rw[c];exact z.mono hF (fun _ _=>rfl) (fun _ _=>rfl) (fun _ _ _ _ _=>rfl)
theorem dw.named{c:dx}{n j b:Nat}{y:bH}{f:Nat->Nat}(o:σ n=some y)(d:c j=tk κ σ n)(h:dw c j (((y.ren f).eT 0).eT j) b):dw κ n y b:=by
 rcases h with h|h
 ·exact .inl (by rw[<-jw κ σ n,<-d];exact h)
 ·cases y with
  |tab e es mask l g hole=>
   have a:c j=⟨(κ n).v,(κ g).r⟩:=by rw[d];unfold tk;rw[o]
   obtain⟨k,i,p,m⟩:=h;refine .inr ⟨k,i,p,?_⟩;rw[a]at m;exact m
  |gF T E l g=>
   have a:c j=⟨(κ n).v,(κ g).r⟩:=by rw[d];unfold tk;rw[o]
   refine .inr ?_;have h:blk ((c j).r 0 0)=some b:=h;rw[a]at h;exact h
  |_=>exact h.elim

theorem BX(h:dh cx κ F w U σ){F':Nat->Prop}(hF:∀b,F b->F' b):∀{l:List AV}{ds:List D}{rd:List Nat}{us:List Value},jL.go σ l=some (ds,rd)->(∀o∈rd,∀x,σ o=some x->∀b,dw κ o x b->F' b)->bQ κ F w l us->RC F' w ds us
 |[],ds,rd,us,a,_,e=>by
  simp only[jL.go,bU,eY]at a;obtain⟨rfl,rfl⟩:=a;unfold bQ at e;unfold RC;exact e
 |x::l,ds,rd,us,a,c,e=>by
  unfold bQ at e;obtain⟨u,f,rfl,p,g,q⟩:=e;unfold jL.go at a;split at a
  ·rename_i heq;cases heq
  ·rename_i d l' heq;simp only[ig]at heq;obtain⟨rfl,rfl⟩:=heq;split at a
   ·rename_i i n j;simp only[bU,eY]at a;obtain⟨rfl,rfl⟩:=a;unfold RC;unfold RV at g;exact⟨u,f,rfl,p,RD.mono hF (fun _ _=>rfl) g,BX h hF j c q⟩
   ·cases a
  ·rename_i o l' heq;simp only[ig]at heq;obtain⟨rfl,rfl⟩:=heq;split at a
   ·rename_i es xs i n k j;simp only[bU,eY]at a;obtain⟨rfl,rfl⟩:=a;unfold RC;refine⟨u,f,rfl,p,?_,BX h hF j (fun o k=>c o (dZ _ k)) q⟩;unfold RV at g;obtain⟨y,r,m⟩:=uZ k;rw[g.1];exact yK h hF r m fun b hb=>c o (dU ..) y r b hb
   ·cases a
  ·cases a

theorem PY(h:dh cx κ F w U σ){F':Nat->Prop}(hF:∀b,F b->F' b){x:AV}{d:D}{rd:List Nat}{v:Value}(a:jL σ x=some (d,rd))(e:∀o∈rd,∀x,σ o=some x->∀b,dw κ o x b->F' b)(c:RV κ F w x v):RD F' w d v:=by
 unfold jL at a;split at a
 ·simp only[bU,eY]at a;obtain⟨rfl,rfl⟩:=a;unfold RV at c;exact RD.mono hF (fun _ _=>rfl) c
 ·rename_i o;split at a
  ·rename_i es xs l;simp only[bU,eY]at a;obtain⟨rfl,rfl⟩:=a;unfold RV at c;obtain⟨y,g,f⟩:=uZ l;rw[c.1];exact yK h hF g f fun b hb=>e o (dU ..) y g b hb
  ·cases a
 ·split at a
  ·rename_i ds m k;simp only[bU,eY]at a;obtain⟨rfl,rfl⟩:=a;unfold RV at c;obtain⟨cs,i,j⟩:=c;unfold RD;exact⟨cs,i,BX h hF k e j⟩
  ·cases a
 ·cases a

theorem GX{x:AV}(h:∀o g k j es lo n,x≠.vw o g k j es lo n):nM σ x=jL σ x:=by cases x<;>first|rfl|exact absurd rfl (h _ _ _ _ _ _ _)
theorem P5(h:dh cx κ F w U σ){F':Nat->Prop}(hF:∀b,F b->F' b){x:AV}{d:D}{rd:List Nat}{v:Value}(u:nM σ x=some (d,rd))(i:∀o∈rd,∀x,σ o=some x->∀b,dw κ o x b->F' b)(r:rowP σ .rd x)(B:RV κ F w x v):RD F' w d v:=by
 cases x with
 |vw o g k j es lo n=>
  unfold nM at u;unfold rowP at r;cases s:gM σ o g with
  |none=>simp only[s]at r
  |some t=>
   simp only[s,bU,eY]at u r;obtain⟨rfl,rfl⟩:=u;obtain⟨L,M,N,O,Q⟩:=r;obtain⟨e',_,⟨us,e,p,E⟩,_,q⟩:=p9 h s N M L;unfold RV at B;obtain⟨a,m,G,q1,R,S,_,rfl⟩:=B;rw[O]at e p;have K:m=(dM t.l k j).2.length:=by
    rcases e.2 with⟨c,I⟩|⟨H,C,f,z,c,_⟩
    ·rw[q1]at c;simp only[Value.slice.injEq]at c;omega
    ·rw[q1]at c;simp only[Value.slice.injEq]at c;exact c.2.1
   subst K;obtain⟨y,_⟩:=e.cut (l:=lo) (m:=lo+n) q1 (by omega) Q;rw[pF]at y;have J:(((dM t.l k j).2.drop lo).take n).length=n:=by rw[eF,gY];omega
   have A:((us.take ((lo+n)*es)).drop (lo*es))=(us.drop (lo*es)).take (n*es):=by
    rw[List.drop_take,iD,pF]
   rw[A]at y;refine zO (fun b hb=>?_) (by rw[J];exact y) (RE.mono hF (fun _ _=>rfl) ((p.drop lo).take n));refine i o (dU ..) _ (nY s) b (.inr ⟨k,j,q,?_⟩);rcases e.2 with⟨c,I⟩|⟨H,C,f,z,c,_⟩
   ·rw[q1]at c;simp only[Value.slice.injEq]at c;obtain⟨rfl,_,rfl⟩:=c;split at hb<;>simp[blk]at hb
   ·rw[q1]at c;simp only[Value.slice.injEq]at c;obtain⟨rfl,_,rfl⟩:=c;rw[q1];split at hb
    ·exact hb
    ·rw[gW,Addr.add_lit]at hb;exact hb
 |_=>exact PY h hF ((GX (by intros;simp)).symm.trans u) i B
theorem yV{k:Nat}{x:AV}{d:D}{ns rd:List Nat}(h:dN σ (.bo k) x=some (d,ns,rd)):∃o T l,x=.ref o 0/\ σ o=some (.box T l)/\ (mY l).length=k/\ d=.sc undef/\ ns=o::mY l/\ rd=[]:=by
 cases x with
 |ref o i=>
  cases i with
  |zero=>
   simp only[dN]at h;split at h
   ·rename_i T l a;cases hb:Nat.beq (mY l).length k with
    |true=>
     rw[hb]at h;simp only[cond_true,bU,eY]at h;obtain⟨rfl,rfl,rfl⟩:=h;exact⟨o,T,l,rfl,a,eG hb,rfl,rfl,rfl⟩
    |false=>rw[hb]at h;cases h
   ·cases h
  |succ i=>simp[dN]at h
 |_=>simp[dN]at h
mutual
theorem Bt:∀(p:Pt)(x:AV)(d:D)(ns rd:List Nat),dN σ p x=some (d,ns,rd)->ns.length=p.n
 | .rd,x,d,ns,rd,h=>by
  unfold dN at h;split at h
  ·cases h;unfold Pt.n;rfl
  ·cases h
 | .zr,x,d,ns,rd,h=>by
  cases x with
  |dat j=>
   simp only[dN,bU,eY]at h;obtain⟨rfl,rfl,rfl⟩:=h;unfold Pt.n;rfl
  |_=>simp[dN]at h
 | .sl,x,d,ns,rd,h=>by
  cases x with
  |own o=>
   simp only[dN,bU,eY]at h;obtain⟨rfl,rfl,rfl⟩:=h;unfold Pt.n;rfl
  |_=>simp[dN]at h
 | .bx,x,d,ns,rd,h=>by
  cases x with
  |ref o i=>
   cases i with
   |zero=>
    simp only[dN,bU,eY]at h;obtain⟨rfl,rfl,rfl⟩:=h;unfold Pt.n;rfl
   |succ i=>simp[dN]at h
  |_=>simp[dN]at h
 | .bo k,x,d,ns,rd,h=>by
  obtain⟨o,T,l,rfl,_,g,_,rfl,_⟩:=yV h;unfold Pt.n;rw[gZ,g,xU]
 | .ag l,x,d,ns,rd,h=>by
  cases x with
  |aggv xs=>
   unfold dN at h;split at h
   ·rename_i ds b c a;cases h;unfold Pt.n;exact yX l xs ds ns rd a
   ·cases h
  |_=>simp[dN]at h
 | .fn f l,x,d,ns,rd,h=>by
  cases x with
  |fn e xs=>
   unfold dN at h;split at h
   ·rename_i ds b c a;cases hb:Nat.beq f e with
    |false=>rw[hb]at h;cases h
    |true=>
     rw[hb]at h;cases h;unfold Pt.n;exact yX l xs ds ns rd a
   ·cases h
  |_=>simp[dN]at h
theorem yX:∀(ls:List Pt)(xs:List AV)(ds:List D)(ns rd:List Nat),fM σ ls xs=some (ds,ns,rd)->ns.length=Pt.ns ls
 |[],[],ds,ns,rd,h=>by simp[fM]at h;obtain⟨_,rfl,_⟩:=h;unfold Pt.ns;rfl
 |[],x::xs,ds,ns,rd,h=>by simp[fM]at h
 |p::ls,[],ds,ns,rd,h=>by simp[fM]at h
 |p::ls,x::xs,ds,ns,rd,h=>by
  unfold fM at h;split at h
  ·rename_i d b e a c f g i;cases h;unfold Pt.ns;rw[gu,Bt p x d b e g,yX ls xs a c f i]
  ·cases h
end
mutual
theorem Ik(h:dh cx κ F w U σ){F':Nat->Prop}(hF:∀b,F b->F' b){κc:dx}:
  ∀(p:Pt)(x:AV)(v:Value)(d:D)(ns rd:List Nat)(k:Nat),dN σ p x=some (d,ns,rd)->rowP σ p x->(∀o∈rd,∀x,σ o=some x->∀b,dw κ o x b->F' b)->
   (∀(j n:Nat),ns[j]? =some n->(κc (k+j)).v=(κ n).v)->RV κ F w x v->RV κc F' w (jH p d k) v
 | .rd,x,v,d,ns,rd,k,a,q,c,g,e=>by
  unfold dN at a;split at a
  ·rename_i C A r;cases a;unfold jH RV;exact P5 h hF r c q e
  ·cases a
 | .zr,x,v,d,ns,rd,k,a,q,c,g,e=>by
  cases x with
  |dat B=>
   simp only[dN,bU,eY]at a;obtain⟨rfl,rfl,rfl⟩:=a;unfold jH;unfold RV at e ⊢;exact RD.mono hF (fun _ _=>rfl) e
  |_=>simp[dN]at a
 | .sl,x,v,d,ns,rd,k,a,q,c,g,e=>by
  cases x with
  |own o=>
   simp only[dN,bU,eY]at a;obtain⟨rfl,rfl,rfl⟩:=a;unfold jH;unfold RV at e ⊢;have:=g 0 o (by simp);rw[lN]at this;rw[this];exact e
  |_=>simp[dN]at a
 | .bx,x,v,d,ns,rd,k,a,q,c,g,e=>by
  cases x with
  |ref o i=>
   cases i with
   |zero=>
    simp only[dN,bU,eY]at a;obtain⟨rfl,rfl,rfl⟩:=a;unfold jH;unfold RV at e ⊢;have:=g 0 o (by simp);rw[lN]at this;rw[this];exact e
   |succ i=>simp[dN]at a
  |_=>simp[dN]at a
 | .bo m,x,v,d,ns,rd,k,a,q,c,g,e=>by
  obtain⟨o,T,l,rfl,_,_,_,rfl,_⟩:=yV a;unfold jH;unfold RV at e ⊢;have:=g 0 o (by simp);rw[lN]at this;rw[this];exact e
 | .ag l,x,v,d,ns,rd,k,a,q,c,g,e=>by
  cases x with
  |aggv xs=>
   unfold dN at a;split at a
   ·rename_i ds u y r;cases a;unfold jH;unfold RV at e ⊢;obtain⟨cs,s,t⟩:=e;exact⟨cs,s,I8 h hF l xs cs ds ns rd k r (by unfold rowP at q;exact q) c g t⟩
   ·cases a
  |_=>simp[dN]at a
 | .fn f l,x,v,d,ns,rd,k,a,q,c,g,e=>by
  cases x with
  |fn z xs=>
   unfold dN at a;split at a
   ·rename_i ds u y r;cases hb:Nat.beq f z with
    |false=>rw[hb]at a;cases a
    |true=>
     rw[hb]at a;cases a;have:=eG hb;subst this;unfold jH;unfold RV at e ⊢;obtain⟨cs,s,t⟩:=e;exact⟨cs,s,Dj h hF l xs cs ds ns rd k r (by unfold rowP at q;exact q) c g t⟩
   ·cases a
  |_=>simp[dN]at a
theorem Dj(h:dh cx κ F w U σ){F':Nat->Prop}(hF:∀b,F b->F' b){κc:dx}:
  ∀(ls:List Pt)(xs:List AV)(vs:List Value)(ds:List D)(ns rd:List Nat)(k:Nat),fM σ ls xs=some (ds,ns,rd)->jO σ ls xs->(∀o∈rd,∀x,σ o=some x->∀b,dw κ o x b->F' b)->
   (∀(j n:Nat),ns[j]? =some n->(κc (k+j)).v=(κ n).v)->dz κ F w xs vs->dz κc F' w (fD ls ds k) vs
 |[],[],vs,ds,ns,rd,k,a,m,c,r,e=>by unfold fD;unfold dz at e ⊢;exact e
 |[],x::xs,vs,ds,ns,rd,k,a,_,_,_,_=>by simp[fM]at a
 |p::ls,[],vs,ds,ns,rd,k,a,_,_,_,_=>by simp[fM]at a
 |p::ls,x::xs,vs,ds,ns,rd,k,a,m,c,r,e=>by
  unfold fM at a;split at a
  ·rename_i d f g q t y z C;cases a;unfold jO at m;unfold dz at e;obtain⟨u,i,rfl,A,B⟩:=e;have E:=Bt p x d f g z;unfold fD dz;refine⟨u,i,rfl,Ik h hF p x u d f g k z m.1 (fun o s=>c o (iI _ s)) (fun j n l=>r j n ?_) A,Dj h hF ls xs i q t y (k+p.n) C m.2 (fun o s=>c o (jX _ s)) (fun j n l=>?_) B⟩
   ·rw[jK (cK.1 l).1];exact l
   ·have:=r (p.n+j) n (by rw[kg (by omega),<-E,pF];exact l)
    rwa [<-j5]at this
  ·cases a
theorem I8(h:dh cx κ F w U σ){F':Nat->Prop}(hF:∀b,F b->F' b){κc:dx}:
  ∀(ls:List Pt)(xs:List AV)(vs:List Value)(ds:List D)(ns rd:List Nat)(k:Nat),fM σ ls xs=some (ds,ns,rd)->jO σ ls xs->(∀o∈rd,∀x,σ o=some x->∀b,dw κ o x b->F' b)->
   (∀(j n:Nat),ns[j]? =some n->(κc (k+j)).v=(κ n).v)->bQ κ F w xs vs->bQ κc F' w (fD ls ds k) vs
 |[],[],vs,ds,ns,rd,k,a,m,c,r,e=>by unfold fD;unfold bQ at e ⊢;exact e
 |[],x::xs,vs,ds,ns,rd,k,a,_,_,_,_=>by simp[fM]at a
 |p::ls,[],vs,ds,ns,rd,k,a,_,_,_,_=>by simp[fM]at a
 |p::ls,x::xs,vs,ds,ns,rd,k,a,m,c,r,e=>by
  unfold fM at a;split at a
  ·rename_i d f g q t y z E;cases a;unfold jO at m;unfold bQ at e;obtain⟨u,i,rfl,A,B,C⟩:=e;have G:=Bt p x d f g z;unfold fD bQ;refine⟨u,i,rfl,A,Ik h hF p x u d f g k z m.1 (fun o s=>c o (iI _ s)) (fun j n l=>r j n ?_) B,I8 h hF ls xs i q t y (k+p.n) E m.2 (fun o s=>c o (jX _ s)) (fun j n l=>?_) C⟩
   ·rw[jK (cK.1 l).1];exact l
   ·have:=r (p.n+j) n (by rw[kg (by omega),<-G,pF];exact l)
    rwa [<-j5]at this
  ·cases a
end

theorem Dt:∀{l:List AV}{ds:List D}{rd:List Nat},jL.go σ l=some (ds,rd)->∀o∈rd,∃x,σ o=some x
 |[],ds,rd,h=>by simp[jL.go]at h;obtain⟨_,rfl⟩:=h;simp
 |x::l,ds,rd,h=>by
  unfold jL.go at h;split at h
  ·rename_i heq;cases heq
  ·rename_i d l' heq;simp only[ig]at heq;obtain⟨rfl,rfl⟩:=heq;split at h
   ·rename_i a c b;simp only[bU,eY]at h;obtain⟨rfl,rfl⟩:=h;exact Dt b
   ·cases h
  ·rename_i o l' heq;simp only[ig]at heq;obtain⟨rfl,rfl⟩:=heq;split at h
   ·rename_i es xs a c e b;simp only[bU,eY]at h;obtain⟨rfl,rfl⟩:=h;intro o' ho';rcases dY.1 ho' with rfl|ho'
    ·obtain⟨y,f,_⟩:=uZ e;exact⟨_,f⟩
    ·exact Dt b o' ho'
   ·cases h
  ·cases h

theorem jto{x:AV}{d:D}{rd:List Nat}(h:jL σ x=some (d,rd)):∀o∈rd,∃x,σ o=some x:=by
 unfold jL at h;split at h
 ·simp only[bU,eY]at h;obtain⟨rfl,rfl⟩:=h;simp
 ·split at h
  ·rename_i c;simp only[bU,eY]at h;obtain⟨rfl,rfl⟩:=h;intro o' a;simp at a;subst a;obtain⟨y,e,_⟩:=uZ c;exact⟨_,e⟩
  ·cases h
 ·split at h
  ·rename_i b;simp only[bU,eY]at h;obtain⟨rfl,rfl⟩:=h;exact Dt b
  ·cases h
 ·cases h

theorem PZ{x:AV}{d:D}{rd:List Nat}(h:nM σ x=some (d,rd)):∀o∈rd,∃x,σ o=some x:=by
 cases x with
 |vw o g k j es lo n=>
  cases b:gM σ o g with
  |none=>simp only[nM,b]at h;cases h
  |some t=>
   simp only[nM,b,bU,eY]at h;obtain⟨rfl,rfl⟩:=h;intro o' a;simp at a;subst a;exact⟨_,nY b⟩
 |_=>exact jto ((GX (by intros;simp)).symm.trans h)
mutual
theorem Pm:∀(p:Pt)(x:AV)(d:D)(ns rd:List Nat),dN σ p x=some (d,ns,rd)->∀o∈rd,∃x,σ o=some x
 | .rd,x,d,ns,rd,h=>by
  unfold dN at h;split at h
  ·rename_i a;cases h;exact PZ a
  ·cases h
 | .zr,x,d,ns,rd,h=>by
  cases x with
  |dat g=>
   simp only[dN,bU,eY]at h;obtain⟨rfl,rfl,rfl⟩:=h;simp
  |_=>simp[dN]at h
 | .sl,x,d,ns,rd,h=>by
  cases x with
  |own o=>
   simp only[dN,bU,eY]at h;obtain⟨rfl,rfl,rfl⟩:=h;simp
  |_=>simp[dN]at h
 | .bx,x,d,ns,rd,h=>by
  cases x with
  |ref o i=>
   cases i with
   |zero=>
    simp only[dN,bU,eY]at h;obtain⟨rfl,rfl,rfl⟩:=h;simp
   |succ i=>simp[dN]at h
  |_=>simp[dN]at h
 | .bo k,x,d,ns,rd,h=>by
  obtain⟨_,_,_,_,_,_,_,_,rfl⟩:=yV h;simp
 | .ag l,x,d,ns,rd,h=>by
  cases x with
  |aggv xs=>
   unfold dN at h;split at h
   ·rename_i ds b c a;cases h;exact zG l xs ds ns rd a
   ·cases h
  |_=>simp[dN]at h
 | .fn f l,x,d,ns,rd,h=>by
  cases x with
  |fn e xs=>
   unfold dN at h;split at h
   ·rename_i ds b c a;cases hb:Nat.beq f e with
    |false=>rw[hb]at h;cases h
    |true=>
     rw[hb]at h;cases h;exact zG l xs ds ns rd a
   ·cases h
  |_=>simp[dN]at h
theorem zG:∀(ls:List Pt)(xs:List AV)(ds:List D)(ns rd:List Nat),fM σ ls xs=some (ds,ns,rd)->∀o∈rd,∃x,σ o=some x
 |[],[],ds,ns,rd,h=>by simp[fM]at h;obtain⟨_,_,rfl⟩:=h;simp
 |[],x::xs,ds,ns,rd,h=>by simp[fM]at h
 |p::ls,[],ds,ns,rd,h=>by simp[fM]at h
 |p::ls,x::xs,ds,ns,rd,h=>by
  unfold fM at h;split at h
  ·rename_i d b e a c f g i;cases h;intro o ho;rcases fA.1 ho with ho|ho
   ·exact Pm p x d b e g o ho
   ·exact zG ls xs a c f i o ho
  ·cases h
end

theorem jgb{f:Nat->Nat}:∀{ns:List Nat}{obs:List bH},oM σ f ns=some obs->obs.length=ns.length/\ ∀(j n:Nat),ns[j]? =some n->∃x,obs[j]? =some ((x.ren f).eT 0)/\ σ n=some x
 |[],obs,h=>by simp[oM]at h;subst h;simp
 |o::ns,obs,h=>by
  unfold oM at h;split at h
  ·rename_i x l e d;simp only[bU]at h;subst h;obtain⟨b,c⟩:=jgb d;refine⟨by simp[b],fun j n a=>?_⟩;cases j with
   |zero=>simp at a;subst a;exact⟨x,by simp,e⟩
   |succ j=>simpa using c j n (by simpa using a)
  ·cases h

theorem xJ{ns:List Nat}{obs:List bH}(h:oP σ ns=some obs):obs.length=ns.length/\ ∀(j n:Nat),ns[j]? =some n->∃x,obs[j]? =some ((x.ren (ixN ns)).eT 0)/\ σ n=some x:=jgb h

theorem I7(δ a:eP)(σ:bJ):app (δ++a) σ=app a (app δ σ):=by
 induction δ generalizing σ with
 |nil=>rfl
 |cons p δ b=>obtain⟨o,x⟩:=p;simp only[lD,app];exact b _

theorem Ij{f:Nat->Nat}:∀(new:List bH)(nm:Nat)(σ:bJ)(n:Nat),app (newF f nm new) σ n=if nm<=n/\ n<nm+new.length then(new[n-nm]?).map (fun x=>(x.ren f).eT n)else σ n
 |[],nm,σ,n=>by simp[newF,app];omega
 |x::r,nm,σ,n=>by
  simp only[newF,app];rw[Ij r (nm+1) _ n];by_cases a:n=nm
  ·subst a;rw[if_neg (by omega),if_pos (by simp),iP];simp
  ·rw[jq a];by_cases b:nm+1<=n/\ n<nm+1+r.length
   ·rw[if_pos b,if_pos (by simp only[gZ];omega),show n-nm=(n-(nm+1))+1 from by omega,D9]
   ·rw[if_neg b,if_neg (by simp only[gZ];omega)]

theorem Dr(new:List bH)(nm:Nat)(σ:bJ)(n:Nat):app (oU nm new) σ n=if nm<=n/\ n<nm+new.length then(new[n-nm]?).map (fun x=>(x.ren (fun j=>nm+j)).eT n)else σ n:=Ij new nm σ n
theorem Di{f:Nat->Nat}:∀(ns:List Nat)(obs:List bH)(g:Nat)(σ:bJ)(n:Nat),ns.Nodup->obs.length<=ns.length->(∀j:Nat,ns[j]? =some n->app (mV f g ns obs) σ n=(obs[j]?).map (fun x=>(x.ren f).eT (g+j)))/\ (n∉ns->app (mV f g ns obs) σ n=σ n)
 |[],obs,g,σ,n,_,_=>by simp[mV,app]
 |o::ns,[],g,σ,n,hd,_=>by
  simp only[mV,app];obtain⟨b,c⟩:=jW.1 hd;obtain⟨h,e⟩:=Di (f:=f) ns [] (g+1) (upd σ o none) n c (by simp);refine⟨fun j d=>?_,fun i=>?_⟩
  ·cases j with
   |zero=>
    simp at d;subst d;rw[e b,iP];simp
   |succ j=>
    have:=h j (by simpa using d);rw[this];simp
  ·have a:n≠o/\ n∉ns:=by simpa using i
   rw[e a.2,jq a.1]
 |o::ns,x::obs,g,σ,n,hd,k=>by
  simp only[mV,app];obtain⟨b,c⟩:=jW.1 hd;obtain⟨h,e⟩:=Di (f:=f) ns obs (g+1) (upd σ o (some ((x.ren f).eT g))) n c (by simpa using k);refine⟨fun j d=>?_,fun i=>?_⟩
  ·cases j with
   |zero=>
    simp at d;subst d;rw[e b,iP];simp
   |succ j=>
    have:=h j (by simpa using d);rw[this,D9,show g+1+j=g+(j+1) from by omega]
  ·have a:n≠o/\ n∉ns:=by simpa using i
   rw[e a.2,jq a.1]
theorem Dy(ns:List Nat)(obs:List bH)(nm k:Nat)(σ:bJ)(n:Nat)(h:ns.Nodup)(a:obs.length<=ns.length):(∀j:Nat,ns[j]? =some n->app (nT nm k ns obs) σ n=(obs[j]?).map (fun x=>(x.ren (mW nm ns obs.length)).eT (nm+k+j)))/\ (n∉ns->app (nT nm k ns obs) σ n=σ n):=Di ns obs (nm+k) σ n h a

mutual
theorem RV.shift{κ' f:dx}{F':Nat->Prop}{w':World}{m:Nat}(b:∀j,j<m->f (nm+j)=κ' j):∀{x:AV}{v:Value},NB (· <m) x->RV κ' F' w' x v->RV f F' w' (x.shift nm) v
 | .dat d,v,_,h=>by unfold AV.shift;unfold RV at h ⊢;exact h
 | .own o,v,a,h=>by unfold NB at a;unfold AV.shift;unfold RV at h ⊢;rw[b o a];exact h
 | .ref o i,v,a,h=>by unfold NB at a;unfold AV.shift;unfold RV at h ⊢;rw[b o a];exact h
 | .aggv l,v,a,h=>by
  unfold NB at a;unfold AV.shift;unfold RV at h ⊢;obtain⟨cs,c,e⟩:=h;exact⟨cs,c,bQ.shift b a e⟩
 | .tup l,v,a,h=>by
  unfold NB at a;unfold AV.shift;unfold RV at h ⊢;obtain⟨cs,c,e⟩:=h;exact⟨cs,c,dz.shift b a e⟩
 | .eref _ _ _ _,v,_,h=>by unfold AV.shift;unfold RV;trivial
 | .row _ _ _ _,v,_,h=>by unfold AV.shift;unfold RV;trivial
 | .fH _ _ _ _ _ _ _,v,_,h=>by unfold AV.shift;unfold RV;trivial
 | .vw _ _ _ _ _ _ _,v,_,h=>by unfold AV.shift;unfold RV;trivial
 | .fp _,v,_,h=>by unfold AV.shift;unfold RV;trivial
 | .fn _ _,v,_,h=>by unfold AV.shift;unfold RV;trivial
 | .und,v,_,h=>by unfold AV.shift;unfold RV;trivial
 | .unk,v,_,h=>by unfold AV.shift;unfold RV;trivial
theorem dz.shift{κ' d:dx}{F':Nat->Prop}{w':World}{m:Nat}(c:∀j,j<m->d (nm+j)=κ' j):∀{l:List AV}{us:List Value},bN (· <m) l->dz κ' F' w' l us->dz d F' w' (ni nm l) us
 |[],us,_,h=>by unfold ni;unfold dz at h ⊢;exact h
 |x::l,us,a,h=>by
  unfold bN at a;unfold ni;unfold dz at h ⊢;obtain⟨u,b,e,f,g⟩:=h;exact⟨u,b,e,RV.shift c a.1 f,dz.shift c a.2 g⟩
theorem bQ.shift{κ' e:dx}{F':Nat->Prop}{w':World}{m:Nat}(d:∀j,j<m->e (nm+j)=κ' j):∀{l:List AV}{us:List Value},bN (· <m) l->bQ κ' F' w' l us->bQ e F' w' (ni nm l) us
 |[],us,_,h=>by unfold ni;unfold bQ at h ⊢;exact h
 |x::l,us,b,h=>by
  unfold bN at b;unfold ni;unfold bQ at h ⊢;obtain⟨u,c,f,a,g,i⟩:=h;exact⟨u,c,f,a,RV.shift d b.1 g,bQ.shift d b.2 i⟩
end
mutual
theorem NB.shift{m:Nat}(b:m<=16):∀{x:AV},NB (· <m) x->NB (Un U nm) (x.shift nm)
 | .dat d,_=>by unfold AV.shift;unfold NB;trivial
 | .own o,a=>by unfold NB at a;unfold AV.shift;unfold NB;exact .inr ⟨by omega,by omega⟩
 | .ref o i,a=>by unfold NB at a;unfold AV.shift;unfold NB;exact .inr ⟨by omega,by omega⟩
 | .aggv l,a=>by unfold NB at a;unfold AV.shift;unfold NB;exact bN.shift b a
 | .tup l,a=>by unfold NB at a;unfold AV.shift;unfold NB;exact bN.shift b a
 | .eref _ _ _ _,_=>by unfold AV.shift;unfold NB;trivial
 | .row _ _ _ _,_=>by unfold AV.shift;unfold NB;trivial
 | .fH _ _ _ _ _ _ _,_=>by unfold AV.shift;unfold NB;trivial
 | .vw _ _ _ _ _ _ _,_=>by unfold AV.shift;unfold NB;trivial
 | .fp _,_=>by unfold AV.shift;unfold NB;trivial
 | .fn _ _,_=>by unfold AV.shift;unfold NB;trivial
 | .und,_=>by unfold AV.shift;unfold NB;trivial
 | .unk,_=>by unfold AV.shift;unfold NB;trivial
theorem bN.shift{m:Nat}(b:m<=16):∀{l:List AV},bN (· <m) l->bN (Un U nm) (ni nm l)
 |[],_=>by unfold ni;unfold bN;trivial
 |x::l,a=>by unfold bN at a;unfold ni;unfold bN;exact⟨NB.shift b a.1,bN.shift b a.2⟩
end

theorem Qq{o:Oper}{ρ:Operand->Value}{f:Nat}{c:Operand}{cs:Array Value}{args:Array Operand}{d:Array TypeId}(a:o.op=.call {callee:=.value c,args:=args,argTypes:=d})(b:ρ c=.func (.func f) #[] cs)
  (hc:∀args w,(callFunc f args).run P w=.ok (.enter f args) w):(execOp ρ o).run P w=.ok (.enter f (args.map ρ++cs)) w:=by
 unfold execOp;simp only[a,resolve,b,Deferred.ofValue,Sem.run_bind,Sem.run_pure,Result.andThen_ok,Array.empty_append,invoke,hc]

theorem RD.nz{F:Nat->Prop}{w:World}(a:List (Option Nat)){d:D}{v:Value}(h:RD F w d v):RD F w (Bn a d) v:=by
 unfold Bn;split
 ·unfold RD at h ⊢;obtain⟨cs,b,c⟩:=h;exact⟨cs,b,RC.nz a _ _ c⟩
 ·split
  ·unfold RD at h ⊢;exact⟨none,0,h.1,dQ _,by unfold maxLen;omega,fun _=>rfl,.inl rfl⟩
  ·exact h
 ·exact h
theorem yG.nz{κ:dx}{F:Nat->Prop}{w:World}{ty:TypeId->Option bD}:∀(ls:List Pt)(b:List TypeId)(ds:List D)(k:Nat)(vs:List Value),dz κ F w (fD ls ds k) vs->dz κ F w (fD ls (nN ty ls b ds) k) vs
 |[],b,ds,k,vs,h=>by unfold fD at h ⊢;exact h
 |p::ls,[],ds,k,vs,h=>by cases p<;>(unfold nN;exact h)
 |p::ls,t::b,[],k,vs,h=>by cases p<;>(unfold nN;exact h)
 |p::ls,t::b,d::ds,k,vs,h=>by
  unfold fD dz at h;obtain⟨u,a,rfl,c,f⟩:=h;have e:=yG.nz (ty:=ty) ls b ds (k+p.n) a f;cases p with
  |rd=>
   unfold nN fD dz;refine⟨u,a,rfl,?_,e⟩;unfold jH RV at c ⊢;exact c.nz _
  |_=>
   unfold nN fD dz;exact⟨u,a,rfl,c,e⟩

theorem dz.F8{ρ:Operand->Value}{e:Operand->AV}(a:∀x,RV κ F w (e x) (ρ x)){l:List AV}{us:List Value}(h:dz κ F w l us):∀(xs:List Operand),dz κ F w (xs.map e++l) (xs.map ρ++us)
 |[]=>h
 |x::xs=>by
  simp only[dX,lD];unfold dz;exact⟨_,_,rfl,a x,dz.F8 a h xs⟩

theorem QV(hΓ:∀f S,Γ f=some S->FnOK P cx.J f S)(h:dh cx κ F w U σ)(hf:∀j,j<16->¬U (nm+j)){o:Oper}{ρ:Operand->Value}{e:Operand->AV}(he:∀x,RV κ F w (e x) (ρ x)){c:Operand}{f:Nat}{ae:List AV}{args:Array Operand}{ts:Array TypeId}
  (ho:o.op=.call {callee:=.value c,args:=args,argTypes:=ts}) (aJ:e c=.fn f ae):dP P cx κ F w U nm σ o ρ (kD ty Γ σ nm f (args.toList.map e++ae) ts.toList):=by
 unfold kD;split
 ·intro hp;exact hp.elim
 ·rename_i S hS;obtain⟨hc,aM⟩:=hΓ f S hS;split
  ·intro hp;exact hp.elim
  ·rename_i ds aS aT ab;obtain⟨⟨af,ns,rd⟩,W,u⟩:=kG.1 ab;simp only[eY]at u;obtain⟨aK,rfl,rfl⟩:=u;split
   ·intro hp;exact hp.elim
   ·rename_i obs aD;intro hp;obtain⟨p0,p1,p2,p3,p5,p4⟩:=(show _/\ _/\ _/\ _/\ _/\ _ from hp);have X:=he c;rw[aJ]at X;unfold RV at X;obtain⟨cs,hρ,am⟩:=X;obtain⟨aR,aE⟩:=xJ aD;have aC:∀(j:Nat)(n:Nat),ns[j]? =some n->j<ns.length:=fun j n a=>(cK.1 a).1;have D:∀(j:Nat)(x:bH),obs[j]? =some x->∃n y,ns[j]? =some n/\ σ n=some y/\ x=(y.ren (ixN ns)).eT 0:=fun j x a=>by
     have t:=(cK.1 a).1;have p:ns[j]? =some (ns[j]'(by omega)):=fO (by omega);obtain⟨y,l,s⟩:=aE j _ p;rw[a]at l;cases l;exact⟨_,y,p,s,rfl⟩
    let Fc:Nat->Prop:=fun b=>F b \/∃o∈rd,∃x,σ o=some x/\ dw κ o x b
    let κc:dx:=fun j=>tk κ σ (ns.getD j 0)
    have H:∀j n,ns[j]? =some n->κc j=tk κ σ n:=fun j n a=>by
     show tk κ σ (ns.getD j 0)=tk κ σ n;rw[dD,a];rfl
    have aP:∀o,ixN ns o<obs.length->(κc (ixN ns o)).v=(κ o).v:=fun o ho=>by
     rw[H _ o (wU (by omega)),jw]
    have aL:=zG S.lend _ af ns rd W;have M:∀b,F b->Fc b:=fun b hb=>.inl hb;have ax:∀b,Fc b->b<w.heap.size:=fun b hb=>by
     rcases hb with hb|⟨o',N,x,k,hb⟩
     ·exact(h.fG b hb).2
     ·exact kX h k hb
    have aO:Ai κc Fc w (fun b=>b<w.heap.size/\ ¬Fc b) obs.length obs:=by
     refine⟨fun j x a=>?_,fun j x a b hb=>?_,fun i x j y hi a Y b hb hb'=>?_⟩
     ·obtain⟨n,y,d,s,rfl⟩:=D j x a;have aB:=p5 _ (bT a);exact⟨iH.named s aB (H j n d) aP M (h.ok n y s),aB⟩
     ·obtain⟨n,y,d,s,rfl⟩:=D j x a;have hb:=hb.named s (H j n d);refine⟨kX h s hb,fun ai=>?_⟩;rcases ai with ai|⟨o',N,z,hz,hb'⟩
      ·exact(h.free n y s b hb).1 ai
      ·exact h.apart n y o' z s hz (fun e'=>p3 n (bT d) (e'▸N)) b hb hb'
     ·obtain⟨n,x',d,s,rfl⟩:=D i x hi;obtain⟨m,y',hm,aI,rfl⟩:=D j y a;have hb:=hb.named s (H i n d);have hb':=hb'.named aI (H j m hm);refine h.apart n x' m y' s aI (fun e'=>Y ?_) b hb hb';have h1:=aC i n d;have h2:=aC j m hm;have:=(List.getElem_inj (h₀:=h1) (h₁:=h2) p2).1 (by
       rw[(cK.1 d).2,(cK.1 hm).2];exact e')
      exact this
    have aG:=Dj (F':=Fc) (κc:=κc) h M S.lend _ _ af ns rd 0 W p0 (fun o' N x k b hb=>.inr ⟨o',N,x,k,hb⟩) (fun j n a=>by rw[j4,H j n a,jw]) (dz.F8 he am args.toList);have aF:=yG.nz (ty:=ty) S.lend ts.toList af 0 _ aG;rw[aK]at aF;have ak:=aM (args.toList.map ρ++cs) w Fc ds obs κc p1 aF ax (h.inv.mono M (fun _ _=>rfl)) aO;unfold Out;rw[Qq ho hρ hc];simp only[];have u:args.map ρ++cs.toArray=(args.toList.map ρ++cs).toArray:=by apply qA;simp
    rw[u];refine Calls.mono ak ?_;rintro e' w' ⟨v,rfl,r,new,cO,κ',κl,F',ret⟩;refine⟨v,rfl,?_⟩;obtain⟨few,_,_,same,ao⟩:=p4 r new cO ret.post
    let F2:Nat->Prop:=fun b=>F b \/(F' b/\ (kQ κc obs b \/w.heap.size<=b))
    let κ2:dx:=fun n=>if nm<=n/\ n<nm+16 then(if n<nm+new.length then κ' (n-nm)else κl (n-(nm+new.length)))else κ n
    have A:∀j,j<new.length->κ2 (nm+j)=κ' j:=fun j a=>by
     show(if nm<=nm+j/\ nm+j<nm+16 then(if nm+j<nm+new.length then κ' (nm+j-nm)else κl (nm+j-(nm+new.length)))else κ (nm+j))=κ' j;rw[if_pos (by omega),if_pos (by omega),pF]
    have az:∀j,j<obs.length->κ2 (nm+new.length+j)=κl j:=fun j a=>by
     show(if nm<=nm+new.length+j/\ nm+new.length+j<nm+16 then(if nm+new.length+j<nm+new.length then κ' (nm+new.length+j-nm)else κl (nm+new.length+j-(nm+new.length)))else κ (nm+new.length+j))=κl j;rw[if_pos (by omega),if_neg (by omega),pF]
    have E:∀n,U n->κ2 n=κ n:=fun n d=>by
     show(if nm<=n/\ n<nm+16 then(if n<nm+new.length then κ' (n-nm)else κl (n-(nm+new.length)))else κ n)=κ n;rw[if_neg];rintro⟨g1,L⟩;exact hf (n-nm) (by omega) (by rw[show nm+(n-nm)=n from by omega];exact d)
    have Z:∀n,n∈ns->∃x,σ n=some x:=fun n d=>by
     obtain⟨j,a⟩:=jJ d;obtain⟨x,_,k⟩:=aE j n a;exact⟨x,k⟩
    have V:(∀b,F' b->F2 b) \/(job r/\ (∀x∈new,lY x)/\ ∀x∈cO,lY x):=by
     rcases ao with aN|hfl
     ·refine .inl fun b hb=>?_;rcases ret.fr' b hb with hb'|hb'
      ·rcases hb' with hb'|⟨o',N,_⟩
       ·exact .inl hb'
       ·rw[aN]at N;cases N
      ·exact .inr ⟨hb,hb'⟩
     ·exact .inr hfl
    have aw:∀n y,app (nT nm new.length ns cO++oU nm new) σ n=some y->(∃j x,n=nm+j/\ new[j]? =some x/\ y=(x.ren (fun j=>nm+j)).eT n) \/(∃(j:Nat)(x:bH),ns[j]? =some n/\ cO[j]? =some x/\ y=(x.ren (mW nm ns cO.length)).eT (nm+new.length+j)) \/(n∉ns/\ σ n=some y):=by
     intro n y l;rw[I7,Dr]at l;split at l
     ·rename_i hr;obtain⟨x,k,ar⟩:=kG.1 l;exact .inl ⟨n-nm,x,by omega,k,ar.symm⟩
     ·obtain⟨g1,L⟩:=Dy ns cO nm new.length σ n p2 (by omega);by_cases d:n∈ns
      ·obtain⟨j,a⟩:=jJ d;rw[g1 j a]at l;obtain⟨x,k,ar⟩:=kG.1 l;exact .inr (.inl ⟨j,x,a,k,ar.symm⟩)
      ·rw[L d]at l;exact .inr (.inr ⟨d,l⟩)
    have O:∀b,b<w.heap.size->¬kQ κc obs b->w'.heap[b]? =w.heap[b]?:=fun b hb hl=>ret.wx.block b ⟨hb,hl⟩;have q:∀b,kQ κc obs b->∃n x,n∈ns/\ σ n=some x/\ dw κ n x b:=by
     rintro b ⟨j,x,a,hb⟩;obtain⟨n,y,d,s,rfl⟩:=D j x a;exact⟨n,y,bT d,s,hb.named s (H j n d)⟩
    have aj:∀b,F b->w'.heap[b]? =w.heap[b]?:=fun b hb=>O b (h.fG b hb).2 fun hl=>by
     obtain⟨n,x,_,s,hb'⟩:=q b hl;exact(h.free n x s b hb').1 hb
    have ad:∀n y,n∉ns->σ n=some y->∀b,dw κ n y b->w'.heap[b]? =w.heap[b]?:=fun n y d l b hb=>O b (kX h l hb) fun hl=>by
     obtain⟨m,x,hm,s,hb'⟩:=q b hl;exact h.apart n y m x l s (fun e'=>d (e'▸hm)) b hb hb'
    have aA:∀n y,n∉ns->σ n=some y->∀b,dw κ n y b->¬kQ κc obs b:=fun n y d l b hb hl=>by
     obtain⟨m,z,hm,s,hb'⟩:=q b hl;exact h.apart n y m z l s (fun e'=>d (e'▸hm)) b hb hb'
    have ap:∀(j n:Nat)(x:bH),ns[j]? =some n->cO[j]? =some x->(κ2 n).v=(κl j).v/\ (κ2 (nm+new.length+j)).r=(κl j).r:=fun j n x a k=>by
     obtain⟨y,l⟩:=Z n (bT a);have ay:=(cK.1 k).1;rw[E n (h.nb n y l).1,ret.lv j ay,H j n a,jw,az j (by omega)];exact⟨rfl,rfl⟩
    have hfl:∀j,j<cO.length+new.length->(κ2 (mW nm ns cO.length j)).v=(κl j).v:=fun j a=>by
     unfold mW;cases hb:Nat.blt j cO.length with
     |true=>
      have a:j<cO.length:=by simpa[iW]using hb
      have hjn:j<ns.length:=by omega
      have e1:ns[j]? =some (ns[j]'hjn):=fO hjn;have e2:ns.getD j 0=ns[j]'hjn:=by rw[dD,e1];rfl
      simp only[cond_true];rw[e2];exact(ap j _ _ e1 (fO a)).1
     |false=>
      have p:cO.length<=j:=by
       rcases jC j cO.length with h'|h'
       ·have:Nat.blt j cO.length=true:=by simpa[iW]using h'
        rw[this]at hb;cases hb
       ·exact h'
      simp only[cond_false];have:=ret.lk (j-cO.length) (by omega);rw[A _ (by omega),<-this,show cO.length+(j-cO.length)=j by omega]
    have C:∀n y,app (nT nm new.length ns cO++oU nm new) σ n=some y->∀b,dw κ2 n y b->
      (∃j x,n=nm+j/\ new[j]? =some x/\ dw κ' j (x.eT j) b/\ (kQ κc obs b \/w.heap.size<=b)/\ ¬F' b) \/
      (∃(j:Nat)(x:bH),ns[j]? =some n/\ cO[j]? =some x/\ dw κl j (x.eT j) b/\ (kQ κc obs b \/w.heap.size<=b)/\ ¬F' b) \/(n∉ns/\ σ n=some y/\ dw κ n y b/\ b<w.heap.size):=by
     intro n y l b hb;rcases aw n y l with⟨j,x,rfl,a,rfl⟩|⟨j,x,a,k,rfl⟩|⟨d,B⟩
     ·have t:=(cK.1 a).1;have hb:dw κ' j (x.eT j) b:=dw.uy (by rw[A j t]) (by rw[A j t]) hb;have:=ret.new.blk j x a b hb;exact .inl ⟨j,x,rfl,a,hb,this.1,this.2⟩
     ·obtain⟨e1,e2⟩:=ap j n x a k;have hb:dw κl j (x.eT j) b:=dw.uy e1 e2 hb;have:=ret.sH.blk j x k b hb;exact .inr (.inl ⟨j,x,a,k,hb,this.1,this.2⟩)
     ·have hb:=hb.pO E (h.nb n y B).1 (h.nb n y B).2;exact .inr (.inr ⟨d,B,hb,kX h B hb⟩)
    have aq:=ret.wx.size;refine⟨r.shift nm,_,κ2,F2,⟨r,new,cO,ret.post,rfl,rfl⟩,?_,?_,NB.shift (by omega) ret.nb⟩
    ·refine⟨E,fun b hb=>.inl hb,⟨ret.wx.os,ret.wx.tape,ret.wx.output,aq,fun b hb=>?_⟩,fun _ ho=>fF ho,?_⟩
     ·rcases hb with hb|hb
      ·exact aj b hb
      ·refine O b (kH (h.kB b hb) h.bs) fun hl=>?_;obtain⟨n,x,_,s,hb'⟩:=q b hl;exact(h.free n x s b hb').2.1 hb
     ·refine⟨fun n y l=>?_,fun n y l=>?_,fun n y l b hb=>?_,fun n y n' y' l au Y b hb hb'=>?_,fun b hb=>?_,h.kB,h.gB,pz h.bs aq,h.inv.mono (fun b hb=>.inl hb) aj,fun j a=>⟨fF (h.lt j a).1,by rw[E j (h.lt j a).1];exact(h.lt j a).2⟩⟩
      ·rcases aw n y l with⟨j,x,rfl,a,rfl⟩|⟨j,x,a,k,rfl⟩|⟨d,B⟩
       ·have t:=(cK.1 a).1;obtain⟨g1,L⟩:=ret.new.ok j x a;exact iH.uy (by rw[A j t]) (by rw[A j t]) L (fun i hi=>by rw[A i hi]) (V.imp id fun hfl=>hfl.2.1 x (bT a)) g1
       ·obtain⟨e1,e2⟩:=ap j n x a k;obtain⟨g1,L⟩:=ret.sH.ok j x k;exact iH.uy e1 e2 L hfl (V.imp id fun hfl=>hfl.2.2 x (bT k)) g1
       ·have hu:=h.nb n y B;exact iH.mono E (fun b hb=>.inl hb) aj hu.1 hu.2 (ad n y d B) (h.ok n y B)
      ·rcases aw n y l with⟨j,x,rfl,a,rfl⟩|⟨j,x,a,k,rfl⟩|⟨d,B⟩
       ·have t:=(cK.1 a).1;have aH:Un U nm (nm+j):=.inr ⟨by omega,by omega⟩;exact⟨aH,jU.sw aH (fun i hi=>.inr ⟨by omega,by omega⟩) (ret.new.ok j x a).2⟩
       ·obtain⟨z,hz⟩:=Z n (bT a);have ay:=(cK.1 k).1;exact⟨fF (h.nb n z hz).1,jU.sw (.inr ⟨by omega,by omega⟩) (fun i hi=>by
         unfold mW;cases hb:Nat.blt i cO.length with
         |false=>exact .inr ⟨by simp only[cond_false];omega,by simp only[cond_false];omega⟩
         |true=>
         have aQ:i<cO.length:=by simpa[iW]using hb
         simp only[cond_true];have hin:i<ns.length:=by omega
         have e1:ns.getD i 0=ns[i]'hin:=by rw[dD,fO hin];rfl
         obtain⟨z',R⟩:=Z (ns.getD i 0) (by rw[e1];exact List.getElem_mem hin);exact fF (h.nb _ z' R).1) (ret.sH.ok j x k).2⟩
       ·have hu:=h.nb n y B;exact⟨fF hu.1,gG.mono (fun _ ho=>fF ho) hu.2⟩
      ·have ln:(kQ κc obs b \/w.heap.size<=b)->¬F' b->¬F2 b/\ ¬cx.K b/\ cx.G b:=by
        intro g1 L;rcases g1 with g1|g1
        ·obtain⟨m,z,_,s,hb'⟩:=q b g1;have:=h.free m z s b hb';refine⟨fun hF=>?_,this.2⟩;rcases hF with hF|hF
         ·exact this.1 hF
         ·exact L hF.1
        ·refine⟨fun hF=>?_,fun hK=>?_,h.gB _ (pz h.bs g1)⟩
         ·rcases hF with hF|hF
          ·have:=(h.fG b hF).2;omega
          ·exact L hF.1
         ·have:=h.kB b hK;have:=h.bs;omega
       rcases C n y l b hb with⟨j,_,_,_,_,g1,L⟩|⟨j,_,_,_,_,g1,L⟩|⟨d,k,hb',t⟩
       ·exact ln g1 L
       ·exact ln g1 L
       ·have:=h.free n y k b hb';refine⟨fun hF=>?_,this.2⟩;rcases hF with hF|⟨_,hF|hF⟩
        ·exact this.1 hF
        ·exact aA n y d k b hb' hF
        ·omega
      ·have lo:∀n y,n∉ns->σ n=some y->dw κ n y b->b<w.heap.size->(kQ κc obs b \/w.heap.size<=b)->False:=by
        intro n y d l hb t hl;rcases hl with hl|hl
        ·exact aA n y d l b hb hl
        ·omega
       rcases C n y l b hb with⟨j,z,e1,a,g0,g1,L⟩|⟨j,z,a,hz,g0,g1,L⟩|⟨d,k,g0,t⟩
       ·rcases C n' y' au b hb' with⟨j',z',ah,p,g,I,T⟩|⟨j',z',p,R,g,I,T⟩|⟨ac,aa,g,Q⟩
        ·exact ret.new.apart j z j' z' a p (fun e'=>Y (by rw[e1,ah,e'])) b g0 g
        ·exact ret.apart j' z' j z R a b g g0
        ·exact lo n' y' ac aa g Q g1
       ·rcases C n' y' au b hb' with⟨j',z',ah,p,g,I,T⟩|⟨j',z',p,R,g,I,T⟩|⟨ac,aa,g,Q⟩
        ·exact ret.apart j z j' z' hz p b g0 g
        ·exact ret.sH.apart j z j' z' hz R (fun e'=>Y (by subst e';rw[a]at p;cases p;rfl)) b g0 g
        ·exact lo n' y' ac aa g Q g1
       ·rcases C n' y' au b hb' with⟨j',z',ah,p,g,I,T⟩|⟨j',z',p,R,g,I,T⟩|⟨ac,aa,g,Q⟩
        ·exact lo n y d k g0 t I
        ·exact lo n y d k g0 t I
        ·exact h.apart n y n' y' k aa Y b g0 g
      ·rcases hb with hb|hb
       ·exact⟨(h.fG b hb).1,kH (h.fG b hb).2 aq⟩
       ·refine⟨?_,ret.flt b hb.1⟩;rcases hb.2 with g1|g1
        ·obtain⟨m,z,_,s,hb'⟩:=q b g1;exact(h.free m z s b hb').2.2
        ·exact h.gB b (pz h.bs g1)
    ·refine RV.shift (m:=new.length) (fun j a=>A j a) ret.nb ?_;rcases V with V|hfl
     ·exact RV.mono (U:=(· <new.length)) (fun _ _=>rfl) V (fun _ _=>rfl) ret.nb ret.rv
     ·exact RV.flat hfl.1 ret.rv

end
end
section
section
variable{P:Program}{cx:Cx}{κ:dx}{F:Nat->Prop}{w:World}{U:Nat->Prop}{nm:Nat}{σ:bJ}{ty:TypeId->Option bD}{Γ:Nat->Option dJ}

theorem kN{o:Oper}{ρ:Operand->Value}:dP P cx κ F w U nm σ o ρ .fail:=fun a=>a.elim

theorem JR{α:Type}{a:Array α}{x:α}(h:a.toList=[x]):a= #[x]:=qA (by simpa using h)
theorem SV{α:Type}{a:Array α}{x y z:α}(h:a.toList=[x,y,z]):a= #[x,y,z]:=qA (by simpa using h)
theorem Ag{α:Type}{a:Array α}{x y:α}(h:a.toList=[x,y]):a= #[x,y]:=qA (by simpa using h)

theorem G5{ρ:Operand->Value}{e:Operand->AV}(a:∀x,RV κ F w (e x) (ρ x)):∀(xs:List Operand),dz κ F w (xs.map e) (xs.map ρ)
 |[]=>by unfold dz;rfl
 |x::xs=>by
  simp only[dX];unfold dz;exact⟨_,_,rfl,a x,G5 a xs⟩
theorem Cr{e:Operand->AV}(a:∀x,NB U (e x)):∀(xs:List Operand),bN U (xs.map e)
 |[]=>by unfold bN;trivial
 |x::xs=>by
  simp only[dX];unfold bN;exact⟨a x,Cr a xs⟩
theorem Q0(h:dh cx κ F w U σ){o:Oper}{ρ:Operand->Value}{e:Operand->AV}(c:∀x,RV κ F w (e x) (ρ x))(d:∀x,NB U (e x)){f:Nat}{first a:Array Operand}(g:o.op=.makeFunc (.func f) first a)(b:first.toList=[]):
  dP P cx κ F w U nm σ o ρ (.bR True [] (.fn f (a.toList.map e)) []):=by
 intro _;refine dW (v:=.func (.func f) #[] (a.map ρ)) (w':=w) ?_ (fJ h ?_ ?_)
 ·unfold execOp;have:first= #[]:=qA (by simpa using b);subst this;simp only[g,Instr.makeFunc,Sem.run_bind,Sem.run_pure,Result.andThen_ok,rG,jv]
 ·unfold RV;exact⟨a.toList.map ρ,by congr 1;apply qA;simp,G5 c _⟩
 ·unfold NB;exact Cr d _

theorem Q6(p:∀t x,ty t=some x->bS P t x)(hΓ:∀f S,Γ f=some S->FnOK P cx.J f S)(h:dh cx κ F w U σ)(hf:∀j,j<16->¬U (nm+j)){o:Oper}{ρ:Operand->Value}{e:Operand->AV}
  (A:∀x,RV κ F w (e x) (ρ x)) (G:∀x,NB U (e x)) (au:∀f,ρ (.func f)=.func (.func f) #[] #[]):dP P cx κ F w U nm σ o ρ (spec ty Γ σ e nm o):=by
 have B:¬U nm:=hf 0 (by omega);obtain⟨ar,op,ap,pos,aa,ab⟩:=o;cases op with
 |move x=>exact Je h A G (.inl rfl)
 |assign x=>exact Je h A G (.inr rfl)
 |pick c a b=>exact Q5 h A G rfl
 |alloc t=>exact Rs p h B rfl
 |box t x=>exact Qz h B A G rfl
 |load t a=>exact QX p h A rfl (fun T ob es k j hT D=>RX p h A rfl hT D) (fun T ob g k j es i c hT D=>RU p h A rfl hT D)
 |store t a x=>exact Rx p h A G rfl (fun T cs ob es k j hT M Q O=>Sq p h B A G rfl hT M Q O) (fun T cs ds ob g k j es i c hT M Q N O=>Sm p h A G rfl hT M Q N O)
 |nilCheck x=>exact Sj h A G rfl
 |binOp op t x y u=>exact Qy p h A rfl
 |unOp op t x=>
  cases op
  case not=>exact QD h A rfl
  case neg=>exact jpg h A rfl
  all_goals exact kN
 |convert s d x=>exact RP p h B A rfl
 |slice t x lo hi mx=>
  cases mx with
  |none=>exact Rw p h B A rfl (fun el E ob g k j l I kk hh C D ae af ai=>Sl p h A G rfl C D ae af ai)
  |some m=>exact kN
 |fieldAddr s x f=>exact Ru p h A G rfl
 |field s x f=>exact RA p h A G rfl
 |indexAddr t x i=>exact Rv p h A G rfl (fun el E kk n ob g k j C hi D=>Sk p h A G rfl C hi D)
 |index t x i=>exact SE p h A G rfl
 |extract x i=>exact RQ h A G rfl
 |build t V=>exact Rt p h A G rfl
 |buildSlice t len V=>exact SC p h B A G rfl (fun el E ds ns C Q ah X Z N=>Sn p h B A G rfl C Q ah X Z N)
 |makeSlice t l c=>exact QY p h B A rfl (fun el E k k' n m d C Q hc Y am W hd=>RY p h B A rfl C Q hc Y am W hd)
 |makeMap t r=>
  cases r with
  |none=>unfold spec;exact RS h B rfl
  |some r=>exact kN
 |lookup t x i ok=>
  cases ok with
  |true=>unfold spec;exact RB p h A rfl
  |false=>exact kN
 |mapUpdate t x i v=>unfold spec;exact RF p h A rfl
 |call c=>
  obtain⟨callee,args,argTypes⟩:=c;cases callee with
  |value f=>
   unfold spec;simp only[];split
   ·rename_i g l ac;exact QV hΓ h hf A rfl ac
   ·exact kN
  |invoke r m=>exact kN
  |builtin b=>
   cases b
   case len=>
    unfold spec;simp only[];split
    ·rename_i x t I R;have H:=JR I;have K:=JR R;subst H;subst K
     exact QA p h A rfl (fun ob g k j hu D=>by
      obtain⟨el,sz,aq,z,q,ak⟩:=hu;exact RG h A rfl ⟨el,(p _ _ ak).1⟩ D)
    ·exact kN
   case append=>
    unfold spec;simp only[];split
    ·rename_i x y t t' I R;have H:=Ag I;have K:=Ag R;subst H;subst K
     exact RL p h B A rfl (fun el E o2 C R X Z ad=>by
      subst R;exact SF p h B A rfl C X Z ad) (fun el E ob g k j l2 rd C R X Z D aj=>by
      subst R;exact SB p h hf A rfl C X Z D aj)
    ·exact kN
   case max=>
    unfold spec;simp only[];split
    ·rename_i x y I;have H:=Ag I;subst H;split
     ·rename_i k a k' b H K;exact QB h A rfl H K
     ·exact kN
    ·rename_i x y z I;have H:=SV I;subst H;split
     ·rename_i k a k' b k2 c H K h3;exact QZ h A rfl H K h3
     ·exact kN
    ·exact kN
   case min=>
    unfold spec;simp only[];split
    ·rename_i x y I;have H:=Ag I;subst H;split
     ·rename_i k a k' b H K;exact QC h A rfl H K
     ·exact kN
    ·exact kN
   all_goals exact kN
 |makeFunc fn first ao=>
  cases fn with
  |func f=>
   unfold spec;simp only[];split
   ·rename_i L;exact Q0 h A G rfl L
   ·exact kN
  |_=>exact kN
 |_=>exact kN

structure jI(cx:Cx)(κ:dx)(F:Nat->Prop)(U:Nat->Prop)(env:List AV)(σ:bJ)(a:Act)(w:World):Prop where
 env:uw κ F w U env a
 gP:dh cx κ F w U σ

theorem uw.put{env:List AV}{a:Act}{d:Option Tmp}{av:AV}{v:Value}{κ':dx}{F':Nat->Prop}{w':World}{U':Nat->Prop}{σ':bJ}(h:uw κ F w U env a)(j:kT cx κ F w U κ' F' w' U' σ')(l:RV κ' F' w' av v)(k:NB U' av):
  uw κ' F' w' U' (gN env d av) (a.put d v):=by
 have old:∀t,RV κ' F' w' (env.getD t .und) (a.tmps.getD t undef):=fun t=>RV.mono j.pO j.fr (fun b hb=>j.wx.block b (.inl hb)) (h.nb t) (h.rv t);have e:∀t,NB U' (env.getD t .und):=fun t=>NB.mono j.us (h.nb t);cases d with
 |none=>exact⟨h.size,h.qp,old,e⟩
 |some d=>
  refine⟨by simp[Act.put,gN,h.size],h.qp,fun t=>?_,fun t=>?_⟩
  ·simp only[gN,Act.put];by_cases g:t=d
   ·subst g;by_cases f:t<env.length
    ·have c:(env.set t av).getD t .und=av:=by rw[dD,j6 f];rfl
     have i:(a.tmps.setIfInBounds t v).getD t undef=v:=by
      rw[nL,Array.getElem?_setIfInBounds_self_of_lt (by rw[h.size];exact f)];rfl
     rw[c,i];exact l
    ·have c:(env.set t av).getD t .und=env.getD t .und:=by rw[Ar (by omega)]
     have i:a.tmps.setIfInBounds t v=a.tmps:=by apply qA;rw[J3,Ar (by rw[iF,h.size];omega)]
     rw[c,i];exact old t
   ·have c:(env.set d av).getD t .und=env.getD t .und:=by rw[dD,iN (Ne.symm g),<-dD]
    have i:(a.tmps.setIfInBounds d v).getD t undef=a.tmps.getD t undef:=by
     rw[nL,Array.getElem?_setIfInBounds_ne (Ne.symm g),<-nL]
    rw[c,i];exact old t
  ·simp only[gN];by_cases g:t=d
   ·subst g;by_cases f:t<env.length
    ·have c:(env.set t av).getD t .und=av:=by rw[dD,j6 f];rfl
     rw[c];exact k
    ·have c:(env.set t av).getD t .und=env.getD t .und:=by rw[Ar (by omega)]
     rw[c];exact e t
   ·have c:(env.set d av).getD t .und=env.getD t .und:=by rw[dD,iN (Ne.symm g),<-dD]
    rw[c];exact e t

theorem OY{env:List AV}{a:Act}(h:uw κ F w U env a)(x:Operand):NB U (dG env x):=by
 cases x with
 |tmp t=>exact h.nb t
 |const v=>
  simp only[dG];cases v
  case agg cs=>
   simp only[nk];split<;>(unfold NB;trivial)
  all_goals (simp only[nk];unfold NB;trivial)
 |global g=>simp only[dG];unfold NB;trivial
 |func f=>simp only[dG];unfold NB bN;trivial

theorem zU(z:∀t x,ty t=some x->bS P t x)(E:∀f S,Γ f=some S->FnOK P cx.J f S){ops:Array Oper}{env:List AV}{a:Act}(m:jI cx κ F U env σ a w)(A:∀j,j<16->¬U (nm+j)){o:Oper}{K:AV->eP->Prop}{next:Act->World->Prop}{Q:Exit->Act->World->Prop}
  (hT:(gL ty Γ ops σ env nm o).T K)
  (c:∀av δ v κ' F' w',K av δ->(∀b,F b->F' b)->Wy cx F w w'->jI cx κ' F' (Un U nm) (gN env o.dst av) (app δ σ) (a.put o.dst v) w'->next (a.put o.dst v) w'):
  if Region.wanted o (yielded ops a.tmps)then o.wp P a w next Q else next (a.put o.dst undef) w:=by
 have g:∀s:Spec,dP P cx κ F w U nm σ o a.eval s->s.T K->o.wp P a w next Q:=by
  intro s hs hT;obtain⟨C,hK⟩:=Spec.o7.1 hT;refine(hs C).wp ?_;rintro v w' ⟨av,δ,κ',F',hR,k,e,B⟩;exact c av δ v κ' F' w' (hK av δ hR) k.fr k.wx ⟨m.env.put k e B,k.gP⟩
 have skip:K .und []->next (a.put o.dst undef) w:=by
  intro hK;have k:kT cx κ F w U κ F w (Un U nm) σ:=kT.same m.gP;exact c .und [] undef κ F w hK (fun _ h=>h) (Wx.refl _ _) ⟨m.env.put k (by unfold RV;rfl) (by unfold NB;trivial),k.gP⟩
 have n:dP P cx κ F w U nm σ o a.eval (spec ty Γ σ (dG env) nm o):=Q6 z E m.gP A (fun x=>za m.env) (fun x=>OY m.env x) (fun f=>rfl);unfold gL at hT;split at hT
 ·rename_i l;rw[if_pos (by simp[Region.wanted,l])];exact g _ n hT
 ·rename_i j r l;split at hT
  ·exact hT.elim
  ·rename_i d hd;have e:=m.env.rv d;have D:∀b,a.tmps.getD d undef=.bool b->yielded ops a.tmps j=some b:=by
    intro b hb;simp only[yielded,hd];have:a.tmps[d]? =some (.bool b):=by
     rw[nL]at hb;cases p:a.tmps[d]? with
     |none=>rw[p]at hb;simp[undef]at hb
     |some y=>rw[p]at hb;simpa using hb
    simp[this]
   split at hT
   ·rename_i q;rw[q]at e;unfold RV at e;have u:yielded ops a.tmps j=none:=by
     simp only[yielded,hd];rw[nL]at e;cases p:a.tmps[d]? with
     |none=>simp[p]
     |some y=>rw[p]at e;simp at e;subst e;simp[p,undef]
    rw[if_neg (by simp[Region.wanted,l,u])];exact skip hT.2
   ·rename_i b hb;rw[hb]at e;unfold RV RD at e;have i:=D b e.1;cases r<;>cases b
    ·rw[if_pos (by simp[Region.wanted,l,i])];exact g _ n hT
    ·rw[if_neg (by simp[Region.wanted,l,i])];exact skip hT.2
    ·rw[if_neg (by simp[Region.wanted,l,i])];exact skip hT.2
    ·rw[if_pos (by simp[Region.wanted,l,i])];exact g _ n hT
   ·exact hT.elim

theorem jk4(g:∀t x,ty t=some x->bS P t x)(s:∀f S,Γ f=some S->FnOK P cx.J f S){ops:Array Oper}{Q:Exit->Act->World->Prop}{r:List AV->bJ->Nat->Prop}:
  ∀(l:List Oper)(nm:Nat)(κ:dx)(F:Nat->Prop)(env:List AV)(σ:bJ)(a:Act)(w:World),jI cx κ F (· <nm) env σ a w->uP ty Γ ops r l nm env σ->
   (∀κ' F' c σ' m a' w',r c σ' m->(∀b,F b->F' b)->Wy cx F w w'->jI cx κ' F' (· <m) c σ' a' w'->Q .normal a' w')->wpList P ops Q l a w
 |[],nm,κ,F,env,σ,a,w,q,i,p=>wpList_nil (p κ F env σ nm a w i (fun _ h=>h) (Wx.refl _ _) q)
 |o::l,nm,κ,F,env,σ,a,w,q,i,p=>by
  refine wpList_step fun K hK=>?_;refine zU g s q (nm:=nm) (fun j _=>by omega) i ?_;intro av δ v κ' F' w' k hF D e;refine hK _ _ (jk4 g s l (nm+16) κ' F' _ _ _ w' ⟨?_,?_⟩ k ?_)
  ·have:(Un (· <nm) nm)=(· <nm+16):=by funext n;simp only[Un,eq_iff_iff];omega
   rw[<-this];exact e.env
  ·have:(Un (· <nm) nm)=(· <nm+16):=by funext n;simp only[Un,eq_iff_iff];omega
   rw[<-this];exact e.gP
  ·intro G u d H m y E z A B C;exact p G u d H m y E z (fun b hb=>A b (hF b hb)) (D.trans B (fun b hb=>hb.imp (hF b) id)) C

theorem PE(c:∀t x,ty t=some x->bS P t x)(k:∀f S,Γ f=some S->FnOK P cx.J f S){Q:Exit->St->Prop}{env:List AV}{σ:bJ}{nx:Nat}{id:Nat}{l:List Oper}
  (h:uP ty Γ l.toArray (fun env σ m=>Q .normal ⟨env,σ,m⟩) l nx env σ):Ok P cx (.region id l.toArray false) Q ⟨env,σ,nx⟩:=by
 intro κ F a w e;refine wp_region_lit (jk4 c k l nx κ F env σ a w ⟨e.env,e.gP⟩ h ?_);intro κ' F' b σ' m a' w' g i j d;exact⟨κ',F',⟨b,σ',m⟩,g,i,j,d.env,d.gP⟩

end
end
section

def sO:Value:=.slice none 0 0

mutual
def lF:D->D->Prop
 | .sc v,d'=>d'=.sc v \/(v=sO/\ ∃es,d'=.sl es [])
 | .sl es l,d'=>d'=.sl es l
 | .agg l,d'=>∃l',d'=.agg l'/\ mE l l'
def mE:List D->List D->Prop
 |[],l'=>l'=[]
 |d::l,l'=>∃d' r,l'=d'::r/\ lF d d'/\ mE l r
end

mutual
def Exp(k:Nat)(σ:bJ)(ns:List Nat):AV->AV->Prop
 | .dat d,r=>∃d',r=.dat d'/\ lF d d'
 | .own o,r=>(∃es l,mP σ o=some (es,l)/\ o∉ns/\ k<=o/\ r=.dat (.sl es l)) \/∃j,ns[j]? =some o/\ r=.own j
 | .aggv l,r=>(∃ds,r=.dat (.agg ds)/\ nK k σ ns l ds) \/∃l',r=.aggv l'/\ gJ k σ ns l l'
 | .tup l,r=>∃l',r=.tup l'/\ gJ k σ ns l l'
 | .ref o i,r=>r=.unk \/∃j,ns[j]? =some o/\ r=.ref j i
 |_,r=>r=.unk
def gJ(k:Nat)(σ:bJ)(ns:List Nat):List AV->List AV->Prop
 |[],l'=>l'=[]
 |x::l,l'=>∃y r,l'=y::r/\ Exp k σ ns x y/\ gJ k σ ns l r
def nK(k:Nat)(σ:bJ)(ns:List Nat):List AV->List D->Prop
 |[],l'=>l'=[]
 |x::l,l'=>∃y r,l'=y::r/\ Exp k σ ns x (.dat y)/\ nK k σ ns l r
end

def sS(ty:TypeId->Option bD)(σ:bJ)(env:List AV):ResultVar->Option AV
 | .tmp t=>some (env.getD t .und)
 | .cell a t=>
  match env.getD a .und,ty t with
  | .ref o i,some T=>
   match σ o with
   |some (.box _ l)=>if T.isAgg then(if i+T.size<=l.length then some (.aggv ((l.drop i).take T.size))else none)else l[i]?
   |_=>none
  |_,_=>none
def pY(ty:TypeId->Option bD)(σ:bJ)(env:List AV):List ResultVar->Option (List AV)
 |[]=>some []
 |x::l=>match sS ty σ env x,pY ty σ env l with
  |some v,some r=>some (v::r)
  |_,_=>none
def wO(ty:TypeId->Option bD)(rs:List ResultVar)(σ:bJ)(env:List AV):Option AV:=
 match pY ty σ env rs with
 |some [x]=>some x
 |some l=>some (.tup l)
 |none=>none

def Fin(ty:TypeId->Option bD)(rs:List ResultVar)(k:Nat)(post:AV->List bH->List bH->Prop)(e:Exit)(s:St):Prop:=
 (match e with| .normal| .ret=>True|_=>False)/\
 ∃v r ns new cO,wO ty rs s.ob s.env=some v/\ Exp k s.ob ns v r/\ post r new cO/\ oP s.ob ns=some new/\ oM s.ob (ixN (List.range k++ns)) (List.range k)=some cO/\ ns.Nodup/\ (∀n∈ns,k<=n)/\
  (∀x∈new,jU new.length x)/\ (∀x∈cO,jU (cO.length+new.length) x)

def sQ(obs:List bH):bJ:=fun n=>(obs[n]?).map (·.eT n)

section
variable{P:Program}{cx:Cx}{κ:dx}{F:Nat->Prop}{w:World}{U:Nat->Prop}{nm:Nat}{σ:bJ}{ty:TypeId->Option bD}{Γ:Nat->Option dJ}

mutual
theorem RD.le:∀{d d':D}{v:Value},lF d d'->RD F w d v->RD F w d' v
 | .sc u,d',v,h,a=>by
  unfold lF at h;rcases h with rfl|⟨rfl,es,rfl⟩
  ·exact a
  ·unfold RD at a ⊢;exact⟨none,0,a.1,dQ _,by unfold maxLen;omega,fun _=>rfl,.inl rfl⟩
 | .sl es l,d',v,h,a=>by unfold lF at h;subst h;exact a
 | .agg l,d',v,h,a=>by
  unfold lF at h;obtain⟨l',rfl,h⟩:=h;unfold RD at a ⊢;obtain⟨cs,b,c⟩:=a;exact⟨cs,b,RC.le h c⟩
theorem RC.le:∀{l l':List D}{us:List Value},mE l l'->RC F w l us->RC F w l' us
 |[],l',us,h,a=>by unfold mE at h;subst h;exact a
 |d::l,l',us,h,a=>by
  unfold mE at h;obtain⟨d',r,rfl,i,j⟩:=h;unfold RC at a ⊢;obtain⟨u,b,c,e,f,g⟩:=a;exact⟨u,b,c,e,RD.le i f,RC.le j g⟩
end

mutual
theorem Exp.rv{k:Nat}{κ':dx}{F':Nat->Prop}{ns:List Nat}(h:dh cx κ F w U σ)(hF:∀b,F b->F' b)(hb:∀o es l x,σ o=some x->x.sl=some (es,l)->o∉ns->k<=o->∀b,dw κ o x b->F' b)(g:∀(j o:Nat),ns[j]? =some o->(κ' j).v=(κ o).v):
  ∀{x r:AV}{v:Value},Exp k σ ns x r->RV κ F w x v->RV κ' F' w r v
 | .dat d,r,v,a,c=>by
  unfold Exp at a;obtain⟨d',rfl,hd⟩:=a;unfold RV at c ⊢;exact RD.le hd (RD.mono hF (fun _ _=>rfl) c)
 | .own o,r,v,a,c=>by
  unfold Exp at a;unfold RV at c;rcases a with⟨es,l,e,f,m,rfl⟩|⟨j,n,rfl⟩
  ·unfold RV;rw[c.1];obtain⟨x,a,hs⟩:=uZ e;exact yK h hF a hs (hb o es l x a hs f m)
  ·unfold RV;rw[g j o n];exact c
 | .aggv l,r,v,a,c=>by
  unfold Exp at a;unfold RV at c;obtain⟨cs,e,f⟩:=c;rcases a with⟨ds,rfl,a⟩|⟨l',rfl,a⟩
  ·unfold RV RD;exact⟨cs,e,nK.rv h hF hb g a f⟩
  ·unfold RV;exact⟨cs,e,gJ.uD h hF hb g a f⟩
 | .tup l,r,v,a,c=>by
  unfold Exp at a;obtain⟨l',rfl,a⟩:=a;unfold RV at c ⊢;obtain⟨cs,e,f⟩:=c;exact⟨cs,e,gJ.uz h hF hb g a f⟩
 | .ref o i,r,v,a,c=>by
  unfold Exp at a;rcases a with rfl|⟨j,n,rfl⟩
  ·unfold RV;trivial
  ·unfold RV at c ⊢;rw[g j o n];exact c
 | .eref _ _ _ _,r,v,a,c=>by unfold Exp at a;subst a;unfold RV;trivial
 | .row _ _ _ _,r,v,a,c=>by unfold Exp at a;subst a;unfold RV;trivial
 | .fH _ _ _ _ _ _ _,r,v,a,c=>by unfold Exp at a;subst a;unfold RV;trivial
 | .vw _ _ _ _ _ _ _,r,v,a,c=>by unfold Exp at a;subst a;unfold RV;trivial
 | .fp _,r,v,a,c=>by unfold Exp at a;subst a;unfold RV;trivial
 | .fn _ _,r,v,a,c=>by unfold Exp at a;subst a;unfold RV;trivial
 | .und,r,v,a,c=>by unfold Exp at a;subst a;unfold RV;trivial
 | .unk,r,v,a,c=>by unfold Exp at a;subst a;unfold RV;trivial
theorem gJ.uz{k:Nat}{κ':dx}{F':Nat->Prop}{ns:List Nat}(h:dh cx κ F w U σ)(hF:∀b,F b->F' b)(hb:∀o es l x,σ o=some x->x.sl=some (es,l)->o∉ns->k<=o->∀b,dw κ o x b->F' b)(e:∀(j o:Nat),ns[j]? =some o->(κ' j).v=(κ o).v):
  ∀{l l':List AV}{us:List Value},gJ k σ ns l l'->dz κ F w l us->dz κ' F' w l' us
 |[],l',us,c,a=>by unfold gJ at c;subst c;unfold dz at a ⊢;exact a
 |x::l,l',us,c,a=>by
  unfold gJ at c;obtain⟨y,r,rfl,m,n⟩:=c;unfold dz at a ⊢;obtain⟨u,d,f,g,i⟩:=a;exact⟨u,d,f,Exp.rv h hF hb e m g,gJ.uz h hF hb e n i⟩
theorem gJ.uD{k:Nat}{κ':dx}{F':Nat->Prop}{ns:List Nat}(h:dh cx κ F w U σ)(hF:∀b,F b->F' b)(hb:∀o es l x,σ o=some x->x.sl=some (es,l)->o∉ns->k<=o->∀b,dw κ o x b->F' b)(f:∀(j o:Nat),ns[j]? =some o->(κ' j).v=(κ o).v):
  ∀{l l':List AV}{us:List Value},gJ k σ ns l l'->bQ κ F w l us->bQ κ' F' w l' us
 |[],l',us,c,a=>by unfold gJ at c;subst c;unfold bQ at a ⊢;exact a
 |x::l,l',us,c,a=>by
  unfold gJ at c;obtain⟨y,r,rfl,n,p⟩:=c;unfold bQ at a ⊢;obtain⟨u,e,g,d,i,m⟩:=a;exact⟨u,e,g,d,Exp.rv h hF hb f n i,gJ.uD h hF hb f p m⟩
theorem nK.rv{k:Nat}{κ':dx}{F':Nat->Prop}{ns:List Nat}(h:dh cx κ F w U σ)(hF:∀b,F b->F' b)(hb:∀o es l x,σ o=some x->x.sl=some (es,l)->o∉ns->k<=o->∀b,dw κ o x b->F' b)(f:∀(j o:Nat),ns[j]? =some o->(κ' j).v=(κ o).v):
  ∀{l:List AV}{ds:List D}{us:List Value},nK k σ ns l ds->bQ κ F w l us->RC F' w ds us
 |[],ds,us,c,a=>by unfold nK at c;subst c;unfold bQ at a;unfold RC;exact a
 |x::l,ds,us,c,a=>by
  unfold nK at c;obtain⟨y,r,rfl,n,p⟩:=c;unfold bQ at a;obtain⟨u,e,g,d,i,m⟩:=a;have:=Exp.rv h hF hb f n i;unfold RV at this;unfold RC;exact⟨u,e,g,d,this,nK.rv h hF hb f p m⟩
end

mutual
theorem Exp.nb{k:Nat}{ns:List Nat}:∀{x r:AV},Exp k σ ns x r->NB (· <ns.length) r
 | .dat d,r,a=>by unfold Exp at a;obtain⟨d',rfl,_⟩:=a;unfold NB;trivial
 | .own o,r,a=>by
  unfold Exp at a;rcases a with⟨es,l,e,f,c,rfl⟩|⟨j,b,rfl⟩
  ·unfold NB;trivial
  ·unfold NB;exact(cK.1 b).1
 | .aggv l,r,a=>by
  unfold Exp at a;rcases a with⟨ds,rfl,a⟩|⟨l',rfl,a⟩
  ·unfold NB;trivial
  ·unfold NB;exact gJ.nb a
 | .tup l,r,a=>by
  unfold Exp at a;obtain⟨l',rfl,a⟩:=a;unfold NB;exact gJ.nb a
 | .ref o i,r,a=>by
  unfold Exp at a;rcases a with rfl|⟨j,b,rfl⟩
  ·unfold NB;trivial
  ·unfold NB;exact(cK.1 b).1
 | .eref _ _ _ _,r,a=>by unfold Exp at a;subst a;unfold NB;trivial
 | .row _ _ _ _,r,a=>by unfold Exp at a;subst a;unfold NB;trivial
 | .fH _ _ _ _ _ _ _,r,a=>by unfold Exp at a;subst a;unfold NB;trivial
 | .vw _ _ _ _ _ _ _,r,a=>by unfold Exp at a;subst a;unfold NB;trivial
 | .fp _,r,a=>by unfold Exp at a;subst a;unfold NB;trivial
 | .fn _ _,r,a=>by unfold Exp at a;subst a;unfold NB;trivial
 | .und,r,a=>by unfold Exp at a;subst a;unfold NB;trivial
 | .unk,r,a=>by unfold Exp at a;subst a;unfold NB;trivial
theorem gJ.nb{k:Nat}{ns:List Nat}:∀{l l':List AV},gJ k σ ns l l'->bN (· <ns.length) l'
 |[],l',a=>by unfold gJ at a;subst a;unfold bN;trivial
 |x::l,l',a=>by
  unfold gJ at a;obtain⟨y,r,rfl,b,c⟩:=a;unfold bN;exact⟨Exp.nb b,gJ.nb c⟩
end

theorem jtl(D:∀t x,ty t=some x->bS P t x){env:List AV}{a:Act}(B:jI cx κ F U env σ a w){rs:List ResultVar}{fn:Func}(C:fn.results.toList=rs){v:AV}(h:wO ty rs σ env=some v):
  ∃u,(results fn a.tmps).run P w=.ok u w/\ RV κ F w v u:=by
 have one:∀(x:ResultVar)(y:AV),sS ty σ env x=some y->∃u,(match x with| .tmp t=>pure (a.tmps.getD t undef)| .cell b t=>do loadVar t (<-asAddr (a.tmps.getD b undef)):Sem Value).run P w=.ok u w/\ RV κ F w y u:=by
  intro x y e;cases x with
  |tmp t=>
   simp only[sS,bU]at e;subst e;exact⟨_,by simp,B.env.rv t⟩
  |cell b t=>
   simp only[sS]at e;split at e
   ·rename_i o i T hb hT;have n:=D _ _ hT;have G:=B.env.rv b;rw[hb]at G;unfold RV at G;obtain⟨Z,S,N⟩:=G;split at e
    ·rename_i l A;obtain⟨Y,arr,H,O,I⟩:=B.gP.ok o _ A;rw[S]at H;simp at H;subst H;have M:=I.length;split at e
     ·rename_i z;split at e
      ·rename_i V;simp only[bU]at e;subst e;refine⟨_,?_,GZ ((I.drop i).take T.size)⟩;simp only[N,asAddr,Sem.run_bind,Sem.run_pure,Result.andThen_ok];refine vL n z ?_ ?_
       ·rw[eF,gY];omega
       ·intro j u m;rw[zC O];rw[nI]at m;split at m
        ·rw[iX]at m;simpa using m
        ·cases m
      ·cases e
     ·rename_i z;obtain⟨u,k,g,L⟩:=bQ.at i y I e;refine⟨u,?_,L⟩;simp only[N,asAddr,Sem.run_bind,Sem.run_pure,Result.andThen_ok];exact vM n (by simpa using z) (by rw[zC O];simpa using k)
    ·cases e
   ·cases e
 have p:∀(l:List ResultVar)(vs:List AV),pY ty σ env l=some vs->∃us:List Value,(l.mapM fun x=>(match x with| .tmp t=>pure (a.tmps.getD t undef)| .cell b t=>do loadVar t (<-asAddr (a.tmps.getD b undef)):Sem Value)).run P w=.ok us w/\ dz κ F w vs us:=by
  intro l
  induction l with
  |nil=>intro vs h;simp only[pY,bU]at h;subst h;exact⟨[],by simp,by unfold dz;rfl⟩
  |cons x l W=>
   intro vs h;simp only[pY]at h;split at h
   ·rename_i y r k g;simp only[bU]at h;subst h;obtain⟨u,q,d⟩:=one x y k;obtain⟨us,Q,R⟩:=W r g;refine⟨u::us,?_,by unfold dz;exact⟨u,us,rfl,d,R⟩⟩;simp only[List.mapM_cons,Sem.run_bind,q,Result.andThen_ok,Q,Sem.run_pure]
   ·cases h
 unfold wO at h;have J:∀us:List Value,(rs.mapM fun x=>(match x with| .tmp t=>pure (a.tmps.getD t undef)| .cell b t=>do loadVar t (<-asAddr (a.tmps.getD b undef)):Sem Value)).run P w=.ok us w->
   (results fn a.tmps).run P w=.ok (if h:us.toArray.size=1 then us.toArray[0]else .tuple us.toArray) w:=by
  intro us E;unfold results;rw[Array.mapM_eq_mapM_toList,map_eq_pure_bind,C];simp only[Sem.run_bind,Sem.run_pure];have:(rs.mapM fun x=>(match x with| .tmp t=>pure (a.tmps.getD t undef)| .cell b t=>do loadVar t (<-asAddr (a.tmps.getD b undef)):Sem Value)).run P w=.ok us w:=E
  erw [this]
  rfl
 cases f:pY ty σ env rs with
 |none=>rw[f]at h;cases h
 |some l=>
  rw[f]at h;obtain⟨us,q,d⟩:=p rs l f;have c:=J us q
  match l,us,h,d,c with
  |[],us,h,d,c=>
   unfold dz at d;subst d;simp only[bU]at h;subst h;exact⟨_,by simpa using c,by unfold RV;exact⟨[],rfl,by unfold dz;rfl⟩⟩
  |[x],us,h,d,c=>
   unfold dz at d;obtain⟨u,K,rfl,k,g⟩:=d;unfold dz at g;subst g;simp only[bU]at h;subst h;exact⟨u,by simpa using c,k⟩
  |x::y::l,us,h,d,c=>
   have s:=d;unfold dz at d;obtain⟨u,K,rfl,k,g⟩:=d;unfold dz at g;obtain⟨u2,X,rfl,L,h4⟩:=g;simp only[bU]at h;subst h;refine⟨_,by simpa using c,?_⟩;unfold RV;exact⟨_,rfl,s⟩

end
end
section
section
variable{P:Program}{J:Inv}{cx:Cx}{κ:dx}{F:Nat->Prop}{w:World}{U:Nat->Prop}{nm:Nat}{σ:bJ}{ty:TypeId->Option bD}{Γ:Nat->Option dJ}

theorem dz.getD:∀{l:List AV}{us:List Value},dz κ F w l us->us.length=l.length/\ ∀t,t<l.length->RV κ F w (l.getD t .und) (us.getD t undef)
 |[],us,h=>by unfold dz at h;subst h;simp
 |x::l,us,h=>by
  unfold dz at h;obtain⟨u,f,rfl,c,d⟩:=h;obtain⟨a,b⟩:=dz.getD d;refine⟨by simp[a],fun t e=>?_⟩;cases t with
  |zero=>simpa using c
  |succ t=>simpa using b t (by simpa using e)

mutual
theorem N8:∀(p:Pt)(d:D)(k:Nat),NB (· <k+p.n) (jH p d k)
 | .rd,d,k=>by unfold jH NB;trivial
 | .zr,d,k=>by unfold jH NB;trivial
 | .sl,d,k=>by unfold jH NB Pt.n;omega
 | .bx,d,k=>by unfold jH NB Pt.n;omega
 | .bo m,d,k=>by unfold jH NB Pt.n;omega
 | .ag l,.agg ds,k=>by unfold jH NB Pt.n;exact wY l ds k
 | .ag l,.sc _,k=>by unfold jH NB;trivial
 | .ag l,.sl _ _,k=>by unfold jH NB;trivial
 | .fn f l,.agg ds,k=>by unfold jH NB Pt.n;exact wY l ds k
 | .fn f l,.sc _,k=>by unfold jH NB;trivial
 | .fn f l,.sl _ _,k=>by unfold jH NB;trivial
theorem wY:∀(ls:List Pt)(ds:List D)(k:Nat),bN (· <k+Pt.ns ls) (fD ls ds k)
 |[],ds,k=>by unfold fD bN;trivial
 |p::ls,d::ds,k=>by
  unfold fD bN Pt.ns;exact⟨NB.mono (fun o a=>by omega) (N8 p d k),bN.mono (fun o a=>by omega) (wY ls ds (k+p.n))⟩
 |p::ls,[],k=>by
  unfold fD bN Pt.ns;exact⟨by unfold NB;trivial,bN.mono (fun o a=>by omega) (wY ls [] k)⟩
end

theorem bN.getD{l:List AV}(h:bN U l)(t:Nat):NB U (l.getD t .und):=by
 rw[dD];cases a:l[t]? with
 |none=>simp only[Option.getD_none];unfold NB;trivial
 |some x=>exact bN.at t x h a

theorem O9(aM:∀t x,ty t=some x->bS P t x){f:Nat}{fn:Func}{c:Code}(S:dJ)(N:Nat)(hc:∀args w,(callFunc f args).run P w=.ok (.enter f args) w)(hf:P.funcs[f]? =some fn)(hb:fn.body=some c)
  (hN:Pt.ns S.lend<=N) (K:Nat) (rs:List ResultVar) (aL:fn.results.toList=rs) (n:Nat) (T:fn.ntmps=n) (aw:∀ds obs,S.pre ds obs->obs.length<=N/\ K<=obs.length)
  (h:∀ds obs cx,S.pre ds obs->cx.L=K->cx.J=J->Ok P cx c (Fin ty rs K (S.post ds obs)) ⟨fD S.lend ds 0++List.replicate (n-(fD S.lend ds 0).length) .und,sQ obs,N⟩):FnOK P J f S:=by
 refine⟨hc,fun vs w F ds obs κ ad ah hF hJ R=>?_⟩;refine calls_of_wp hf hb ?_;subst T
 let cx:Cx:=⟨fun b=>b<w.heap.size/\ ¬kQ κ obs b,fun b=>F b \/w.heap.size<=b \/kQ κ obs b,w.heap.size,K,κ,J⟩
 have aN:dz κ F w (fD S.lend ds 0) vs:=ah;obtain⟨aB,aC⟩:=aN.getD;have Y:∀j x,obs[j]? =some x->∀b,dw κ j (x.eT j) b->kQ κ obs b:=fun j x d b hb=>⟨j,x,d,hb⟩;obtain⟨aK,aJ⟩:=aw ds obs ad;have hlo:∀o x,sQ obs o=some x->∃y,obs[o]? =some y/\ x=y.eT o:=fun o x G=>by
  obtain⟨y,B,rfl⟩:=kG.1 G;exact⟨y,B,rfl⟩
 have aj:dh cx κ F w (· <N) (sQ obs):=by
  refine⟨fun o x G=>?_,fun o x G=>?_,fun o x G b hb=>?_,fun o x o' x' G aP Z b hb=>?_,fun b hb=>⟨.inl hb,hF b hb⟩,fun b hb=>hb.1,fun b hb=>.inr (.inl hb),dQ _,hJ,fun j d=>⟨kH (kH d aJ) aK,rfl⟩⟩
  ·obtain⟨y,B,rfl⟩:=hlo o x G;exact(R.ok o y B).1
  ·obtain⟨y,B,rfl⟩:=hlo o x G;have p:o<N:=by have:=(cK.1 B).1;omega
   exact⟨p,jU.nbo0 (U:=(· <N)) p (fun j d=>by show j<N;omega) (R.ok o y B).2⟩
  ·obtain⟨y,B,rfl⟩:=hlo o x G;have I:=R.blk o y B b hb;exact⟨I.2,fun hK=>hK.2 (Y o y B b hb),.inr (.inr (Y o y B b hb))⟩
  ·obtain⟨y,B,rfl⟩:=hlo o x G;obtain⟨y',aQ,rfl⟩:=hlo o' x' aP;exact R.apart o y o' y' B aQ Z b hb
 have az:Rel cx κ F ⟨fD S.lend ds 0++List.replicate (fn.ntmps-(fD S.lend ds 0).length) .und,sQ obs,N⟩ {tmps:=vs.toArray++Array.replicate (fn.ntmps-vs.toArray.size) undef,defers:=[]} w:=by
  refine⟨⟨?_,rfl,fun t=>?_,fun t=>?_⟩,aj⟩
  ·simp[aB]
  ·have e1:(vs.toArray++Array.replicate (fn.ntmps-vs.toArray.size) undef).getD t undef=(vs++List.replicate (fn.ntmps-vs.length) undef).getD t undef:=by
    rw[nL,dD,<-Eh];simp
   rw[e1];by_cases ht:t<vs.length
   ·have e2:(vs++List.replicate (fn.ntmps-vs.length) undef).getD t undef=vs.getD t undef:=by
     rw[dD,jK ht,<-dD]
    have e3:(fD S.lend ds 0++List.replicate (fn.ntmps-(fD S.lend ds 0).length) AV.und).getD t .und=(fD S.lend ds 0).getD t .und:=by
     rw[dD,jK (by omega),<-dD]
    rw[e2,e3];exact aC t (by omega)
   ·have e2:(vs++List.replicate (fn.ntmps-vs.length) undef).getD t undef=undef:=by
     rw[dD,kg (by omega),Ay];split<;>rfl
    have e3:(fD S.lend ds 0++List.replicate (fn.ntmps-(fD S.lend ds 0).length) AV.und).getD t .und=.und:=by
     rw[dD,kg (by omega),Ay];split<;>rfl
    rw[e2,e3];unfold RV;rfl
  ·rw[dD];by_cases ht:t<(fD S.lend ds 0).length
   ·rw[jK ht,<-dD];exact bN.getD (bN.mono (fun o V=>by simp only at V ⊢;omega) (wY S.lend ds 0)) t
   ·rw[kg (by omega),Ay];split<;>(simp only[rC,Option.getD_none];unfold NB;trivial)
 refine wp_mono (h ds obs cx ad rfl rfl κ F _ w az) ?_;rintro e a' w' ⟨κ',F',k,⟨A,v,r,ns,new,cO,aA,ac,ak,au,ai,aF,aH,aE,ar⟩,am,aO,q⟩;obtain⟨aI,aG⟩:=xJ au;obtain⟨ay,ax⟩:=jgb ai;rw[mo]at ay;obtain⟨u,af,hu⟩:=jtl aM (show jI cx κ' F' (· <k.nx) k.env k.ob a' w' from⟨q.env,q.gP⟩) aL aA;have a:=q.gP;have ao:∀j,j<K->(κ' j).v=(κ j).v:=fun j d=>(a.lt j d).2;have E:∀(j:Nat)(x:bH),cO[j]? =some x->∃y,j<K/\ k.ob j=some y/\ x=(y.ren (ixN (List.range K++ns))).eT 0:=fun j x d=>by
  have p:=(cK.1 d).1;have I:(List.range K)[j]? =some j:=by rw[pI (by omega)]
  obtain⟨y,B,g⟩:=ax j j I;rw[d]at B;cases B;exact⟨y,by omega,g,rfl⟩
 have D:∀(j:Nat)(x:bH),new[j]? =some x->∃n y,ns[j]? =some n/\ k.ob n=some y/\ x=(y.ren (ixN ns)).eT 0:=fun j x d=>by
  have p:=(cK.1 d).1;have I:ns[j]? =some (ns[j]'(by omega)):=fO (by omega);obtain⟨y,B,g⟩:=aG j _ I;rw[d]at B;cases B;exact⟨_,y,I,g,rfl⟩
 have aD:∀j,j<K->∃x,k.ob j=some x:=fun j d=>by
  obtain⟨y,_,g⟩:=ax j j (by rw[pI d]);exact⟨y,g⟩
 have X:∀o x,k.ob o=some x->∀b,dw κ' o x b->kQ κ obs b \/w.heap.size<=b:=by
  intro o x G b hb;obtain⟨I,h2,h3⟩:=a.free o x G b hb;rcases h3 with h3|h3|h3
  ·exact absurd (am b h3) I
  ·exact .inr h3
  ·exact .inl h3
 let F2:Nat->Prop:=fun b=>F' b \/∃o es l x,k.ob o=some x/\ x.sl=some (es,l)/\ o∉ns/\ K<=o/\ dw κ' o x b
 let κ2:dx:=fun j=>tk κ' k.ob (ns.getD j 0)
 have C:∀(j o:Nat),ns[j]? =some o->κ2 j=tk κ' k.ob o:=fun j o d=>by
  show tk κ' k.ob (ns.getD j 0)=tk κ' k.ob o;rw[dD,d];rfl
 let κl:dx:=fun j=>if j<K then tk κ' k.ob j else κ2 (j-K)
 have O:∀j,j<K->κl j=tk κ' k.ob j:=fun j d=>if_pos d;have ap:∀j,K<=j->κl j=κ2 (j-K):=fun j d=>if_neg (by omega);have ae:DU S ds obs κ F w u w' r new cO κ2 κl F2:=by
  refine⟨ak,fun b hb=>.inl (am b hb),fun b hb=>?_,fun b hb=>?_,aO.mono (fun b hb=>.inr hb),?_,?_,fun i x j y hi d b hb s=>?_,?_,?_,fun i _=>by rw[ay,ap _ (by omega),pF],fun j d=>?_⟩
  ·rcases hb with hb|⟨o,es,l,x,V,ab,W,aa,Q⟩
   ·rcases(a.fG b hb).1 with h3|h3|h3
    ·exact .inl h3
    ·exact .inr (.inr h3)
    ·exact .inr (.inl h3)
   ·exact .inr (X o _ V b Q)
  ·rcases hb with hb|⟨o,es,l,x,V,ab,W,aa,Q⟩
   ·exact(a.fG b hb).2
   ·exact kX a V Q
  ·exact Exp.rv a (fun b hb=>.inl hb) (fun o es l x V ab W aa b hb=>.inr ⟨o,es,l,x,V,ab,W,aa,hb⟩) (fun j o d=>by rw[C j o d,jw]) ac hu
  ·have:=Exp.nb ac
   rwa [<-aI]at this
  ·obtain⟨y',p,g,rfl⟩:=E i x hi;obtain⟨n,z,T,H,rfl⟩:=D j y d;have hb:=hb.named g (O i p);have s:=s.named H (C j n T);have aR:=aH n (bT T);exact a.apart i y' n z g H (by omega) b hb s
  ·refine⟨fun j x d=>?_,fun j x d b hb=>?_,fun i x j y hi d Z b hb s=>?_⟩
   ·obtain⟨n,y,T,g,rfl⟩:=D j x d;have G:=aE _ (bT d);exact⟨iH.named g G (C j n T) (fun o V=>by rw[C _ o (wU (by omega)),jw]) (fun b hb=>.inl hb) (a.ok n y g),G⟩
   ·obtain⟨n,y,T,g,rfl⟩:=D j x d;have hb:=hb.named g (C j n T);refine⟨X n y g b hb,fun M=>?_⟩;rcases M with M|⟨o,es,l,z,V,ab,W,aa,Q⟩
    ·exact(a.free n y g b hb).1 M
    ·exact a.apart n y o _ g V (fun e2=>W (e2▸bT T)) b hb Q
   ·obtain⟨n,x',T,g,rfl⟩:=D i x hi;obtain⟨m,y',hm,H,rfl⟩:=D j y d;have hb:=hb.named g (C i n T);have s:=s.named H (C j m hm);refine a.apart n x' m y' g H (fun e2=>Z ?_) b hb s;have I:=(cK.1 T).1;have h2:=(cK.1 hm).1;exact(List.getElem_inj (h₀:=I) (h₁:=h2) aF).1 (by rw[(cK.1 T).2,(cK.1 hm).2];exact e2)
  ·refine⟨fun j x d=>?_,fun j x d b hb=>?_,fun i x j y hi d Z b hb s=>?_⟩
   ·obtain⟨y,p,g,rfl⟩:=E j x d;have G:=ar _ (bT d);exact⟨iH.named g G (O j p) (fun o V=>by
     have I:=wU (ns:=List.range K++ns) (o:=o) (by rw[gu,mo];omega);rcases jC (ixN (List.range K++ns) o) K with hlo|hlo
     ·rw[jK (by rw[mo];exact hlo),pI hlo]at I;rw[O _ hlo,gT I,jw]
     ·rw[kg (by rw[mo];exact hlo),mo]at I;rw[ap _ hlo,C _ o I,jw]) (fun b hb=>.inl hb) (a.ok j y g),G⟩
   ·obtain⟨y,p,g,rfl⟩:=E j x d;have hb:=hb.named g (O j p);refine⟨X j y g b hb,fun M=>?_⟩;rcases M with M|⟨o,es,l,z,V,ab,W,aa,Q⟩
    ·exact(a.free j y g b hb).1 M
    ·exact a.apart j y o _ g V (by omega) b hb Q
   ·obtain⟨x',p,g,rfl⟩:=E i x hi;obtain⟨y',aq,H,rfl⟩:=E j y d;exact a.apart i x' j y' g H Z b (hb.named g (O i p)) (s.named H (O j aq))
  ·rw[O j (by omega),jw,ao j (by omega)]
 cases e with
 |normal=>exact⟨q.env.qp,u,af,u,rfl,r,new,cO,κ2,κl,F2,ae⟩
 |ret=>exact⟨q.env.qp,u,af,u,rfl,r,new,cO,κ2,κl,F2,ae⟩
 |exit id=>exact A.elim
 |goto l=>exact A.elim
 |panic ch=>exact A.elim
 |outgrown=>exact A.elim

end
end
section

def Wk(cx:Cx)(s s':St):Prop:=∀κ F a w,Rel cx κ F s a w->∃κ' F',(∀b,F b->F' b)/\ Rel cx κ' F' s' a w

theorem Wk.refl{cx:Cx}(s:St):Wk cx s s:=fun κ F _ _ h=>⟨κ,F,fun _ h=>h,h⟩
theorem Wk.trans{cx:Cx}{a b c:St}(h:Wk cx a b)(d:Wk cx b c):Wk cx a c:=fun κ F x w e=>
 let ⟨κ1,F1,h1,h2⟩:=h κ F x w e
 let ⟨κ2,F2,h3,h4⟩:=d κ1 F1 x w h2
 ⟨κ2,F2,fun b hb=>h3 b (h1 b hb),h4⟩

theorem jah{P:Program}{cx:Cx}{c:Code}{Q:Exit->St->Prop}{s s':St}(h:Wk cx s s')(b:Ok P cx c Q s'):Ok P cx c Q s:=by
 intro κ F a w g;obtain⟨κ',F',d,e⟩:=h κ F a w g;exact wp_mono (b κ' F' a w e) fun _ _ _ f=>Post.lift d (Wx.refl _ _) f

theorem Ry{P:Program}{cx:Cx}{c:Code}{Q:Exit->St->Prop}{st:St}(I:Nat->St->Prop)(f:Nat)(h₀:∃s,Wk cx st s/\ I f s)
  (b:∀n s,I n s->Ok P cx c (Then (fun s'=>∃d a,d<n/\ Wk cx s' a/\ I d a) Q) s):Ok P cx (.loop c) Q st:=by
 refine juo (fun n s=>∃s',Wk cx s s'/\ I n s') f h₀ ?_;rintro n s ⟨s',k,l⟩;refine jah k (Ok.mono (b n s' l) ?_);intro e m h;cases e with
 |normal=>
  obtain⟨d,a,g,i,j⟩:=h;exact⟨d,g,a,i,j⟩
 |_=>exact h

mutual
def dK(L:Nat)(σ:bJ)(ren:List (Nat×Nat))(bV:List Nat):AV->AV->Prop
 | .dat d,y=>y=.unk \/(∃d',y=.dat d'/\ lF d d') \/(d=.sc sO/\ ∃o,y=.own o/\ o∈bV)
 | .own o,y=>y=.unk \/(∃o',y=.own o'/\ (o',o)∈ren) \/(∃es l,mP σ o=some (es,l)/\ o∉ren.map Prod.snd/\ L<=o/\ y=.dat (.sl es l))
 | .ref o i,y=>y=.unk \/∃o',y=.ref o' i/\ (o',o)∈ren
 | .eref o es k j,y=>y=.unk \/∃o',y=.eref o' es k j/\ (o',o)∈ren
 | .row o g k j,y=>y=.unk \/∃o',y=.row o' o' k j/\ (o',o)∈ren/\ ∃t,gM σ o g=some t
 | .fH o g k j es i c,y=>y=.unk \/∃o',y=.fH o' o' k j es i c/\ (o',o)∈ren/\ ∃t,gM σ o g=some t
 | .vw o g k j es lo n,y=>y=.unk \/∃o',y=.vw o' o' k j es lo n/\ (o',o)∈ren/\ ∃t,gM σ o g=some t
 | .fp l,y=>y=.unk \/y=.fp l
 | .aggv l,y=>y=.unk \/(∃l',y=.aggv l'/\ fu L σ ren bV l l') \/(∃ds,y=.dat (.agg ds)/\ oq L σ ren bV l ds)
 | .tup l,y=>y=.unk \/∃l',y=.tup l'/\ fu L σ ren bV l l'
 | .fn f l,y=>y=.unk \/∃l',y=.fn f l'/\ fu L σ ren bV l l'
 | .und,y=>y=.unk \/y=.und
 | .unk,y=>y=.unk
def fu(L:Nat)(σ:bJ)(ren:List (Nat×Nat))(bV:List Nat):List AV->List AV->Prop
 |[],l'=>l'=[]
 |x::l,l'=>∃y r,l'=y::r/\ dK L σ ren bV x y/\ fu L σ ren bV l r
def oq(L:Nat)(σ:bJ)(ren:List (Nat×Nat))(bV:List Nat):List AV->List D->Prop
 |[],l'=>l'=[]
 |x::l,l'=>∃y r,l'=y::r/\ dK L σ ren bV x (.dat y)/\ oq L σ ren bV l r
end

def JX(L:Nat)(σ:bJ)(ren:List (Nat×Nat))(bV:List Nat)(fr:List Nat)(n o:Nat):bH->bH->Prop
 | .box T l,y=>(∃l',y=.box T l'/\ fu L σ ren bV l l') \/(l=[.dat (.sc (.pointer none)),.dat (.sc sO)]/\ (∃E,y=.gF T E [] n)/\ o∉fr)
 | .gF T E l _,y=>y=.gF T E l n/\ o∉fr
 | .mp t l,y=>y=.mp t l
 | .arr e es l,y=>y=.arr e es l \/(l=[]/\ ∃mask,y=.tab e es mask [] n none/\ mask.length<=es)
 | .tab e es mask l _ hole,y=>(y=.tab e es mask l n hole/\ o∉fr) \/(hole=none/\ y=.arr e es l/\ o∈fr)

def obs(l:List (Nat×bH)):bJ:=fun n=>match l with
 |[]=>none
 |(k,x)::r=>bif Nat.beq n k then some x else obs r n

theorem zo:∀{l:List (Nat×bH)}{n:Nat}{x:bH},obs l n=some x->(n,x)∈l
 |[],n,x,h=>by unfold obs at h;cases h
 |(k,y)::r,n,x,h=>by
  unfold obs at h;cases hb:Nat.beq n k with
  |true=>
   rw[hb]at h;simp only[cond_true,bU]at h;have:=eG hb;subst this;subst h;exact dU ..
  |false=>
   rw[hb]at h;exact dZ _ (zo h)

def jy(κ:dx)(σ:bJ)(ren:List (Nat×Nat)):dx:=fun n=>match ren.lookup n with
 |some o=>tk κ σ o
 |none=>kv sO

section
variable{cx:Cx}{κ:dx}{F:Nat->Prop}{w:World}{U:Nat->Prop}{σ:bJ}

theorem ql{ren:List (Nat×Nat)}(c:(ren.map Prod.fst).Nodup){n o:Nat}(h:(n,o)∈ren):jy κ σ ren n=tk κ σ o:=by
 unfold jy;have:ren.lookup n=some o:=by
  induction ren with
  |nil=>cases h
  |cons p r f=>
   obtain⟨a,b⟩:=p;simp only[dX,jW]at c;rcases dY.1 h with h|h
   ·cases h;simp[List.lookup]
   ·have d:n≠a:=fun e=>c.1 (e▸jE.2 ⟨(n,o),h,rfl⟩);have hb:(n==a)=false:=by simpa using d
    simp only[List.lookup,hb];exact f c.2 h
 rw[this]

theorem Dz{ren:List (Nat×Nat)}{n:Nat}(h:n∉ren.map Prod.fst):jy κ σ ren n=kv sO:=by
 unfold jy;have:ren.lookup n=none:=by
  induction ren with
  |nil=>rfl
  |cons p r c=>
   obtain⟨a,b⟩:=p;simp only[dX,dY,not_or]at h;have hb:(n==a)=false:=by simpa using h.1
   simp only[List.lookup,hb];exact c h.2
 rw[this]

def uq(cx:Cx)(κ:dx)(F:Nat->Prop)(σ:bJ)(ren:List (Nat×Nat))(fr:List Nat):Nat->Prop:=fun b=>F b \/(∃o es l x,σ o=some x/\ x.sl=some (es,l)/\ o∉ren.map Prod.snd/\ cx.L<=o/\ dw κ o x b) \/
 ∃o∈fr,∃e es mask l g k j,σ o=some (.tab e es mask l g none)/\ fU mask l.length none k j/\ blk ((κ g).r k j)=some b

structure xP(cx:Cx)(ren:List (Nat×Nat))(bV:List Nat):Prop where
 new:(ren.map Prod.fst).Nodup
 old:(ren.map Prod.snd).Nodup
 nil:∀n∈bV,n∉ren.map Prod.fst
 sH:∀j,j<cx.L->(j,j)∈ren

theorem wh{o g:Nat}{t:vS}(h:gM σ o g=some t):(tk κ σ o).r=(κ g).r:=by
 unfold tk;rw[nY h]

mutual
theorem dK.rv{ren:List (Nat×Nat)}{bV fr:List Nat}(h:dh cx κ F w U σ)(q:xP cx ren bV):∀{x y:AV}{v:Value},dK cx.L σ ren bV x y->RV κ F w x v->RV (jy κ σ ren) (uq cx κ F σ ren fr) w y v
 | .dat d,y,v,e,a=>by
  unfold dK at e;rcases e with rfl|⟨d',rfl,hd⟩|⟨rfl,o,rfl,m⟩
  ·unfold RV;trivial
  ·unfold RV at a ⊢;exact RD.le hd (RD.mono (fun b hb=>.inl hb) (fun _ _=>rfl) a)
  ·unfold RV RD at a;unfold RV;rw[Dz (q.nil o m),a.1];exact⟨rfl,rfl⟩
 | .own o,y,v,e,a=>by
  unfold dK at e;rcases e with rfl|⟨o',rfl,m⟩|⟨es,l,r,p,z,rfl⟩
  ·unfold RV;trivial
  ·unfold RV at a ⊢;rw[ql q.new m,jw];exact a
  ·unfold RV at a ⊢;rw[a.1];obtain⟨x,e,hs⟩:=uZ r;exact yK h (fun b hb=>.inl hb) e hs (fun b hb=>.inr (.inl ⟨o,es,l,x,e,hs,p,z,hb⟩))
 | .ref o i,y,v,e,a=>by
  unfold dK at e;rcases e with rfl|⟨o',rfl,m⟩
  ·unfold RV;trivial
  ·unfold RV at a ⊢;rw[ql q.new m,jw];exact a
 | .eref o es k j,y,v,e,a=>by
  unfold dK at e;rcases e with rfl|⟨o',rfl,m⟩
  ·unfold RV;trivial
  ·unfold RV at a ⊢;rw[ql q.new m,jw];exact a
 | .row o g k j,y,v,e,a=>by
  unfold dK at e;rcases e with rfl|⟨o',rfl,m,t,u⟩
  ·unfold RV;trivial
  ·unfold RV at a ⊢;rw[ql q.new m,wh u];exact a
 | .fH o g k j es i c,y,v,e,a=>by
  unfold dK at e;rcases e with rfl|⟨o',rfl,m,t,u⟩
  ·unfold RV;trivial
  ·unfold RV at a ⊢;rw[ql q.new m,wh u];exact a
 | .vw o g k j es lo n,y,v,e,a=>by
  unfold dK at e;rcases e with rfl|⟨o',rfl,m,t,u⟩
  ·unfold RV;trivial
  ·unfold RV at a ⊢;rw[ql q.new m,wh u];exact a
 | .fp l,y,v,e,a=>by
  unfold dK at e;rcases e with rfl|rfl
  ·unfold RV;trivial
  ·have p:RV κ (uq cx κ F σ ren fr) w (.fp l) v:=RV.mono (U:=fun _=>True) (fun _ _=>rfl) (fun b hb=>Or.inl hb) (fun _ _=>rfl) (by unfold NB;trivial) a;unfold RV at p ⊢;exact p
 | .aggv l,y,v,e,a=>by
  unfold dK at e;rcases e with rfl|⟨l',rfl,s⟩|⟨ds,rfl,s⟩
  ·unfold RV;trivial
  ·unfold RV at a ⊢;obtain⟨cs,r,p⟩:=a;exact⟨cs,r,fu.uD h q s p⟩
  ·unfold RV at a;unfold RV RD;obtain⟨cs,r,p⟩:=a;exact⟨cs,r,oq.rv h q s p⟩
 | .tup l,y,v,e,a=>by
  unfold dK at e;rcases e with rfl|⟨l',rfl,s⟩
  ·unfold RV;trivial
  ·unfold RV at a ⊢;obtain⟨cs,r,p⟩:=a;exact⟨cs,r,fu.uz h q s p⟩
 | .fn f l,y,v,e,a=>by
  unfold dK at e;rcases e with rfl|⟨l',rfl,s⟩
  ·unfold RV;trivial
  ·unfold RV at a ⊢;obtain⟨cs,r,p⟩:=a;exact⟨cs,r,fu.uz h q s p⟩
 | .und,y,v,e,a=>by
  unfold dK at e;rcases e with rfl|rfl
  ·unfold RV;trivial
  ·unfold RV at a ⊢;exact a
 | .unk,y,v,e,a=>by unfold dK at e;subst e;unfold RV;trivial
theorem fu.uz{ren:List (Nat×Nat)}{bV fr:List Nat}(h:dh cx κ F w U σ)(d:xP cx ren bV):∀{l l':List AV}{us:List Value},fu cx.L σ ren bV l l'->dz κ F w l us->dz (jy κ σ ren) (uq cx κ F σ ren fr) w l' us
 |[],l',us,b,a=>by unfold fu at b;subst b;unfold dz at a ⊢;exact a
 |x::l,l',us,b,a=>by
  unfold fu at b;obtain⟨y,r,rfl,i,j⟩:=b;unfold dz at a ⊢;obtain⟨u,c,e,f,g⟩:=a;exact⟨u,c,e,dK.rv h d i f,fu.uz h d j g⟩
theorem fu.uD{ren:List (Nat×Nat)}{bV fr:List Nat}(h:dh cx κ F w U σ)(e:xP cx ren bV):∀{l l':List AV}{us:List Value},fu cx.L σ ren bV l l'->bQ κ F w l us->bQ (jy κ σ ren) (uq cx κ F σ ren fr) w l' us
 |[],l',us,b,a=>by unfold fu at b;subst b;unfold bQ at a ⊢;exact a
 |x::l,l',us,b,a=>by
  unfold fu at b;obtain⟨y,r,rfl,j,k⟩:=b;unfold bQ at a ⊢;obtain⟨u,d,f,c,g,i⟩:=a;exact⟨u,d,f,c,dK.rv h e j g,fu.uD h e k i⟩
theorem oq.rv{ren:List (Nat×Nat)}{bV fr:List Nat}(h:dh cx κ F w U σ)(e:xP cx ren bV):∀{l:List AV}{ds:List D}{us:List Value},oq cx.L σ ren bV l ds->bQ κ F w l us->RC (uq cx κ F σ ren fr) w ds us
 |[],ds,us,b,a=>by unfold oq at b;subst b;unfold bQ at a;unfold RC;exact a
 |x::l,ds,us,b,a=>by
  unfold oq at b;obtain⟨y,r,rfl,j,k⟩:=b;unfold bQ at a;obtain⟨u,d,f,c,g,i⟩:=a;have:=dK.rv (fr:=fr) h e j g;unfold RV at this;unfold RC;exact⟨u,d,f,c,this,oq.rv h e k i⟩
end

mutual
theorem dK.nb{L:Nat}{ren:List (Nat×Nat)}{bV:List Nat}{U':Nat->Prop}(e:∀p∈ren,U' p.1)(m:∀n∈bV,U' n):∀{x y:AV},dK L σ ren bV x y->NB U' y
 | .dat d,y,a=>by
  unfold dK at a;rcases a with rfl|⟨d',rfl,hd⟩|⟨rfl,o,rfl,b⟩
  ·unfold NB;trivial
  ·unfold NB;trivial
  ·unfold NB;exact m o b
 | .own o,y,a=>by
  unfold dK at a;rcases a with rfl|⟨o',rfl,b⟩|⟨es,l,_,_,_,rfl⟩
  ·unfold NB;trivial
  ·unfold NB;exact e _ b
  ·unfold NB;trivial
 | .ref o i,y,a=>by
  unfold dK at a;rcases a with rfl|⟨o',rfl,b⟩
  ·unfold NB;trivial
  ·unfold NB;exact e _ b
 | .eref o es k j,y,a=>by
  unfold dK at a;rcases a with rfl|⟨o',rfl,b⟩
  ·unfold NB;trivial
  ·unfold NB;exact e _ b
 | .row o g k j,y,a=>by
  unfold dK at a;rcases a with rfl|⟨o',rfl,b,_⟩
  ·unfold NB;trivial
  ·unfold NB;exact⟨e _ b,e _ b⟩
 | .fH o g k j es i c,y,a=>by
  unfold dK at a;rcases a with rfl|⟨o',rfl,b,_⟩
  ·unfold NB;trivial
  ·unfold NB;exact⟨e _ b,e _ b⟩
 | .vw o g k j es lo n,y,a=>by
  unfold dK at a;rcases a with rfl|⟨o',rfl,b,_⟩
  ·unfold NB;trivial
  ·unfold NB;exact⟨e _ b,e _ b⟩
 | .fp l,y,a=>by
  unfold dK at a;rcases a with rfl|rfl<;>(unfold NB;trivial)
 | .aggv l,y,a=>by
  unfold dK at a;rcases a with rfl|⟨l',rfl,h⟩|⟨ds,rfl,h⟩
  ·unfold NB;trivial
  ·unfold NB;exact fu.nb e m h
  ·unfold NB;trivial
 | .tup l,y,a=>by
  unfold dK at a;rcases a with rfl|⟨l',rfl,h⟩
  ·unfold NB;trivial
  ·unfold NB;exact fu.nb e m h
 | .fn f l,y,a=>by
  unfold dK at a;rcases a with rfl|⟨l',rfl,h⟩
  ·unfold NB;trivial
  ·unfold NB;exact fu.nb e m h
 | .und,y,a=>by
  unfold dK at a;rcases a with rfl|rfl<;>(unfold NB;trivial)
 | .unk,y,a=>by unfold dK at a;subst a;unfold NB;trivial
theorem fu.nb{L:Nat}{ren:List (Nat×Nat)}{bV:List Nat}{U':Nat->Prop}(b:∀p∈ren,U' p.1)(c:∀n∈bV,U' n):∀{l l':List AV},fu L σ ren bV l l'->bN U' l'
 |[],l',a=>by unfold fu at a;subst a;unfold bN;trivial
 |x::l,l',a=>by
  unfold fu at a;obtain⟨y,r,rfl,d,e⟩:=a;unfold bN;exact⟨dK.nb b c d,fu.nb b c e⟩
end

theorem fu.getD{L:Nat}{ren:List (Nat×Nat)}{bV:List Nat}:∀{l l':List AV},fu L σ ren bV l l'->l'.length=l.length/\ ∀t,dK L σ ren bV (l.getD t .und) (l'.getD t .und)
 |[],l',a=>by unfold fu at a;subst a;exact⟨rfl,fun t=>by simp only[List.getD_nil];unfold dK;exact .inr rfl⟩
 |x::l,l',a=>by
  unfold fu at a;obtain⟨y,r,rfl,b,c⟩:=a;obtain⟨d,e⟩:=fu.getD c;refine⟨by simp[d],fun t=>?_⟩;cases t with
  |zero=>simpa using b
  |succ t=>simpa using e t

theorem eB.empty{e:TypeId}{es:Nat}{mask:List (Option TypeId)}{u:Value}{r:Nat->Nat->Value}(b:0<es)(c:mask.length<=es)(a:Own w e es u 0 []):eB F w e es mask [] u r none:=
 ⟨b,c,by simp,⟨[],a,by simp,by simp⟩,fun k j k' j' h=>absurd h.1 (by simp),fun k j h=>absurd h.1 (by simp)⟩

theorem dw.NM{n o b:Nat}{x y:bH}{ren:List (Nat×Nat)}{bV fr:List Nat}{L:Nat}(p:σ o=some x)(a:JX L σ ren bV fr n o x y)(f:jy κ σ ren n=tk κ σ o)(h:dw (jy κ σ ren) n y b):dw κ o x b/\ (o∈fr->blk (κ o).v=some b):=by
 rcases h with h|h
 ·rw[f,jw]at h;exact⟨.inl h,fun _=>h⟩
 ·cases x with
  |box T l=>
   rcases a with⟨l',rfl,_⟩|⟨_,⟨E,rfl⟩,_⟩
   ·exact h.elim
   ·have h:blk ((jy κ σ ren n).r 0 0)=some b:=h;rw[f]at h;unfold tk at h;rw[p]at h;simp[blk]at h
  |gF T E l g=>
   obtain⟨rfl,m⟩:=a;have h:blk ((jy κ σ ren n).r 0 0)=some b:=h;rw[f]at h;unfold tk at h;rw[p]at h;exact⟨.inr h,fun d=>absurd d m⟩
  |mp t l=>
   have a:y=.mp t l:=a;subst a;exact h.elim
  |arr e es l=>
   rcases a with a|⟨_,mask,a,_⟩
   ·subst a;exact h.elim
   ·subst a;obtain⟨k,j,i,_⟩:=h;exact absurd i.1 (by simp)
  |tab e es mask l g hole=>
   rcases a with⟨a,c⟩|⟨_,a,c⟩
   ·subst a;obtain⟨k,j,i,d⟩:=h;rw[f,wh (t:=⟨e,es,mask,l,hole⟩) (g:=g) (by unfold gM;rw[p];simp)]at d;exact⟨.inr ⟨k,j,i,d⟩,fun m=>absurd m c⟩
   ·subst a;exact h.elim

theorem NU{env Q:List AV}{nx H:Nat}(ren:List (Nat×Nat))(bV fr:List Nat)(os:List (Nat×bH))(J:xP cx ren bV)(ab:fu cx.L σ ren bV env Q)
  (Z:∀p∈os,(∃o x,(p.1,o)∈ren/\ σ o=some x/\ JX cx.L σ ren bV fr p.1 o x p.2) \/(p.1∈bV/\ ∃e es,0<es/\ (p.2=.arr e es [] \/∃mask,p.2=.tab e es mask [] p.1 none/\ mask.length<=es))) (I:∀p∈ren,p.1<H) (h2:∀n∈bV,n<H)
  :
  Wk cx ⟨env,σ,nx⟩ ⟨Q,obs os,H⟩:=by
 intro κ F a w ad;obtain⟨he,m⟩:=ad;obtain⟨hl,hg⟩:=ab.getD;have B:∀{n V o:Nat},(n,o)∈ren->(V,o)∈ren->n=V:=by
  intro n V o s Y;have:∀{l:List (Nat×Nat)},(l.map Prod.snd).Nodup->(n,o)∈l->(V,o)∈l->n=V:=by
   intro l
   induction l with
   |nil=>intro _ h _;cases h
   |cons p l ih=>
    intro O h h';simp only[dX,jW]at O;rcases dY.1 h with h|h
    ·rcases dY.1 h' with h'|h'
     ·rw[<-h]at h';cases h';rfl
     ·exact absurd (by rw[<-h];exact jE.2 ⟨(V,o),h',rfl⟩) O.1
    ·rcases dY.1 h' with h'|h'
     ·exact absurd (by rw[<-h'];exact jE.2 ⟨(n,o),h,rfl⟩) O.1
     ·exact ih O.2 h h'
  exact this J.old s Y
 have D:∀n y,obs os n=some y->∀b,dw (jy κ σ ren) n y b->∃o x,(n,o)∈ren/\ σ o=some x/\ dw κ o x b/\ (o∈fr->blk (κ o).v=some b):=by
  intro n y P b hb;rcases Z _ (zo P)with⟨o,x,s,z,c⟩|⟨hn,e,es,K,d⟩
  ·obtain⟨g1,g2⟩:=dw.NM z c (ql J.new s) hb;exact⟨o,x,s,z,g1,g2⟩
  ·exfalso;rcases hb with hb|hb
   ·rw[Dz (J.nil n hn)]at hb;simp[sO,blk]at hb
   ·rcases d with d|⟨mask,d,_⟩
    ·simp only[]at d;subst d;exact hb.elim
    ·simp only[]at d;subst d;obtain⟨k,j,I,_⟩:=hb;exact absurd I.1 (by simp)
 refine⟨jy κ σ ren,uq cx κ F σ ren fr,fun b hb=>.inl hb,⟨⟨?_,he.qp,fun t=>?_,fun t=>?_⟩,⟨fun n y P=>?_,fun n y P=>?_,fun n y P b hb=>?_,fun n y V y' P d ah b hb C=>?_,fun b hb=>?_,m.kB,m.gB,m.bs,m.inv.mono (fun b hb=>.inl hb) (fun _ _=>rfl),fun j hj=>?_⟩⟩⟩
 ·rw[he.size];exact hl.symm
 ·exact dK.rv m J (hg t) (he.rv t)
 ·exact dK.nb (U':=(· <H)) I h2 (hg t)
 ·rcases Z _ (zo P)with⟨o,x,s,z,c⟩|⟨hn,e,es,K,d⟩
  ·have G:=m.ok o x z;have R:=ql (κ:=κ) (σ:=σ) J.new s;cases x with
   |box T l=>
    obtain⟨b,arr,q,A,i⟩:=G;rcases c with⟨l',c,X⟩|⟨rfl,⟨E,c⟩,_⟩
    ·have c:y=.box T l':=c;subst c;exact⟨b,arr,by rw[R,jw];exact q,A,fu.uD m J X i⟩
    ·have c:y=.gF T E [] n:=c;subst c;have W:jy κ σ ren n=⟨(κ o).v,fun _ _=>.slice none 0 0⟩:=by rw[R];unfold tk;rw[z]
     show qJ w T E (jy κ σ ren n).v ((jy κ σ ren n).r 0 0) [];rw[W];unfold bQ at i;obtain⟨u,us,e1,_,e2,i⟩:=i;unfold bQ at i;obtain⟨u2,am,rfl,_,e3,i⟩:=i;unfold bQ at i;subst i;unfold RV RD at e2 e3;have aa:arr= #[.pointer none,.slice none 0 0]:=by
      apply qA;rw[e1,e2.1,e3.1];rfl
     subst aa;exact⟨b,_,q,A,.inl rfl,World.ownsRow_nil w 0 E 1,by simp[blk]⟩
   |gF T E l g=>
    obtain⟨c,_⟩:=(show y=.gF T E l n/\ _ from c);subst c;have W:jy κ σ ren n=⟨(κ o).v,(κ g).r⟩:=by rw[R];unfold tk;rw[z]
    show qJ w T E (jy κ σ ren n).v ((jy κ σ ren n).r 0 0) l;rw[W];exact G
   |mp t l=>
    have c:y=.mp t l:=c;subst c;show nP w (jy κ σ ren n).v l;rw[R,jw];exact G
   |arr e es l=>
    obtain⟨us,q,A,i⟩:=G;rcases c with c|⟨rfl,mask,c,N⟩
    ·simp only[]at c;subst c;exact⟨us,by rw[R,jw];exact q,RE.mono (fun b hb=>.inl hb) (fun _ _=>rfl) A,i⟩
    ·simp only[]at c;subst c;refine eB.empty i N ?_;rw[R,jw];unfold RE at A;rw[A]at q;exact q
   |tab e es mask l g hole=>
    have ht:eB F w e es mask l (κ o).v (κ g).r hole:=G;rcases c with⟨c,M⟩|⟨rfl,c,M⟩
    ·simp only[]at c;subst c;show eB _ w e es mask l (jy κ σ ren n).v (jy κ σ ren n).r hole;rw[R,jw,wh (t:=⟨e,es,mask,l,hole⟩) (g:=g) (by unfold gM;rw[z];simp)];exact ht.mono (fun b hb=>.inl hb) (fun _ _=>rfl) (fun _ _=>rfl) (fun _ _ _ _ _=>rfl)
    ·simp only[]at c;subst c;obtain⟨us,ac,aj⟩:=ht.re (F':=uq cx κ F σ ren fr) (fun b hb=>.inl hb) fun k j ai b hb=>.inr (.inr ⟨o,M,e,es,mask,l,g,k,j,z,ai,hb⟩);exact⟨us,by rw[R,jw];exact ac,aj,ht.pos⟩
  ·have S:(jy κ σ ren n).v=.slice none 0 0:=by rw[Dz (J.nil n hn)];rfl
   rcases d with d|⟨mask,d,N⟩
   ·simp only[]at d;subst d;refine⟨[],?_,by unfold RE;rfl,K⟩;rw[S];exact Own.nil w e es
   ·simp only[]at d;subst d;refine eB.empty K N ?_;rw[S];exact Own.nil w e es
 ·rcases Z _ (zo P)with⟨o,x,s,z,c⟩|⟨hn,e,es,K,d⟩
  ·refine⟨I _ s,?_⟩;cases x with
   |box T l=>
    rcases c with⟨l',e',X⟩|⟨_,⟨E,e'⟩,_⟩
    ·subst e';exact fu.nb (U':=(· <H)) I h2 X
    ·have e':y=.gF T E [] n:=e';subst e';exact I _ s
   |gF T E l g=>
    obtain⟨e',_⟩:=(show y=.gF T E l n/\ _ from c);subst e';exact I _ s
   |mp t l=>
    have e':y=.mp t l:=c;subst e';trivial
   |arr e es l=>
    rcases c with c|⟨_,mask,c,_⟩
    ·simp only[]at c;subst c;trivial
    ·simp only[]at c;subst c;exact I _ s
   |tab e es mask l g hole=>
    rcases c with⟨c,_⟩|⟨_,c,_⟩
    ·simp only[]at c;subst c;exact I _ s
    ·simp only[]at c;subst c;trivial
  ·refine⟨h2 n hn,?_⟩;rcases d with d|⟨mask,d,N⟩
   ·simp only[]at d;subst d;trivial
   ·simp only[]at d;subst d;exact h2 n hn
 ·obtain⟨o,x,s,z,C,M⟩:=D n y P b hb;obtain⟨g1,g2,g3⟩:=m.free o x z b C;refine⟨fun hF=>?_,g2,g3⟩;rcases hF with hF|⟨o',es,l,x',q,_,A,i,k4⟩|⟨o',k0,e,es,mask,l,g,k,j,q,A,i⟩
  ·exact g1 hF
  ·exact m.apart o x o' x' z q (fun e'=>A (e'▸List.mem_map_of_mem (f:=Prod.snd) s)) b C k4
  ·by_cases e':o=o'
   ·subst e';have ht:eB F w e es mask l (κ o).v (κ g).r none:=m.ok o _ q;exact ht.outer k j A b i (M k0)
   ·exact m.apart o x o' _ z q e' b C (.inr ⟨k,j,A,i⟩)
 ·obtain⟨o,x,s,z,ae,_⟩:=D n y P b hb;obtain⟨o',x',Y,ak,af,_⟩:=D V y' d b C;exact m.apart o x o' x' z ak (fun e'=>ah (by subst e';exact B s Y)) b ae af
 ·rcases hb with hb|⟨o,es,l,x,q,_,A,i,k4⟩|⟨o,k0,e,es,mask,l,g,k,j,q,A,i⟩
  ·exact m.fG b hb
  ·exact⟨(m.free o _ q b k4).2.2,kX m q k4⟩
  ·have hB:dw κ o (.tab e es mask l g none) b:=.inr ⟨k,j,A,i⟩;exact⟨(m.free o _ q b hB).2.2,kX m q hB⟩
 ·refine⟨I _ (J.sH j hj),?_⟩;rw[ql J.new (J.sH j hj)];rw[jw];exact(m.lt j hj).2

end
end
section

mutual
def AV.names:AV->List Nat
 | .own o| .ref o _| .eref o _ _ _| .row o _ _ _| .fH o _ _ _ _ _ _| .vw o _ _ _ _ _ _=>[o]
 | .aggv l| .tup l| .fn _ l=>dB l
 |_=>[]
def dB:List AV->List Nat
 |[]=>[]
 |x::l=>x.names++dB l
end

def jd4(e:Operand->AV):Callee->List Nat
 | .value c=>(e c).names
 |_=>[]
def ja7(e:Operand->AV)(o:Oper):List Nat:=
 match o.op with
 | .load _ a=>(e a).names
 | .store _ a x=>match e a with
  | .eref o _ _ _=>o::(e x).names
  |y=>y.names
 | .buildSlice _ _ b=>dB (b.toList.map fun p=>e p.2)
 | .indexAddr _ x _=>(e x).names
 | .lookup _ x _ _=>(e x).names
 | .mapUpdate _ x _ _=>(e x).names
 | .convert _ _ x=>(e x).names
 | .slice _ x _ _ _=>(e x).names
 | .call {callee,args,..}=>dB (args.toList.map e)++jd4 e callee
 |_=>[]

def inn(σ:bJ):List Nat->List Nat
 |[]=>[]
 |o::r=>(match σ o with
  |some (.box _ l)=>mY l
  |_=>[])++inn σ r
def qB(σ:bJ)(e:Operand->AV)(o:Oper):List Nat:=
 match o.op with
 | .call {callee:=.value _,..}=>inn σ (ja7 e o)
 |_=>[]
def fQ(σ:bJ)(e:Operand->AV)(o:Oper):List Nat:=ja7 e o++qB σ e o
def yH(ls:List Pt):Bool:=Nat.blt 0 (Pt.ns ls)
def Bo:List AV->Bool
 |[]=>true
 | .dat _::l| .own _::l| .ref _ _::l| .und::l| .unk::l=>Bo l
 |_=>false
def wH(σ:bJ)(n:Nat):Bool:=match σ n with
 |some (.box _ l)=>Bo l
 |_=>false
def uK(σ:bJ)(kp ns ls:List Nat):List Nat:=(kp.filterMap fun j=>ns[j]?).filter fun n=>bif ls.any (fun m=>Nat.beq n m)then wH σ n else false
def lV(Γ:Nat->Option dJ)(σ:bJ)(e:Operand->AV)(o:Oper):List Nat:=
 match o.op with
 | .call {callee:=.value (.func f),args,..}=>match Γ f with
  |some S=>match fM σ S.lend (args.toList.map e)with
   |some (_,ns,_)=>uK σ S.kp ns (dB (args.toList.map e))
   |none=>[]
  |none=>[]
 |_=>[]

def GA(ty:TypeId->Option bD)(t:TypeId):Bool:=match ty t with
 |some {desc:=.array _ _,..}=>true
 |_=>false

def iO(ty:TypeId->Option bD)(Γ:Nat->Option dJ)(o:Oper):Bool:=
 match o.op with
 | .store ..=>true
 | .mapUpdate ..=>true
 | .slice t _ _ _ _=>(iY ty t).isSome||GA ty t
 | .buildSlice t _ _=>match iY ty t with
  |some (el,_)=>ju2 ty el
  |none=>false
 | .call {callee:=.builtin .append,..}=>true
 | .call {callee:=.value (.func f),..}=>match Γ f with
  |some S=>yH S.lend
  |none=>false
 | .call {callee:=.value _,..}=>true
 |_=>false

def oJ(Γ:Nat->Option dJ)(σ:bJ)(e:Operand->AV)(o:Oper):List Nat:=
 match o.op with
 | .call {callee:=.value (.func f),args,..}=>match Γ f with
  |some S=>match fM σ S.lend (args.toList.map e)with
   |some (_,ns,_)=>S.kc.filterMap fun p=>match ns[p.1]? with
    |some n=>bif Nat.blt p.2 1000 then some (n*1000+p.2)else none
    |none=>none
   |none=>[]
  |none=>[]
 |_=>[]
section
variable{P:Program}{cx:Cx}{κ:dx}{F:Nat->Prop}{w:World}{U:Nat->Prop}{nm:Nat}{σ σ':bJ}{ty:TypeId->Option bD}{Γ:Nat->Option dJ}

theorem DI:∀(l l':List AV),dB (l++l')=dB l++dB l'
 |[],l'=>rfl
 |x::l,l'=>by
  simp only[lD];have a:dB (x::(l++l'))=x.names++dB (l++l'):=by conv=>lhs;unfold dB
  have b:dB (x::l)=x.names++dB l:=by conv=>lhs;unfold dB
  rw[a,b,DI l l',eU]
theorem Qo{l:List AV}{x:AV}(hx:x∈l):∀n∈x.names,n∈dB l:=by
 induction l with
 |nil=>cases hx
 |cons y l b=>
  intro n a;unfold dB;rcases dY.1 hx with rfl|hx
  ·exact iI _ a
  ·exact jX _ (b hx n a)

theorem IG:∀{l:List Nat},(∀n∈l,σ' n=σ n)->inn σ' l=inn σ l
 |[],_=>rfl
 |o::l,h=>by
  unfold inn;rw[h o (dU ..),IG (l:=l) fun n a=>h n (dZ _ a)]
theorem OG{l:List Nat}{o n:Nat}{cs:List AV}{T:TypeId}(ho:o∈l)(c:σ o=some (.box T cs))(b:n∈mY cs):n∈inn σ l:=by
 induction l with
 |nil=>cases ho
 |cons a l d=>
  unfold inn;rcases dY.1 ho with rfl|ho
  ·rw[c];exact iI _ b
  ·exact jX _ (d ho)
theorem Jl:∀{l:List AV},(∀n∈dB l,σ' n=σ n)->jL.go σ' l=jL.go σ l
 |[],_=>rfl
 |x::l,h=>by
  have b:=Jl (l:=l) (fun n a=>h n (by unfold dB;exact jX _ a));have c:∀n∈x.names,σ' n=σ n:=fun n a=>h n (by unfold dB;exact iI _ a);cases x with
  |dat d=>simp only[jL.go,b]
  |own o=>simp only[jL.go,b,mP,c o (by simp[AV.names])]
  |_=>simp only[jL.go]

theorem Qu{x:AV}(h:∀n∈x.names,σ' n=σ n):jL σ' x=jL σ x:=by
 cases x with
 |own o=>simp only[jL,mP,h o (by simp[AV.names])]
 |aggv l=>simp only[jL,Jl (l:=l) (fun n a=>h n (by unfold AV.names;exact a))]
 |_=>rfl

theorem Jm{es:Nat}{x:AV}(h:∀n∈x.names,σ' n=σ n):lS σ' es x=lS σ es x:=by
 cases x with
 |own o=>simp only[lS,h o (by simp[AV.names])]
 |dat d=>
  cases d with
  |sc v=>
   cases v
   case slice a n c=>cases a<;>cases n<;>cases c<;>rfl
   all_goals rfl
  |_=>rfl
 |_=>rfl

theorem Qv{x:AV}(h:∀n∈x.names,σ' n=σ n):nM σ' x=nM σ x:=by
 cases x with
 |vw o g k j es lo n=>simp only[nM,gM,h o (by simp[AV.names])]
 |_=>exact Qu h
mutual
theorem PL:∀(p:Pt)(x:AV),(∀n∈x.names,σ' n=σ n)->dN σ' p x=dN σ p x
 | .rd,x,h=>by unfold dN;rw[Qv h]
 | .zr,x,h=>by cases x<;>rfl
 | .sl,x,h=>by cases x<;>rfl
 | .bx,x,h=>by
  cases x with
  |ref o i=>cases i<;>simp only[dN]
  |_=>simp only[dN]
 | .bo k,x,h=>by
  cases x with
  |ref o i=>cases i<;>simp only[dN,h o (by simp[AV.names])]
  |_=>simp only[dN]
 | .ag l,x,h=>by
  cases x with
  |aggv xs=>
   have:=vF l xs (by unfold AV.names at h;exact h);simp only[dN,this]
  |_=>simp only[dN]
 | .fn f l,x,h=>by
  cases x with
  |fn a xs=>
   have:=vF l xs (by unfold AV.names at h;exact h);simp only[dN,this]
  |_=>simp only[dN]
theorem vF:∀(ls:List Pt)(xs:List AV),(∀n∈dB xs,σ' n=σ n)->fM σ' ls xs=fM σ ls xs
 |[],[],_=>by simp only[fM]
 |[],x::xs,_=>by simp only[fM]
 |p::ls,[],_=>by simp only[fM]
 |p::ls,x::xs,h=>by
  have c:=vF ls xs (fun n a=>h n (by unfold dB;exact jX _ a));have b:=PL p x (fun n a=>h n (by unfold dB;exact iI _ a));simp only[fM,c,b]
end
theorem Jd:∀(l l':List Nat),inn σ (l++l')=inn σ l++inn σ l'
 |[],l'=>rfl
 |o::l,l'=>by
  simp only[lD];have a:∀r:List Nat,inn σ (o::r)=(match σ o with
   |some (.box _ l)=>mY l
   |_=>[])++inn σ r:=fun r=>by conv=>lhs;unfold inn
  rw[a,a,Jd l l',eU]
mutual
theorem PN:∀(p:Pt)(x:AV)(d:D)(ns rd:List Nat),dN σ p x=some (d,ns,rd)->∀n∈ns,n∈x.names++inn σ x.names
 | .rd,x,d,ns,rd,h=>by
  unfold dN at h;split at h
  ·cases h;simp
  ·cases h
 | .zr,x,d,ns,rd,h=>by
  cases x with
  |dat j=>
   simp only[dN,bU,eY]at h;obtain⟨rfl,rfl,rfl⟩:=h;simp
  |_=>simp[dN]at h
 | .sl,x,d,ns,rd,h=>by
  cases x with
  |own o=>
   simp only[dN,bU,eY]at h;obtain⟨rfl,rfl,rfl⟩:=h;simp[AV.names]
  |_=>simp[dN]at h
 | .bx,x,d,ns,rd,h=>by
  cases x with
  |ref o i=>
   cases i with
   |zero=>
    simp only[dN,bU,eY]at h;obtain⟨rfl,rfl,rfl⟩:=h;simp[AV.names]
   |succ i=>simp[dN]at h
  |_=>simp[dN]at h
 | .bo k,x,d,ns,rd,h=>by
  obtain⟨o,T,l,rfl,g,_,_,rfl,_⟩:=yV h;intro n hn;rcases dY.1 hn with rfl|hn
  ·exact iI _ (by simp[AV.names])
  ·exact jX _ (OG (by simp[AV.names]) g hn)
 | .ag l,x,d,ns,rd,h=>by
  cases x with
  |aggv xs=>
   unfold dN at h;split at h
   ·rename_i ds b c a;cases h;unfold AV.names;exact vG l xs ds ns rd a
   ·cases h
  |_=>simp[dN]at h
 | .fn f l,x,d,ns,rd,h=>by
  cases x with
  |fn e xs=>
   unfold dN at h;split at h
   ·rename_i ds b c a;cases hb:Nat.beq f e with
    |false=>rw[hb]at h;cases h
    |true=>
     rw[hb]at h;cases h;unfold AV.names;exact vG l xs ds ns rd a
   ·cases h
  |_=>simp[dN]at h
theorem vG:∀(ls:List Pt)(xs:List AV)(ds:List D)(ns rd:List Nat),fM σ ls xs=some (ds,ns,rd)->∀n∈ns,n∈dB xs++inn σ (dB xs)
 |[],[],ds,ns,rd,h=>by simp[fM]at h;obtain⟨_,rfl,_⟩:=h;simp
 |[],x::xs,ds,ns,rd,h=>by simp[fM]at h
 |p::ls,[],ds,ns,rd,h=>by simp[fM]at h
 |p::ls,x::xs,ds,ns,rd,h=>by
  unfold fM at h;split at h
  ·rename_i d b e a c f g i;cases h;intro n hn;unfold dB;rw[Jd];rcases fA.1 hn with hn|hn
   ·rcases fA.1 (PN p x d b e g n hn)with hn|hn
    ·exact iI _ (iI _ hn)
    ·exact jX _ (iI _ hn)
   ·rcases fA.1 (vG ls xs a c f i n hn)with hn|hn
    ·exact iI _ (jX _ hn)
    ·exact jX _ (jX _ hn)
  ·cases h
end
theorem QH{ls:List Pt}{xs:List AV}{ds:List D}{ns rd:List Nat}(h:fM σ ls xs=some (ds,ns,rd))(a:yH ls=false):ns=[]:=by
 have c:=yX ls xs ds ns rd h;unfold yH at a;have:Pt.ns ls=0:=by
  cases b:Pt.ns ls with
  |zero=>rfl
  |succ m=>rw[b]at a;cases a
 exact rM (by omega)

theorem Jp{f:Nat->Nat}:∀{ns:List Nat},(∀n∈ns,σ' n=σ n)->oM σ' f ns=oM σ f ns
 |[],_=>rfl
 |o::ns,h=>by simp only[oM,h o (dU ..),Jp (ns:=ns) (fun n a=>h n (dZ _ a))]
theorem Rp{ns:List Nat}(h:∀n∈ns,σ' n=σ n):oP σ' ns=oP σ ns:=Jp h

mutual
theorem QU:∀(p:Pt)(x:AV),(∀n∈x.names,σ' n=σ n)->rowP σ' p x=rowP σ p x
 | .rd,x,h=>by
  cases x with
  |vw o g k j es lo n=>simp only[rowP,gM,h o (by simp[AV.names])]
  |_=>rfl
 | .zr,x,h=>by cases x<;>rfl
 | .sl,x,h=>by cases x<;>rfl
 | .bx,x,h=>by cases x<;>rfl
 | .bo k,x,h=>by cases x<;>rfl
 | .ag l,x,h=>by
  cases x with
  |aggv xs=>simp only[rowP];exact zV l xs fun n a=>h n (by unfold AV.names;exact a)
  |_=>rfl
 | .fn f l,x,h=>by
  cases x with
  |fn b xs=>simp only[rowP];exact zV l xs fun n a=>h n (by unfold AV.names;exact a)
  |_=>rfl
theorem zV:∀(ls:List Pt)(xs:List AV),(∀n∈dB xs,σ' n=σ n)->jO σ' ls xs=jO σ ls xs
 |[],xs,_=>by unfold jO;rfl
 |_::_,[],_=>by unfold jO;rfl
 |p::ls,x::xs,h=>by
  unfold jO;rw[QU p x fun n a=>h n (by unfold dB;exact iI _ a),zV ls xs fun n a=>h n (by unfold dB;exact jX _ a)]
end
theorem QI{f:Nat}{xs:List AV}{b:List TypeId}(h:∀n∈dB xs++inn σ (dB xs),σ' n=σ n):kD ty Γ σ' nm f xs b=kD ty Γ σ nm f xs b:=by
 unfold kD;cases Γ f with
 |none=>rfl
 |some S=>
  simp only[vF S.lend xs fun n c=>h n (iI _ c),zV S.lend xs fun n c=>h n (iI _ c)];cases a:fM σ S.lend xs with
  |none=>rfl
  |some t=>
   obtain⟨ds,ns,rd⟩:=t;simp only[gW];have:=Rp (σ:=σ) (σ':=σ') (ns:=ns) (fun n c=>h n (vG S.lend xs ds ns rd a n c));simp only[this]

theorem vD{o g:Nat}(h:σ' o=σ o):gM σ' o g=gM σ o g:=by unfold gM;rw[h]
theorem R6{T:bD}{o es k j:Nat}(h:σ' o=σ o):nu σ' T o es k j=nu σ T o es k j:=by unfold nu;rw[h]
theorem R9{T:bD}{o g k j es i c:Nat}(h:σ' o=σ o):nR σ' T o g k j es i c=nR σ T o g k j es i c:=by unfold nR;rw[vD h]
theorem Sg{o g k j es i c:Nat}{ds:List D}(h:σ' o=σ o):nV ty σ' o g k j es i c ds=nV ty σ o g k j es i c ds:=by unfold nV;rw[vD h]
theorem Sb{E:bD}{o g k j:Nat}{n:Int}(h:σ' o=σ o):qg σ' E o g k j n=qg σ E o g k j n:=by unfold qg;rw[vD h]
theorem Sd{E:bD}{o g k j:Nat}{l a:Int}(h:σ' o=σ o):qU σ' E o g k j l a=qU σ E o g k j l a:=by unfold qU;rw[vD h]
theorem RJ{o g k j:Nat}(h:σ' o=σ o):p8 σ' o g k j=p8 σ o g k j:=by unfold p8;rw[vD h]
theorem jeb{o g:Nat}{mask:List (Option TypeId)}{hole:Option (Nat×Nat)}{d:D}:∀{cs:List AV}{j:Nat},(∀n∈dB cs,σ' n=σ n)->oQ ty σ' o g mask hole d j cs=oQ ty σ o g mask hole d j cs
 |[],j,_=>rfl
 |x::cs,j,h=>by
  have f:=jeb (o:=o) (g:=g) (mask:=mask) (hole:=hole) (d:=d) (cs:=cs) (j:=j+1) (fun n b=>h n (by unfold dB;exact jX _ b));have e:∀n∈x.names,σ' n=σ n:=fun n b=>h n (by unfold dB;exact iI _ b);unfold oQ;rw[f];cases x with
  |own n=>simp only[e n (by simp[AV.names])]
  |dat d=>
   cases d with
   |sc v=>
    cases v
    case slice a n c=>cases a<;>cases n<;>cases c<;>rfl
    all_goals rfl
   |_=>rfl
  |_=>rfl
theorem Jo:∀{l:List D},dB (l.map .dat)=[]
 |[]=>rfl
 |d::l=>by
  simp only[dX];unfold dB;rw[Jo];simp[AV.names]
theorem xG{x:AV}{cs:List AV}(h:x.cells=some cs):∀n∈dB cs,n∈x.names:=by
 have a:∀{y:AV},∀n∈dB [y],n∈y.names:=fun{y} n b=>by unfold dB at b;simpa[dB]using b
 intro n b;cases x with
 |dat d=>
  cases d with
  |agg l=>simp only[AV.cells,bU]at h;subst h;rw[Jo]at b;cases b
  |sc v=>simp only[AV.cells,bU]at h;subst h;exact a n b
  |sl e l=>simp only[AV.cells,bU]at h;subst h;exact a n b
 |aggv l=>simp only[AV.cells,bU]at h;subst h;unfold AV.names;exact b
 |tup l=>simp[AV.cells]at h
 |und=>simp[AV.cells]at h
 |unk=>simp[AV.cells]at h
 |_=>simp only[AV.cells,bU]at h;subst h;exact a n b
theorem Sw{o es k j:Nat}{cs:List AV}(h:σ' o=σ o)(hc:∀n∈dB cs,σ' n=σ n):nW ty σ' nm o es k j cs=nW ty σ nm o es k j cs:=by
 unfold nW;rw[h];split
 ·rw[jeb hc]
 ·rfl
theorem SG{el:TypeId}{E:bD}{s:AV}{b:Nat}(h:σ' b=σ b)(hs:∀n∈s.names,σ' n=σ n):qm σ' nm el E s b=qm σ nm el E s b:=by
 unfold qm;rw[h];cases s with
 |own o=>simp only[hs o (by simp[AV.names])]
 |dat d=>
  cases d with
  |sc v=>
   cases v
   case slice a n c=>cases a<;>cases n<;>cases c<;>rfl
   all_goals rfl
  |_=>rfl
 |_=>rfl
theorem SA{el:TypeId}{E:bD}{o g k j:Nat}{a:List D}{rd:List Nat}(h:σ' o=σ o):oZ σ' nm el E o g k j a rd=oZ σ nm el E o g k j a rd:=by unfold oZ;rw[vD h]
theorem Jy:∀{cs:List AV},(∀n∈dB cs,σ' n=σ n)->jP σ' cs=jP σ cs
 |[],_=>rfl
 |x::cs,h=>by
  have b:=Jy (cs:=cs) (fun n a=>h n (by unfold dB;exact jX _ a));have c:∀n∈x.names,σ' n=σ n:=fun n a=>h n (by unfold dB;exact iI _ a);cases x with
  |own n=>unfold jP;simp only[b,c n (by simp[AV.names])]
  |_=>unfold jP;rw[b]
theorem JD{mask:List (Option TypeId)}{agg:Bool}{es:Nat}:∀{ps:List (Nat×AV)}{k:Nat},(∀n∈dB (ps.map (·.2)),σ' n=σ n)->lK ty σ' nm mask agg es k ps=lK ty σ nm mask agg es k ps
 |[],k,_=>rfl
 |(i,x)::ps,k,h=>by
  have c:=JD (mask:=mask) (agg:=agg) (es:=es) (ps:=ps) (k:=k+1) (fun n a=>h n (by simp only[dX];unfold dB;exact jX _ a));have b:∀n∈x.names,σ' n=σ n:=fun n a=>h n (by simp only[dX];unfold dB;exact iI _ a);unfold lK;rw[c];cases hc:x.cells with
  |none=>rfl
  |some cs=>simp only[jeb (σ:=σ) (σ':=σ') (cs:=cs) (fun n a=>b n (xG hc n a))]
theorem Rj{t:TypeId}{len:Nat}{ps:List (Nat×AV)}(h:∀n∈dB (ps.map (·.2)),σ' n=σ n):qX ty σ' nm t len ps=qX ty σ nm t len ps:=by
 have a:jP σ' (nA ps)=jP σ (nA ps):=by
  cases ps with
  |nil=>rfl
  |cons p ps=>
   obtain⟨i,x⟩:=p;show jP σ' (x.cells.getD [])=jP σ (x.cells.getD []);cases hc:x.cells with
   |none=>rfl
   |some cs=>exact Jy fun n b=>h n (by simp only[dX];unfold dB;exact iI _ (xG hc n b))
 unfold qX;simp only[a,JD h]

theorem Jj{x:AV}(h:∀n∈x.names,σ' n=σ n):sD σ' x=sD σ x:=by
 cases x with
 |own o=>simp only[sD,h o (by simp[AV.names])]
 |_=>rfl
theorem RZ{e:Operand->AV}{o:Oper}(G:∀n∈fQ σ e o,σ' n=σ n):spec ty Γ σ' e nm o=spec ty Γ σ e nm o:=by
 have h:∀n∈ja7 e o,σ' n=σ n:=fun n C=>G n (iI _ C);obtain⟨H,L,D,pos,z,A⟩:=o;cases L with
 |load t a=>
  unfold spec;simp only[];simp only[ja7]at h;unfold jQ;cases u:e a with
  |ref ob i=>rw[u]at h;simp only[h ob (by simp[AV.names])]
  |eref ob es k j=>rw[u]at h;simp only[h ob (by simp[AV.names]),R6 (h ob (by simp[AV.names]))]
  |fH ob g k j es i c=>rw[u]at h;simp only[R9 (h ob (by simp[AV.names]))]
  |_=>rfl
 |store t a x=>
  unfold spec;simp only[];simp only[ja7]at h;unfold nZ;cases u:e a with
  |ref ob i=>rw[u]at h;simp only[h ob (by simp[AV.names])]
  |eref ob es k j=>
   rw[u]at h;cases hc:(e x).cells with
   |none=>cases ty t<;>rfl
   |some cs=>
    cases ty t with
    |none=>rfl
    |some T=>simp only[h ob (dU ..),Sw (σ:=σ) (σ':=σ') (h ob (dU ..)) (fun n C=>h n (dZ _ (xG hc n C)))]
  |fH ob g k j es i c=>rw[u]at h;simp only[Sg (h ob (by simp[AV.names]))]
  |_=>rfl
 |buildSlice t len M=>
  unfold spec;simp only[];simp only[ja7]at h;exact Rj fun n C=>h n (by rw[uf]at C;exact C)
 |indexAddr t x i=>
  unfold spec;simp only[];simp only[ja7]at h;unfold qj;cases u:e x with
  |own ob=>rw[u]at h;simp only[h ob (by simp[AV.names])]
  |row ob g k j=>rw[u]at h;simp only[Sb (h ob (by simp[AV.names]))]
  |dat d=>cases iY ty t<;>cases fE (e i)<;>cases d<;>rfl
  |_=>rfl
 |call c=>
  obtain⟨callee,args,argTypes⟩:=c;simp only[ja7]at h;cases callee with
  |value f=>
   unfold spec;simp only[];simp only[jd4]at h;cases J:e f with
   |fn g l=>
    have K:fQ σ e ⟨H,.call ⟨.value f,args,argTypes⟩,D,pos,z,A⟩=dB (args.toList.map e++l)++inn σ (dB (args.toList.map e++l)):=by
     have h0:ja7 e ⟨H,.call ⟨.value f,args,argTypes⟩,D,pos,z,A⟩=dB (args.toList.map e++l):=by
      simp only[ja7,jd4,J];rw[DI]
      conv=>lhs;arg 2;unfold AV.names
     simp only[fQ,qB];rw[h0]
    rw[K]at G;exact QI G
   |_=>rfl
  |invoke r m=>rfl
  |builtin b=>
   simp only[jd4,mD]at h;cases b
   case len=>
    unfold spec;simp only[];split
    ·rename_i x t G Q;rw[G]at h;simp only[dX,jv,dB,mD]at h;unfold tu;cases u:e x with
     |own ob=>rw[u]at h;simp only[h ob (by simp[AV.names])]
     |row ob g k j=>rw[u]at h;simp only[RJ (h ob (by simp[AV.names]))]
     |dat d=>
      cases ty t with
      |none=>rfl
      |some T=>
       obtain⟨desc,size,bytes,zero⟩:=T;cases desc
       case slice el=>
        cases d with
        |sc v=>
         cases v
         case slice a n c=>cases a<;>cases n<;>cases c<;>rfl
         all_goals rfl
        |_=>rfl
       all_goals rfl
     |_=>rfl
    ·rfl
   case append=>
    unfold spec;simp only[];split
    ·rename_i x y t V G Q;rw[G]at h;simp only[dX,jv,dB,mD]at h;have I:∀n∈(e x).names,σ' n=σ n:=fun n C=>h n (iI _ C);have O:∀es,lS σ' es (e y)=lS σ es (e y):=fun es=>Jm (fun n C=>h n (jX _ C));unfold vE;simp only[O];cases iY ty t with
     |none=>rfl
     |some p=>
      obtain⟨el,E⟩:=p;simp only[];split
      ·cases lS σ E.size (e y)with
       |none=>
        simp only[];cases R:e y with
        |own S=>exact SG (h S (jX _ (by rw[R];simp[AV.names]))) I
        |_=>rfl
       |some q=>
        cases u:e x with
        |own ob=>rw[u]at I;simp only[I ob (by simp[AV.names])]
        |row ob g k j=>rw[u]at I;exact SA (I ob (by simp[AV.names]))
        |dat d=>
         cases d with
         |sc v=>
          cases v
          case slice a n c=>cases a<;>cases n<;>cases c<;>rfl
          all_goals rfl
         |_=>rfl
        |_=>rfl
      ·rfl
    ·rfl
   all_goals rfl
 |unOp L t x=>cases L<;>rfl
 |makeMap t r=>cases r<;>rfl
 |lookup t x i ok=>
  cases ok with
  |false=>rfl
  |true=>
   unfold spec;simp only[];simp only[ja7]at h;unfold vH;rw[Jj h]
 |mapUpdate t x i v=>
  unfold spec;simp only[];simp only[ja7]at h;unfold vI;rw[Jj h]
 |slice t x lo hi mx=>
  cases mx with
  |some m=>rfl
  |none=>
   unfold spec;simp only[];simp only[ja7]at h;unfold xD;cases ty t with
   |none=>rfl
   |some T=>
    obtain⟨desc,size,bytes,zero,q⟩:=T;cases desc
    case slice el=>
     cases pW (lo.map e)with
     |none=>rfl
     |some l=>
      simp only[];cases iY ty t with
      |none=>cases B:e x<;>rfl
      |some p=>
       obtain⟨a,E⟩:=p;cases B:e x with
       |own ob=>rw[B]at h;simp only[h ob (by simp[AV.names])]
       |row ob g k j=>rw[B]at h;simp only[Sd (h ob (by simp[AV.names]))]
       |dat d=>cases d<;>rfl
       |_=>rfl
    case array n el=>
     cases pW (lo.map e)with
     |none=>rfl
     |some l=>
      simp only[];cases lo.map e with
      |some _=>rfl
      |none=>
       cases hi.map e with
       |some _=>rfl
       |none=>
        simp only[];cases B:e x with
        |ref ob i=>
         rw[B]at h;cases i with
         |zero=>unfold wQ;simp only[h ob (by simp[AV.names])]
         |succ i=>rfl
        |_=>rfl
    all_goals (cases pW (lo.map e)<;>rfl)
 |makeFunc fn first N=>cases fn<;>rfl
 |convert s d x=>
  simp only[ja7]at h;unfold spec;simp only[];unfold uW;rw[Jm h]
 |_=>rfl

theorem Sr{e e':Operand->AV}{o:Oper}(h:∀x∈o.op.operands,e' x=e x):spec ty Γ σ e' nm o=spec ty Γ σ e nm o:=by
 obtain⟨v,s,u,pos,k,q⟩:=o;have d:∀ps:Array (Nat×Operand),(∀x∈ps.map (·.2),e' x=e x)->(ps.toList.map fun p=>(p.1,e' p.2))=(ps.toList.map fun p=>(p.1,e p.2)):=fun ps B=>
  ug fun p a=>by
   have:=B p.2 (Array.mem_map.2 ⟨p,rU.1 a,rfl⟩);simp only[this]
 cases s<;>simp only[Op.operands]at h<;>unfold spec<;>simp only[]
 case build t ps=>rw[d ps fun x j=>h x (by simpa using j)]
 case buildSlice t n ps=>rw[d ps fun x j=>h x (by simpa using j)]
 case slice t x lo hi mx=>cases lo<;>cases hi<;>cases mx<;>simp_all
 case unOp s t x=>cases s<;>simp_all
 case makeMap t r=>cases r<;>rfl
 case lookup t x i ok=>cases ok<;>simp_all
 case makeFunc fn first caps=>
  have hc:caps.toList.map e'=caps.toList.map e:=ug fun x j=>h x (vY.2 (.inr (rU.1 j)));cases fn<;>simp only[hc]
 case call c=>
  obtain⟨callee,args,argTypes⟩:=c;have a:∀x∈args.toList,e' x=e x:=fun x j=>h x (by unfold Call.operands;exact vY.2 (.inr (rU.1 j)));have g:args.toList.map e'=args.toList.map e:=ug a;cases callee with
  |value f=>
   have A:e' f=e f:=h f (by unfold Call.operands;exact vY.2 (.inl (by simp)));simp only[g,A]
  |invoke r m=>rfl
  |builtin b=>
   cases b
   case len=>
    simp only[];generalize args.toList=l at a ⊢;generalize argTypes.toList=ts
    match l,ts,a with
    |[],_,_=>rfl
    |[x],[],_=>rfl
    |[x],[t],a=>simp only[a x (by simp)]
    |[x],_::_::_,_=>rfl
    |_::_::_,_,_=>rfl
   case append=>
    simp only[];generalize args.toList=l at a ⊢;generalize argTypes.toList=ts
    match l,ts,a with
    |[],_,_=>rfl
    |[x],_,_=>rfl
    |[x,y],[],_=>rfl
    |[x,y],[t],_=>rfl
    |[x,y],[t,C],a=>simp only[a x (by simp),a y (by simp)]
    |[x,y],_::_::_::_,_=>rfl
    |_::_::_::_,_,_=>rfl
   case max=>
    simp only[];generalize args.toList=l at a ⊢
    match l,a with
    |[],_=>rfl
    |[x],_=>rfl
    |[x,y],a=>simp only[a x (by simp),a y (by simp)]
    |[x,y,z],a=>simp only[a x (by simp),a y (by simp),a z (by simp)]
    |_::_::_::_::_,_=>rfl
   case min=>
    simp only[];generalize args.toList=l at a ⊢
    match l,a with
    |[],_=>rfl
    |[x],_=>rfl
    |[x,y],a=>simp only[a x (by simp),a y (by simp)]
    |_::_::_::_,_=>rfl
   all_goals rfl
 all_goals (first|rfl|(simp_all;done))

theorem Qp{env:List AV}{d:Tmp}{v:AV}{x:Operand}(h:x≠.tmp d):dG (gN env (some d) v) x=dG env x:=by
 cases x with
 |tmp t=>
  have a:d≠t:=fun e=>h (e▸rfl);simp only[dG,gN];rw[dD,iN a,<-dD]
 |_=>rfl

theorem xH{ops:Array Oper}{env:List AV}{a:Option Tmp}{v:AV}{o:Oper}(h:∀d,a=some d->d∉o.looksAt ops):∀x∈o.op.operands,dG (gN env a v) x=dG env x:=by
 intro x b;cases a with
 |none=>rfl
 |some d=>exact Qp fun e=>h d rfl (iI _ (qx.2 ⟨.tmp d,by subst e;simpa using b,rfl⟩))

theorem IE{ops:Array Oper}{env:List AV}{a:Option Tmp}{v:AV}{o:Oper}(h:∀d,a=some d->d∉o.looksAt ops):gL ty Γ ops σ (gN env a v) nm o=gL ty Γ ops σ env nm o:=by
 have hs:=Sr (ty:=ty) (Γ:=Γ) (σ:=σ) (nm:=nm) (xH (env:=env) (v:=v) h);unfold gL;rw[hs];cases g:o.guard with
 |none=>rfl
 |some f=>
  obtain⟨j,c⟩:=f;simp only[];cases hd:(ops[j]?).bind (·.dst)with
  |none=>rfl
  |some d'=>
   simp only[];cases a with
   |none=>rfl
   |some d=>
    have b:d≠d':=fun e=>h d rfl (by subst e;simp[Oper.looksAt,g,hd]);simp only[gN];rw[dD,iN b,<-dD]

theorem Pv{ops:Array Oper}{env:List AV}{o:Oper}(h:∀n∈fQ σ (dG env) o,σ' n=σ n):gL ty Γ ops σ' env nm o=gL ty Γ ops σ env nm o:=by
 unfold gL;rw[RZ (ty:=ty) (Γ:=Γ) (nm:=nm) h]

theorem QS{ops:Array Oper}{env:List AV}{e:Option Tmp}{v:AV}{o:Oper}(h:∀d,e=some d->d∉o.looksAt ops):ja7 (dG (gN env e v)) o=ja7 (dG env) o:=by
 have b:=xH (env:=env) (v:=v) h;obtain⟨n,m,l,pos,g,j⟩:=o;cases m<;>simp only[ja7]<;>simp only[Op.operands]at b
 case load t a=>rw[b a (by simp)]
 case store t a x=>rw[b a (by simp),b x (by simp)]
 case buildSlice t len parts=>rw[ug fun p k=>b p.2 (by simpa using⟨p.1,rU.1 k⟩)]
 case indexAddr t x i=>rw[b x (by simp)]
 case convert s d x=>rw[b x (by simp)]
 case lookup t x i ok=>rw[b x (by simp)]
 case mapUpdate t x i v=>rw[b x (by simp)]
 case slice t x lo hi mx=>rw[b x (by simp)]
 case call c=>
  obtain⟨callee,args,argTypes⟩:=c;simp only[];rw[ug fun x k=>b x (by unfold Call.operands;exact vY.2 (.inr (rU.1 k)))];congr 1;cases callee with
  |value f=>
   show(dG (gN env e v) f).names=(dG env f).names;rw[b f (by unfold Call.operands;exact vY.2 (.inl (by simp)))]
  |_=>rfl

theorem I5{ops:Array Oper}{env:List AV}{a:Option Tmp}{v:AV}{o:Oper}(h:∀d,a=some d->d∉o.looksAt ops):fQ σ (dG (gN env a v)) o=fQ σ (dG env) o:=by
 unfold fQ qB;rw[QS h]
theorem IQ{ops:Array Oper}{env:List AV}{a:Option Tmp}{v:AV}{o:Oper}(h:∀d,a=some d->d∉o.looksAt ops):lV Γ σ (dG (gN env a v)) o=lV Γ σ (dG env) o:=by
 have g:=xH (env:=env) (v:=v) h;obtain⟨l,k,i,pos,b,e⟩:=o;cases k
 case call c=>
  obtain⟨callee,args,argTypes⟩:=c;cases callee with
  |value f=>
   cases f with
   |func f=>
    simp only[lV];simp only[Op.operands]at g;rw[ug fun x j=>g x (by unfold Call.operands;exact vY.2 (.inr (rU.1 j)))]
   |_=>rfl
  |_=>rfl
 all_goals rfl
theorem Rn{e:Operand->AV}{o:Oper}(h:∀n∈ja7 e o,σ' n=σ n):lV Γ σ' e o=lV Γ σ e o:=by
 obtain⟨p,l,i,pos,b,d⟩:=o;cases l
 case call c=>
  obtain⟨callee,args,argTypes⟩:=c;cases callee with
  |value f=>
   cases f with
   |func f=>
    have a:∀n∈dB (args.toList.map e),σ' n=σ n:=fun n a=>h n (by simp only[ja7];exact iI _ a);have j:∀kp ns,uK σ' kp ns (dB (args.toList.map e))=uK σ kp ns (dB (args.toList.map e)):=fun kp ns=>by
     unfold uK;refine List.filter_congr fun n _=>?_;cases hb:(dB (args.toList.map e)).any fun m=>Nat.beq n m with
     |false=>rfl
     |true=>
      obtain⟨m,k,g⟩:=uo.1 hb;have:=eG g;subst this;simp only[cond_true,wH,a n k]
    simp only[lV,vF _ _ a,j]
   |_=>rfl
  |_=>rfl
 all_goals rfl
theorem IL{ops:Array Oper}{env:List AV}{a:Option Tmp}{v:AV}{o:Oper}(h:∀d,a=some d->d∉o.looksAt ops):oJ Γ σ (dG (gN env a v)) o=oJ Γ σ (dG env) o:=by
 have g:=xH (env:=env) (v:=v) h;obtain⟨l,k,i,pos,b,e⟩:=o;cases k
 case call c=>
  obtain⟨callee,args,argTypes⟩:=c;cases callee with
  |value f=>
   cases f with
   |func f=>
    simp only[oJ];simp only[Op.operands]at g;rw[ug fun x j=>g x (by unfold Call.operands;exact vY.2 (.inr (rU.1 j)))]
   |_=>rfl
  |_=>rfl
 all_goals rfl
theorem Rm{e:Operand->AV}{o:Oper}(h:∀n∈ja7 e o,σ' n=σ n):oJ Γ σ' e o=oJ Γ σ e o:=by
 obtain⟨j,i,g,pos,a,b⟩:=o;cases i
 case call c=>
  obtain⟨callee,args,argTypes⟩:=c;cases callee with
  |value f=>
   cases f with
   |func f=>
    have d:∀n∈dB (args.toList.map e),σ' n=σ n:=fun n d=>h n (by simp only[ja7];exact iI _ d);simp only[oJ,vF _ _ d]
   |_=>rfl
  |_=>rfl
 all_goals rfl
theorem OH{e:Operand->AV}{o:Oper}{n:Nat}(h:n∈lV Γ σ e o):n∈ja7 e o/\ wH σ n=true:=by
 unfold lV at h;split at h
 ·rename_i f args at_ heq;split at h
  ·split at h
   ·unfold uK at h;obtain⟨_,a⟩:=D7.1 h;cases hb:(dB (args.toList.map e)).any fun m=>Nat.beq n m with
    |false=>rw[hb]at a;cases a
    |true=>
     rw[hb]at a;obtain⟨m,c,b⟩:=uo.1 hb;have:=eG b;subst this;refine⟨?_,a⟩;unfold ja7;rw[heq];exact iI _ c
   ·cases h
  ·cases h
 ·cases h
theorem Ro{e:Operand->AV}{o:Oper}(h:∀n∈ja7 e o,σ' n=σ n):fQ σ' e o=fQ σ e o:=by
 unfold fQ qB;split
 ·rw[IG h]
 ·rfl

end
end
section
def Live(Γ:Nat->Option dJ):Prop:=∀f S,Γ f=some S->∀ds obs,S.pre ds obs->∃r new cO,S.post ds obs r new cO

section
variable{U:Nat->Prop}{nm:Nat}{σ:bJ}{ty:TypeId->Option bD}{Γ:Nat->Option dJ}

def ou(nm n:Nat):Prop:=nm<=n/\ n<nm+16

structure rz(U:Nat->Prop)(nm:Nat)(W:Nat->Prop)(av:AV)(δ:eP):Prop where
 nb:NB (Un U nm) av
 key:∀p∈δ,ou nm p.1 \/W p.1
 ob:∀p∈δ,∀x,p.2=some x->Un U nm p.1/\ gG (Un U nm) x

def ji(U:Nat->Prop)(nm:Nat)(W:Nat->Prop)(s:Spec):Prop:=s.pre->(∃av δ,s.R av δ)/\ ∀av δ,s.R av δ->rz U nm W av δ

variable{W:Nat->Prop}

theorem bO:ji U nm W .fail:=fun a=>a.elim
theorem fB{p:Prop}{rd:List Nat}{av:AV}{δ:eP}(h:p->rz U nm W av δ):ji U nm W (.bR p rd av δ):=by
 intro d;refine⟨⟨av,δ,rfl,rfl⟩,?_⟩;rintro a e ⟨b,c⟩;subst b;subst c;exact h d
theorem fZ{av:AV}(h:NB U av):rz U nm W av []:=⟨NB.mono (fun _ h=>fF h) h,by simp,by simp⟩
theorem iL{p:Prop}{rd:List Nat}{d:D}:ji U nm W (.bR p rd (.dat d) []):=fB fun _=>fZ (oO d)
theorem Dw{b:Bool}{s t:Spec}(h:ji U nm W s)(a:ji U nm W t):ji U nm W (.split b s t):=by
 cases b
 ·exact a
 ·exact h
theorem qh{p:Prop}{rd:List Nat}{av:AV}{x:bH}(h:NB (Un U nm) av)(c:gG (Un U nm) x):ji U nm W (.bR p rd av [(nm,some x)]):=by
 refine fB fun _=>⟨h,fun p a=>?_,fun p a y b=>?_⟩
 ·simp at a;subst a;exact .inl ⟨dQ _,by show nm<nm+16;omega⟩
 ·simp at a;subst a;simp at b;subst b;exact⟨fI,c⟩
theorem vK{p:Prop}{rd:List Nat}{o:Nat}{x:bH}(hW:W o)(hU:U o)(c:gG U x):ji U nm W (.bR p rd .und [(o,some x)]):=by
 refine fB fun _=>⟨by unfold NB;trivial,fun p a=>?_,fun p a y b=>?_⟩
 ·simp at a;subst a;exact .inr hW
 ·simp at a;subst a;simp at b;subst b;exact⟨fF hU,gG.mono (fun _ h=>fF h) c⟩

theorem CP{x:AV}{cs:List AV}(b:x.cells=some cs)(c:NB U x):bN U cs:=by
 have a:∀{y:AV},NB U y->bN U [y]:=fun{y} h=>by unfold bN;exact⟨h,by unfold bN;trivial⟩
 cases x with
 |dat d=>
  cases d with
  |agg l=>simp only[AV.cells,bU]at b;subst b;exact y9
  |sc u=>simp only[AV.cells,bU]at b;subst b;exact a c
  |sl es l=>simp only[AV.cells,bU]at b;subst b;exact a c
 |aggv l=>simp only[AV.cells,bU]at b;subst b;unfold NB at c;exact c
 |tup l=>simp[AV.cells]at b
 |und=>simp[AV.cells]at b
 |unk=>simp[AV.cells]at b
 |_=>simp only[AV.cells,bU]at b;subst b;exact a c

theorem Jf{k:IntKind}{r:Int}:ji U nm W (qH k r):=iL
theorem vJ{b:Bool}:ji U nm W (jk b):=iL

theorem joc{a:Bool}{x:AV}:ji U nm W (oL a x):=by
 unfold oL;split
 ·exact iL
 ·intro _;refine⟨⟨.dat (.sc (.bool (false !=a))),[],rfl,false,rfl,fun _=>rfl⟩,?_⟩;rintro av δ ⟨rfl,b,rfl,_⟩;exact fZ (by unfold NB;trivial)
 ·exact iL
 ·exact bO
theorem Q8{a:BinOp}{t:TypeId}{x y:AV}:ji U nm W (sJ ty a t x y):=by
 unfold sJ;split
 ·split
  ·split
   ·split<;>first|exact vJ|exact bO
   ·exact bO
  ·exact bO
 ·exact bO
theorem P8{a:BinOp}{t:TypeId}{x y:AV}:ji U nm W (uS ty a t x y):=by
 unfold uS;split
 ·split
  ·exact iL
  ·exact iL
  ·split
   ·split<;>first|exact Jf|exact vJ|exact iL|exact bO
   ·exact bO
 ·split
  ·split<;>first|exact vJ|exact iL|exact bO
  ·split
   ·split<;>first|exact vJ|exact bO
   ·unfold xk;split
    ·split<;>first|exact joc|exact bO
    ·split<;>first|exact vJ|exact bO
    ·exact Q8

theorem CS{b:Nat->Option (Nat×Nat)}{e:Operand->AV}(f:∀x,NB U (e x)):∀(a:List (Nat×Operand))(cells out:List AV),bN U cells->pR b cells (a.map fun p=>(p.1,e p.2))=some out->bN U out
 |[],cells,out,hc,h=>by simp only[jv,pR,bU]at h;subst h;exact hc
 |(i,x)::c,cells,out,hc,h=>by
  simp only[dX,pR]at h;split at h
  ·rename_i g size cs j d;split at h
   ·exact CS f c _ out (bN.spl hc (CP d (f x))) h
   ·cases h
  ·cases h

theorem RI(d:∀o x,σ o=some x->U o/\ gG U x){T:bD}{o es k j:Nat}:ji U nm W (nu σ T o es k j):=by
 unfold nu;split
 ·rename_i e es' mask l g hole a;have b:=d _ _ a;split
  ·split
   ·split
    ·refine fB fun _=>fZ (ny (yL fun c hc=>?_));unfold tH at hc;obtain⟨i,_,rfl⟩:=jE.1 hc;split
     ·unfold NB;exact b
     ·unfold NB;trivial
    ·exact bO
   ·split
    ·exact iL
    ·split
     ·refine fB fun _=>fZ ?_;unfold NB;exact b
     ·exact bO
  ·exact bO
 ·exact bO
theorem RH{T:bD}{o g k j es i c:Nat}:ji U nm W (nR σ T o g k j es i c):=by
 unfold nR;split
 ·split
  ·split<;>exact iL
  ·exact bO
 ·exact bO
theorem R7(d:∀o x,σ o=some x->U o/\ gG U x){o g k j es i c:Nat}{ds:List D}(hW:W o):ji U nm W (nV ty σ o g k j es i c ds):=by
 unfold nV;split
 ·rename_i t b;have a:=d _ _ (nY b);split
  ·split
   ·split
    ·exact vK hW a.1 a.2
    ·split
     ·split
      ·exact vK hW a.1 a.2
      ·exact bO
     ·exact bO
   ·exact bO
  ·exact bO
 ·exact bO
theorem jg0{ns:List Nat}{p:Nat×Option bH}(h:p∈lU ns):p.1∈ns/\ p.2=none:=by
 induction ns with
 |nil=>cases h
 |cons n ns a=>
  have h':p∈(n,none)::lU ns:=h;rcases dY.1 h' with rfl|h'
  ·exact⟨dU ..,rfl⟩
  ·exact⟨dZ _ (a h').1,(a h').2⟩
theorem Jk{cs:List AV}{n:Nat}(h:n∈cs.filterMap jg):n∈dB cs:=by
 obtain⟨x,b,a⟩:=qx.1 h;have:=zJ a;subst this;exact Qo b n (by simp[AV.names])
theorem R8(i:∀o x,σ o=some x->U o/\ gG U x){o es k j:Nat}{cs:List AV}(hW:∀n,(n=o \/n∈dB cs)->W n):ji U nm W (nW ty σ nm o es k j cs):=by
 have key:∀{p:Prop}{rd ns:List Nat}{x:bH},U o->(∀n∈ns,n∈dB cs)->gG (Un U nm) x->ji U nm W (.bR p rd .und (lU ns++[(o,some x)])):=by
  intro p rd ns x hU a h;refine fB fun _=>⟨by unfold NB;trivial,fun p hp=>?_,fun p hp z d=>?_⟩
  ·rcases fA.1 hp with hp|hp
   ·exact .inr (hW _ (.inr (a _ (jg0 hp).1)))
   ·simp at hp;subst hp;exact .inr (hW _ (.inl rfl))
  ·rcases fA.1 hp with hp|hp
   ·rw[(jg0 hp).2]at d;cases d
   ·simp at hp;subst hp;simp at d;subst d;exact⟨fF hU,h⟩
 unfold nW;split
 ·rename_i e es' mask l g hole f;have c:=i _ _ f;split
  ·rename_i E ds ns q hE b;obtain⟨_,m,_⟩:=xL b;have a:∀n∈ns,n∈dB cs:=fun n c=>Jk (by rw[<-m];exact c);split
   ·split
    ·exact key c.1 a fI
    ·split
     ·split
      ·exact key c.1 a fI
      ·exact bO
     ·exact bO
   ·exact bO
  ·exact bO
 ·exact bO
theorem Sz{el:TypeId}{E:bD}{s:AV}{c:Nat}(hW:∀n,(n=c \/n∈s.names)->W n):ji U nm W (qm σ nm el E s c):=by
 unfold qm;split
 ·split
  ·split
   ·refine fB fun _=>⟨jA _ fI,fun p a=>?_,fun p a z b=>?_⟩
    ·simp only[dY,kI,or_false]at a;rcases a with rfl|rfl
     ·exact .inr (hW _ (.inl rfl))
     ·exact .inl ⟨dQ _,by show nm<nm+16;omega⟩
    ·simp only[dY,kI,or_false]at a;rcases a with rfl|rfl
     ·simp at b
     ·simp at b;subst b;exact⟨fI,fI⟩
   ·split
    ·split
     ·refine fB fun _=>⟨jA _ fI,fun p a=>?_,fun p a z b=>?_⟩
      ·simp only[dY,kI,or_false]at a;rcases a with rfl|rfl|rfl
       ·exact .inr (hW _ (.inr (by simp[AV.names])))
       ·exact .inr (hW _ (.inl rfl))
       ·exact .inl ⟨dQ _,by show nm<nm+16;omega⟩
      ·simp only[dY,kI,or_false]at a;rcases a with rfl|rfl|rfl
       ·simp at b
       ·simp at b
       ·simp at b;subst b;exact⟨fI,fI⟩
     ·exact bO
    ·exact bO
   ·exact bO
  ·exact bO
 ·exact bO
theorem Sy(e:∀o x,σ o=some x->U o/\ gG U x){el:TypeId}{E:bD}{o g k j:Nat}{f:List D}{rd:List Nat}(hW:W o):ji U nm W (oZ σ nm el E o g k j f rd):=by
 unfold oZ;split
 ·rename_i t d;have c:=e _ _ (nY d);split
  ·split
   ·refine fB fun _=>⟨jA _ fI,fun p a=>?_,fun p a z b=>?_⟩
    ·simp only[dY,kI,or_false]at a;rcases a with rfl|rfl
     ·exact .inr hW
     ·exact .inl ⟨dQ _,by show nm<nm+16;omega⟩
    ·simp only[dY,kI,or_false]at a;rcases a with rfl|rfl
     ·simp at b;subst b;exact⟨fF c.1,fF c.2⟩
     ·simp at b;subst b;exact⟨fI,trivial⟩
   ·exact bO
  ·exact bO
 ·exact bO
theorem DF{mask:List (Option TypeId)}{agg:Bool}{es:Nat}:∀{ps:List (Nat×AV)}{k:Nat}{ds:List D}{ns:List Nat},lK ty σ nm mask agg es k ps=some (ds,ns)->∀n∈ns,n∈dB (ps.map (·.2))
 |[],k,ds,ns,h=>by simp[lK]at h;obtain⟨_,rfl⟩:=h;simp
 |(i,x)::ps,k,ds,ns,h=>by
  unfold lK at h;split at h
  ·split at h
   ·rename_i cs b;split at h
    ·split at h
     ·rename_i c f r e a d;obtain⟨_,g,_⟩:=xL a;split at h
      ·simp only[bU,eY]at h;obtain⟨_,rfl⟩:=h;intro n hn;simp only[dX];unfold dB;rcases fA.1 hn with hn|hn
       ·exact iI _ (xG b n (Jk (by rw[<-g];exact hn)))
       ·exact jX _ (DF d n hn)
      ·cases h
     ·cases h
    ·cases h
   ·cases h
  ·cases h

theorem GH{U:Nat->Prop}{x:AV}{l:List AV}(b:vR x=some l)(c:NB U x):bN U l:=by
 unfold vR at b;split at b
 ·cases b;unfold NB at c;exact c
 ·rename_i l0;cases b
  induction l0 with
  |nil=>simp only[jv];unfold bN;trivial
  |cons a l d=>simp only[dX];unfold bN;exact⟨by unfold NB;trivial,d (by unfold NB;trivial)⟩
 ·cases b
theorem Q9(O:Live Γ){e:Operand->AV}(aw:∀f,e (.func f)=.fn f [])(C:∀x,NB U (e x))(hσ:∀o x,σ o=some x->U o/\ gG U x){o:Oper}:
  ji U nm (fun n=>iO ty Γ o=true/\ n∈fQ σ e o) (spec ty Γ σ e nm o):=by
 obtain⟨ae,op,X,pos,F,G⟩:=o;cases op with
 |move x=>exact fB fun _=>fZ (C x)
 |assign x=>exact fB fun _=>fZ (C x)
 |pick c a b=>
  unfold spec;simp only[];split
  ·exact Dw (fB fun _=>fZ (C a)) (fB fun _=>fZ (C b))
  ·exact bO
 |alloc t=>
  unfold spec;simp only[];split
  ·split
   ·exact qh (by unfold NB;exact fI) trivial
   ·split
    ·exact qh (BZ _ _ fI) uR
    ·exact bO
  ·exact bO
 |box t x=>
  unfold spec;simp only[];split
  ·rename_i cs aa;exact qh (BZ _ _ fI) (bN.mono (fun _ h=>fF h) (CP aa (C x)))
  ·exact bO
 |load t a=>
  unfold spec;simp only[];unfold jQ;split
  ·exact bO
  ·split
   ·split
    ·rename_i l L;have O:=(hσ _ _ L).2;split
     ·split
      ·exact fB fun _=>fZ (ny ((bN.drop _ O).take _))
      ·exact bO
     ·split
      ·rename_i v hv;exact fB fun _=>fZ (bN.at _ v O hv)
      ·exact bO
    ·exact bO
   ·split
    ·split
     ·split<;>exact iL
     ·exact bO
    ·exact RI hσ
    ·exact bO
   ·exact RH
   ·split
    ·exact iL
    ·split
     ·exact iL
     ·exact bO
   ·exact bO
 |store t a x=>
  have H:=C a;unfold spec;simp only[];unfold nZ;split
  ·rename_i T cs hT aa;have ar:=CP aa (C x);split
   ·split
    ·rename_i ob i w;rw[w]at H;unfold NB at H;split
     ·rename_i l L;split
      ·exact vK ⟨rfl,by simp[fQ,ja7,w,AV.names]⟩ H (bN.spl (hσ _ _ L).2 ar)
      ·exact bO
     ·exact bO
    ·rename_i ob es k j w;rw[w]at H;unfold NB at H;split
     ·split
      ·split
       ·split
        ·split
         ·exact vK ⟨rfl,by simp[fQ,ja7,w,AV.names]⟩ H trivial
         ·split
          ·split
           ·exact vK ⟨rfl,by simp[fQ,ja7,w,AV.names]⟩ H trivial
           ·exact bO
          ·exact bO
        ·exact bO
       ·exact bO
      ·exact bO
     ·refine R8 hσ (fun n hn=>⟨rfl,?_⟩);refine iI _ ?_;simp only[ja7,w];rcases hn with rfl|hn
      ·exact dU ..
      ·exact dZ _ (xG aa n hn)
     ·exact bO
    ·rename_i ob g k j es i c w;split
     ·exact R7 hσ ⟨rfl,by simp[fQ,ja7,w,AV.names]⟩
     ·exact bO
    ·exact bO
   ·exact bO
  ·exact bO
 |nilCheck x=>
  have w:=C x;unfold spec;simp only[];split
  ·rename_i h;rw[h]at w;exact fB fun _=>fZ w
  ·rename_i h;rw[h]at w;exact fB fun _=>fZ w
  ·rename_i h;rw[h]at w;exact fB fun _=>fZ w
  ·rename_i h;rw[h]at w;exact fB fun _=>fZ w
  ·exact bO
 |binOp op t x y u=>exact P8
 |unOp op t x=>
  cases op
  case not=>
   unfold spec;simp only[];split
   ·exact vJ
   ·exact bO
  case neg=>
   unfold spec;simp only[];split
   ·exact Jf
   ·exact bO
  all_goals exact bO
 |convert s d x=>
  unfold spec;simp only[];split
  ·exact iL
  ·unfold uW;split
   ·split
    ·exact iL
    ·exact bO
   ·split
    ·exact qh (jA _ fI) trivial
    ·exact bO
   ·exact bO
 |slice t x lo hi mx=>
  cases mx with
  |some m=>exact bO
  |none=>
   unfold spec;simp only[];unfold xD;split
   ·split
    ·split
     ·exact iL
     ·split
      ·exact iL
      ·exact bO
    ·exact bO
   ·rename_i az O;split
    ·unfold wQ;split
     ·rename_i ob A;split
      ·rename_i cs L;split
       ·split
        ·refine fB fun _=>⟨by unfold NB;trivial,fun q R=>?_,fun q R y B=>?_⟩
         ·simp at R;subst R;exact .inr ⟨by simp only[iO,GA];rw[az];simp,by simp[fQ,ja7,A,AV.names]⟩
         ·simp at R;subst R;cases B
        ·exact bO
       ·exact bO
      ·exact bO
     ·exact bO
    ·exact bO
   ·split
    ·split
     ·split
      ·exact iL
      ·split
       ·exact iL
       ·exact bO
     ·exact bO
    ·rename_i el E ob au A;have key:∀{p:Prop}{rd:List Nat}{a:TypeId}{b:Nat}{l:List D},ji U nm (fun n=>iO ty Γ ⟨ae,.slice t x lo hi none,X,pos,F,G⟩=true/\ n∈fQ σ e ⟨ae,.slice t x lo hi none,X,pos,F,G⟩) (.bR p rd (.own nm) [(ob,none),(nm,some (.arr a b l))]):=by
      intro p rd a b l;refine fB fun _=>⟨jA _ fI,fun q R=>?_,fun q R y B=>?_⟩
      ·simp at R;rcases R with rfl|rfl
       ·exact .inr ⟨by simp only[iO];rw[au];rfl,by simp[fQ,ja7,A,AV.names]⟩
       ·exact .inl ⟨dQ _,by show nm<nm+16;omega⟩
      ·simp at R;rcases R with rfl|rfl
       ·cases B
       ·simp at B;subst B;exact⟨fI,trivial⟩
     split
     ·split
      ·split
       ·exact key
       ·split
        ·exact key
        ·exact bO
      ·exact bO
     ·exact bO
    ·rename_i A;have w:=C x;rw[A]at w;split
     ·split
      ·unfold qU;split
       ·split
        ·refine fB fun _=>fZ ?_;unfold NB at w ⊢;exact w
        ·exact bO
       ·exact bO
      ·exact bO
     ·exact bO
    ·exact bO
   ·exact bO
 |fieldAddr s x f=>
  have w:=C x;unfold spec;simp only[];unfold vk;split
  ·exact bO
  ·split
   ·rename_i h;rw[h]at w;refine fB fun _=>fZ ?_;unfold NB at w ⊢;exact w
   ·rename_i h;rw[h]at w;refine fB fun _=>fZ ?_;unfold NB at w ⊢;exact w
   ·rename_i h;rw[h]at w;refine fB fun _=>fZ ?_;unfold NB at w ⊢;exact w
   ·refine fB fun _=>fZ ?_;unfold NB;trivial
   ·exact bO
 |indexAddr t x i=>
  have w:=C x;unfold spec;simp only[];unfold qj;split
  ·split
   ·split
    ·refine fB fun _=>fZ ?_;unfold NB;trivial
    ·exact bO
   ·rename_i h;rw[h]at w;split
    ·split
     ·refine fB fun _=>fZ ?_;unfold NB at w ⊢;exact w
     ·exact bO
    ·split
     ·refine fB fun _=>fZ ?_;unfold NB at w ⊢;exact w
     ·exact bO
    ·exact bO
   ·rename_i h;rw[h]at w;unfold qg;split
    ·split
     ·refine fB fun _=>fZ ?_;unfold NB at w ⊢;exact w
     ·exact bO
    ·exact bO
   ·rename_i h;rw[h]at w;split
    ·refine fB fun _=>fZ ?_;unfold NB at w ⊢;exact w
    ·exact bO
   ·exact bO
  ·unfold CO;split
   ·split
    ·split
     ·rename_i h;rw[h]at w;refine fB fun _=>fZ ?_;unfold NB at w ⊢;exact w
     ·rename_i h;rw[h]at w;split
      ·refine fB fun _=>fZ ?_;unfold NB at w ⊢;exact w
      ·refine fB fun _=>fZ ?_;unfold NB at w ⊢;exact w
     ·rename_i h;rw[h]at w;refine fB fun _=>fZ ?_;unfold NB at w ⊢;exact w
     ·refine fB fun _=>fZ ?_;unfold NB;trivial
     ·exact bO
    ·exact bO
   ·exact bO
  ·exact bO
 |index t x i=>
  have w:=C x;unfold spec;simp only[];split
  ·exact iL
  ·unfold yM;split
   ·split
    ·rename_i O;have Q:bN U _:=(GH O w);split
     ·split
      ·exact fB fun _=>fZ (ny ((bN.drop _ Q).take _))
      ·exact bO
     ·split
      ·rename_i v hv;exact fB fun _=>fZ (bN.at _ v Q hv)
      ·exact bO
    ·exact bO
   ·exact bO
 |field s x f=>
  have w:=C x;unfold spec;simp only[wT];split
  ·split
   ·split
    ·rename_i O;have Q:bN U _:=(GH O w);split
     ·split
      ·exact fB fun _=>fZ (ny ((bN.drop _ Q).take _))
      ·exact bO
     ·split
      ·rename_i v hv;exact fB fun _=>fZ (bN.at _ v Q hv)
      ·exact bO
    ·exact bO
   ·exact bO
  ·exact bO
 |extract x i=>
  have w:=C x;unfold spec;simp only[];split
  ·rename_i l h;rw[h]at w;unfold NB at w;split
   ·rename_i v hv;exact fB fun _=>fZ (bN.at _ v w hv)
   ·exact bO
  ·exact bO
 |build t I=>
  unfold spec;simp only[];unfold xC;split
  ·split
   ·split
    ·rename_i cells hc;exact fB fun _=>fZ (ny (CS C I.toList _ cells uR hc))
    ·exact bO
   ·exact bO
  ·split
   ·split
    ·split
     ·rename_i cells hc;exact fB fun _=>fZ (ny (CS C I.toList _ cells uR hc))
     ·exact bO
    ·exact bO
   ·exact bO
  ·exact bO
 |buildSlice t len I=>
  unfold spec;simp only[];unfold qX;split
  ·split
   ·split
    ·exact qh (jA _ fI) trivial
    ·split
     ·rename_i ay;split
      ·rename_i ds ns ak;have ao:=DF ak;refine fB fun _=>⟨jA _ fI,fun p hp=>?_,fun p hp z Y=>?_⟩
       ·rcases fA.1 hp with hp|hp
        ·obtain⟨J,M⟩:=jg0 hp;refine .inr ⟨by simp only[iO];rw[‹iY ty t=_›];exact ay,?_⟩;refine iI _ ?_;simp only[ja7];have:=ao p.1 J;rw[uf]at this;exact this
        ·simp at hp;subst hp;exact .inl ⟨dQ _,by show nm<nm+16;omega⟩
       ·rcases fA.1 hp with hp|hp
        ·obtain⟨J,M⟩:=jg0 hp;rw[M]at Y;cases Y
        ·simp at hp;subst hp;simp at Y;subst Y;exact⟨fI,fI⟩
      ·exact bO
     ·exact bO
   ·exact bO
  ·exact bO
 |makeMap t r=>
  cases r with
  |none=>
   unfold spec;simp only[];unfold xI;split
   ·exact qh (jA _ fI) trivial
   ·exact bO
  |some r=>exact bO
 |lookup t x i ok=>
  cases ok with
  |true=>
   unfold spec;simp only[];unfold vH;split
   ·split
    ·refine fB fun _=>fZ ?_;unfold NB bN;exact⟨by unfold NB;trivial,by unfold bN;exact⟨by unfold NB;trivial,by unfold bN;trivial⟩⟩
    ·exact bO
   ·exact bO
  |false=>exact bO
 |mapUpdate t x i v=>
  unfold spec;simp only[];unfold vI;split
  ·rename_i E ob t' l k d hm w hi hd;obtain⟨A,L⟩:=Da w;split
   ·exact vK ⟨rfl,by simp[fQ,ja7,A,AV.names]⟩ (hσ _ _ L).1 trivial
   ·exact bO
  ·exact bO
 |makeSlice t l c=>
  unfold spec;simp only[];unfold zn;split
  ·split
   ·split
    ·split
     ·exact qh (jA _ fI) trivial
     ·exact qh (jA _ fI) fI
    ·exact bO
   ·exact bO
  ·exact bO
 |call c=>
  obtain⟨callee,args,argTypes⟩:=c;cases callee with
  |value c=>
   unfold spec;simp only[];split
   ·rename_i f ac aj;unfold kD;cases hS:Γ f with
    |none=>exact bO
    |some S=>
     simp only[];split
     ·exact bO
     ·rename_i ds aE aF Z;obtain⟨⟨aq,ns,rd⟩,N,K⟩:=kG.1 Z;simp only[eY]at K;obtain⟨ak,rfl,rfl⟩:=K;split
      ·exact bO
      ·rename_i obs ap;intro hp;obtain⟨_,p1,p2,p3,p5,p4⟩:=(show _/\ _/\ _/\ _/\ _/\ _ from hp);refine⟨?_,?_⟩
       ·obtain⟨r,new,cO,hr⟩:=O f S hS ds obs p1;exact⟨_,_,r,new,cO,hr,rfl,rfl⟩
       rintro av δ ⟨r,new,cO,ah,rfl,rfl⟩;have V:=p4 r new cO ah;obtain⟨aD,ax⟩:=xJ ap;have g1:=vG S.lend _ aq ns rd N;have P:∀(f:Nat->Nat)(ns:List Nat)(obs:List bH)(g:Nat),∀p∈mV f g ns obs,p.1∈ns/\ ∀x,p.2=some x->∃y q,y∈obs/\ x=(y.ren f).eT q/\ g<=q/\ q<g+obs.length:=by
        intro f ns
        induction ns with
        |nil=>intro obs g p hp;simp[mV]at hp
        |cons n ns ih=>
         intro obs g p hp;cases obs with
         |nil=>
          simp only[mV,dY]at hp;rcases hp with rfl|hp
          ·exact⟨dU ..,fun y B=>by cases B⟩
          ·obtain⟨J,M⟩:=ih [] (g+1) p hp;refine⟨dZ _ J,fun y B=>?_⟩;obtain⟨z,q,k1,k2,k3,k4⟩:=M y B;cases k1
         |cons x obs=>
          simp only[mV,dY]at hp;rcases hp with rfl|hp
          ·exact⟨dU ..,fun y B=>by simp at B;subst B;exact⟨x,g,dU ..,rfl,dQ _,by simp⟩⟩
          ·obtain⟨J,M⟩:=ih obs (g+1) p hp;refine⟨dZ _ J,fun y B=>?_⟩;obtain⟨z,q,k1,k2,k3,k4⟩:=M y B;exact⟨z,q,dZ _ k1,k2,by omega,by simp only[gZ];omega⟩
       have ad:∀(f:Nat->Nat)(new:List bH)(k:Nat),∀p∈newF f k new,k<=p.1/\ p.1<k+new.length/\ ∀x,p.2=some x->∃z,z∈new/\ x=(z.ren f).eT p.1:=by
        intro f new
        induction new with
        |nil=>intro k p hp;simp[newF]at hp
        |cons x new ih=>
         intro k p hp;simp only[newF,dY]at hp;rcases hp with rfl|hp
         ·exact⟨dQ _,by simp,fun y B=>by simp at B;exact⟨x,dU ..,B.symm⟩⟩
         ·obtain⟨J,M,h3⟩:=ih (k+1) p hp;exact⟨by omega,by simp only[gZ];omega,fun y B=>by
           obtain⟨z,Y,ai⟩:=h3 y B;exact⟨z,dZ _ Y,ai⟩⟩
       have hU:∀n∈ns,U n:=fun n hn=>by
        obtain⟨j,hj⟩:=jJ hn;obtain⟨x,_,w⟩:=ax j n hj;exact(hσ n x w).1
       have few:=V.few;refine⟨NB.shift (by omega) V.NP,fun p hp=>?_,fun p hp x w=>?_⟩
       ·rcases fA.1 hp with hp|hp
        ·have af:=(P _ ns cO _ p hp).1;refine .inr ⟨?_,?_⟩
         ·cases c with
          |func f'=>
           have am:=aw f';rw[aj]at am;cases am;unfold iO;simp only[hS];cases O:yH S.lend with
           |true=>rfl
           |false=>rw[QH N O]at af;cases af
          |_=>rfl
         ·have:=g1 p.1 af;have h0:ja7 e ⟨ae,.call ⟨.value c,args,argTypes⟩,X,pos,F,G⟩=dB (args.toList.map e++ac):=by
           simp only[ja7,jd4,aj];rw[DI]
           conv=>lhs;arg 2;unfold AV.names
          simp only[fQ,qB];rw[h0];exact this
        ·obtain⟨J,M,_⟩:=ad _ new nm p hp;exact .inl ⟨J,by omega⟩
       ·rcases fA.1 hp with hp|hp
        ·obtain⟨J,M⟩:=P _ ns cO _ p hp;obtain⟨z,q,k1,rfl,k3,k4⟩:=M x w;have:=V.same;exact⟨fF (hU p.1 J),jU.sw (.inr ⟨by omega,by omega⟩) (fun i hi=>by
          show Un U nm (mW nm ns cO.length i);unfold mW;cases hb:Nat.blt i cO.length with
          |false=>exact .inr ⟨by simp only[cond_false];omega,by simp only[cond_false];omega⟩
          |true=>
          have aC:i<cO.length:=by simpa[iW]using hb
          simp only[cond_true];have hin:i<ns.length:=by omega
          have e1:ns.getD i 0=ns[i]'hin:=by rw[dD,fO hin];rfl
          rw[e1];exact fF (hU _ (List.getElem_mem hin))) (V.sw.2 z k1)⟩
        ·obtain⟨J,M,h4⟩:=ad _ new nm p hp;obtain⟨z,aB,ai⟩:=h4 x w;subst ai;exact⟨.inr ⟨J,by omega⟩,jU.sw (.inr ⟨J,by omega⟩) (fun i hi=>.inr ⟨by omega,by omega⟩) (V.sw.1 z aB)⟩
   ·exact bO
  |invoke r m=>exact bO
  |builtin b=>
   cases b
   case len=>
    unfold spec;simp only[];split
    ·unfold tu;split
     ·split
      ·exact iL
      ·exact bO
     ·split
      ·exact iL
      ·exact iL
      ·split
       ·exact iL
       ·exact iL
       ·exact bO
      ·unfold p8;split
       ·split
        ·exact iL
        ·exact bO
       ·exact bO
      ·exact iL
      ·exact bO
     ·exact bO
    ·exact bO
   case append=>
    unfold spec;simp only[];split
    ·rename_i x y t t' w ht;have A:=C x;unfold vE;split
     ·split
      ·split
       ·split
        ·exact qh (jA _ fI) trivial
        ·rename_i ob ab;rw[ab]at A;unfold NB at A;split
         ·split
          ·refine fB fun _=>⟨jA _ fI,fun p hp=>?_,fun p hp z Y=>?_⟩
           ·simp only[dY,kI,or_false]at hp;rcases hp with rfl|rfl
            ·exact .inr ⟨rfl,by simp[fQ,ja7,w,dB,ab,AV.names]⟩
            ·exact .inl ⟨dQ _,by show nm<nm+16;omega⟩
           ·simp only[dY,kI,or_false]at hp;rcases hp with rfl|rfl
            ·simp at Y
            ·simp at Y;subst Y;exact⟨fI,trivial⟩
          ·exact bO
         ·exact bO
        ·rename_i ob g k j ab;refine Sy hσ ⟨rfl,?_⟩;simp[fQ,ja7,w,dB,ab,AV.names]
        ·exact bO
       ·split
        ·rename_i o2 aA;refine Sz (fun n hn=>⟨rfl,?_⟩);refine iI _ ?_;simp only[ja7,jd4,w,dX,jv,dB,mD];rcases hn with rfl|hn
         ·exact jX _ (by rw[aA];simp[AV.names])
         ·exact iI _ hn
        ·exact bO
      ·exact bO
     ·exact bO
    ·exact bO
   case max=>
    unfold spec;simp only[];split
    ·split
     ·exact iL
     ·exact bO
    ·split
     ·exact iL
     ·exact bO
    ·exact bO
   case min=>
    unfold spec;simp only[];split
    ·split
     ·exact iL
     ·exact bO
    ·exact bO
   all_goals exact bO
 |makeFunc fn first ac=>
  cases fn with
  |func f=>
   unfold spec;simp only[];split
   ·exact fB fun _=>fZ (by unfold NB;exact Cr C _)
   ·exact bO
  |_=>exact bO
 |_=>exact bO

end
end
section

def jra(ops:Array Oper)(i j:Nat):Bool:=
 ((ops[i]?).any fun o=>o.after.any fun e=>Region.binds .any e&&e.on==j)||((ops[j]?).any fun o=>o.after.any fun e=>Region.binds .any e&&e.on==i)

def sK(tab:List Nat):List Edge->Nat
 |[]=>0
 |e::r=>bif Region.binds .any e then Nat.lor (Nat.lor (Nat.shiftLeft 1 e.on) (tab.getD e.on 0)) (sK tab r)else sK tab r
def tT:List Oper->List Nat->List Nat
 |[],tab=>tab
 |o::r,tab=>tT r (tab++[sK tab o.after.toList])
def mK(m i:Nat):Bool:=Nat.testBit m i
def kC(ops:Array Oper)(i j:Nat):Bool:=
 jra ops i j||(mK ((tT ops.toList []).getD j 0) i||mK ((tT ops.toList []).getD i 0) j)

def BI(ty:TypeId->Option bD)(Γ:Nat->Option dJ)(M:Nat->List Nat)(ops:Array Oper)(i:Nat):Bool:=
 (List.range ops.size).all fun k=>k==i|| !((ops[k]?).any (iO ty Γ)&&(M k).any fun n=>(M i).any fun m=>Nat.beq n m)||kC ops i k

def oI(ty:TypeId->Option bD)(Γ:Nat->Option dJ)(M:Nat->List Nat)(ops:Array Oper)(i:Nat):Bool:=
 !((ops[i]?).any (iO ty Γ))||BI ty Γ M ops i

def qG(ty:TypeId->Option bD)(e:Operand->AV)(M:Nat->List Nat)(k:Nat)(o:Oper):Bool:=
 match o.op with
 | .load t a=>match e a,ty t with
  | .ref n i,some T=>Nat.blt 0 (bif T.isAgg then T.size else 1)&&(List.range (bif T.isAgg then T.size else 1)).all fun d=>bif Nat.blt (i+d) 1000 then(M (k+10000)).any (fun q=>Nat.beq q (n*1000+(i+d)))else false
  |_,_=>false
 |_=>false
def gX(ty:TypeId->Option bD)(Γ:Nat->Option dJ)(ops:Array Oper)(M:Nat->List Nat)(i:Nat)(o:Oper)(env:List AV)(σ:bJ):Prop:=
 bif iO ty Γ o then(∀n∈fQ σ (dG env) o,n∈M i \/(n∈lV Γ σ (dG env) o/\ ∀k ok,ops[k]? =some ok->iO ty Γ ok=true->k≠i->kC ops i k=false->n∉M k))/\ ∀q∈M (i+10000),q∈oJ Γ σ (dG env) o
 else∀k ok,ops[k]? =some ok->iO ty Γ ok=true->k≠i->kC ops i k=false->∀n∈fQ σ (dG env) o,n∉M k \/qG ty (dG env) M k o=true

def yg(ty:TypeId->Option bD)(Γ:Nat->Option dJ)(ops:Array Oper)(M:Nat->List Nat)(K:List AV->bJ->Nat->Prop):List Oper->Nat->Nat->List AV->bJ->Prop
 |[],_,nm,env,σ=>K env σ nm
 |o::r,k,nm,env,σ=>gX ty Γ ops M k o env σ/\ (gL ty Γ ops σ env nm o).T fun av δ=>yg ty Γ ops M K r (k+1) (nm+16) (gN env o.dst av) (app δ σ)

def uI(ty:TypeId->Option bD)(Γ:Nat->Option dJ)(M:Nat->List Nat)(ops:Array Oper):Bool:=(List.range ops.size).all (oI ty Γ M ops)

section
variable{P:Program}{cx:Cx}{κ:dx}{F:Nat->Prop}{w:World}{nm:Nat}{σ:bJ}{ty:TypeId->Option bD}{Γ:Nat->Option dJ}{ops:Array Oper}{M:Nat->List Nat}{base:Nat}

theorem wP(δ:eP):∀(σ:bJ)(n:Nat),(∀p∈δ,p.1≠n)->app δ σ n=σ n:=by
 induction δ with
 |nil=>intro σ n _;rfl
 |cons p δ b=>
  intro σ n h;obtain⟨o,x⟩:=p;simp only[app];rw[b _ n fun q a=>h q (dZ _ a),jq (Ne.symm (h (o,x) (dU ..)))]

theorem zB(δ:eP):∀(σ σ':bJ)(n:Nat),((∃p∈δ,p.1=n) \/σ n=σ' n)->app δ σ n=app δ σ' n:=by
 induction δ with
 |nil=>
  intro σ σ' n h;rcases h with⟨p,c,_⟩|h
  ·cases c
  ·exact h
 |cons p δ d=>
  intro σ σ' n h;obtain⟨o,x⟩:=p;simp only[app];refine d _ _ n ?_;by_cases b:n=o
  ·subst b;right;rw[iP,iP]
  ·rcases h with⟨q,hq,a⟩|h
   ·rcases dY.1 hq with rfl|hq
    ·exact absurd a.symm b
    ·exact .inl ⟨q,hq,a⟩
   ·right;rw[jq b,jq b];exact h

theorem jp1(env:List AV){x y:Option Tmp}(v u:AV)(h:∀d,x=some d->y≠some d):gN (gN env x v) y u=gN (gN env y u) x v:=by
 cases x with
 |none=>rfl
 |some d=>
  cases y with
  |none=>rfl
  |some e=>
   have a:d≠e:=fun b=>h d rfl (b▸rfl);simp only[gN];exact List.set_comm _ _ a

def Ul(base:Nat)(a:Array Bool)(n:Nat):Prop:=n<base \/∃i,a.getD i false=true/\ ou (base+16*i) n

structure lq(U:Nat->Prop)(env:List AV)(σ:bJ):Prop where
 env:∀t,NB U (env.getD t .und)
 ob:∀o x,σ o=some x->U o/\ gG U x

theorem lq.eval{U:Nat->Prop}{env:List AV}(h:lq U env σ)(x:Operand):NB U (dG env x):=by
 cases x with
 |tmp t=>exact h.env t
 |const v=>
  simp only[dG];cases v
  case agg cs=>simp only[nk];split<;>(unfold NB;trivial)
  all_goals (simp only[nk];unfold NB;trivial)
 |global g=>simp only[dG];unfold NB;trivial
 |func f=>simp only[dG];unfold NB bN;trivial

theorem jpa(e:Live Γ){U:Nat->Prop}{env:List AV}(h:lq U env σ){o:Oper}:ji U nm (fun n=>iO ty Γ o=true/\ n∈fQ σ (dG env) o) (gL ty Γ ops σ env nm o):=by
 have hs:=Q9 e (nm:=nm) (ty:=ty) (Γ:=Γ) (σ:=σ) (fun _=>rfl) (fun x=>h.eval x) h.ob (o:=o);have d:ji U nm (fun n=>iO ty Γ o=true/\ n∈fQ σ (dG env) o) qK:=fB fun _=>fZ (by unfold NB;trivial);unfold gL;split
 ·exact hs
 ·split
  ·exact bO
  ·split
   ·exact d
   ·have c:∀a b:Bool,ji U nm (fun n=>iO ty Γ o=true/\ n∈fQ σ (dG env) o) (bif a then Spec.split b (spec ty Γ σ (dG env) nm o) qK else Spec.split b qK (spec ty Γ σ (dG env) nm o)):=by
     intro a b;cases a
     ·exact Dw d hs
     ·exact Dw hs d
    exact c _ _
   ·exact bO

theorem lq.put{U:Nat->Prop}{env:List AV}{W:Nat->Prop}{d:Option Tmp}{av:AV}{δ:eP}(h:lq U env σ)(f:rz U nm W av δ):lq (Un U nm) (gN env d av) (app δ σ):=by
 refine⟨fun t=>?_,fun o x b=>?_⟩
 ·have old:NB (Un U nm) (env.getD t .und):=NB.mono (fun _ h=>fF h) (h.env t);cases d with
  |none=>exact old
  |some d=>
   simp only[gN];rw[dD];by_cases hd:d=t
   ·subst hd;by_cases c:d<env.length
    ·rw[j6 c];exact f.nb
    ·rw[Ar (qw c),<-dD];exact old
   ·rw[iN hd,<-dD];exact old
 ·have key:∀(δ:eP)(σ:bJ),(∀p∈δ,∀x,p.2=some x->Un U nm p.1/\ gG (Un U nm) x)->(∀o x,σ o=some x->Un U nm o/\ gG (Un U nm) x)->∀o x,app δ σ o=some x->Un U nm o/\ gG (Un U nm) x:=by
   intro δ
   induction δ with
   |nil=>intro σ _ hs o x b;exact hs o x b
   |cons p δ i=>
    intro σ hd hs o x b;obtain⟨n,y⟩:=p;refine i (upd σ n y) (fun q g=>hd q (dZ _ g)) (fun o' x' a=>?_) o x b;by_cases e:o'=n
    ·subst e;rw[iP]at a;exact hd (o',y) (dU ..) x' a
    ·rw[jq e]at a;exact hs o' x' a
  exact key δ σ f.ob (fun o x b=>⟨fF (h.ob o x b).1,gG.mono (fun _ h=>fF h) (h.ob o x b).2⟩) o x b

def TA(ty:TypeId->Option bD)(Γ:Nat->Option dJ)(ops:Array Oper)(M:Nat->List Nat)(base:Nat)(i:Nat)(env:List AV)(σ:bJ)(K:List AV->bJ->Prop):Prop:=
 match ops[i]? with
 |none=>False
 |some o=>gX ty Γ ops M i o env σ/\ (gL ty Γ ops σ env (base+16*i) o).T fun av δ=>K (gN env o.dst av) (app δ σ)

def vQ(ty:TypeId->Option bD)(Γ:Nat->Option dJ)(ops:Array Oper)(M:Nat->List Nat)(base:Nat)(K:List AV->bJ->Prop):Nat->Array Bool->List AV->bJ->Prop
 |0,a,env,σ=>lq (Ul base a) env σ->Region.ready .any ops a=[]/\ K env σ
 |fuel+1,a,env,σ=>lq (Ul base a) env σ->(Region.ready .any ops a=[]->K env σ)/\
   ∀i∈Region.ready .any ops a,TA ty Γ ops M base i env σ (vQ ty Γ ops M base K fuel (a.setIfInBounds i true))

theorem Ci{a:Array Bool}{i:Nat}(hi:i<a.size):Un (Ul base a) (base+16*i)=Ul base (a.setIfInBounds i true):=by
 funext n;simp only[Un,Ul,ou,eq_iff_iff];constructor
 ·rintro((h|⟨j,c,h⟩)|h)
  ·exact .inl h
  ·exact .inr ⟨j,getD_set_true c,h⟩
  ·exact .inr ⟨i,by simp[hi],h⟩
 ·rintro(h|⟨j,c,h⟩)
  ·exact .inl (.inl h)
  ·by_cases b:i=j
   ·subst b;exact .inr h
   ·rw[getD_set_ne false b]at c;exact .inl (.inr ⟨j,c,h⟩)

theorem jdi{a:Array Bool}{i n:Nat}(hi:a.getD i false=false)(h:ou (base+16*i) n):¬Ul base a n:=by
 rintro(b|⟨j,d,b⟩)
 ·have:=h.1;omega
 ·have c:i=j:=by have:=h.1;have:=h.2;have:=b.1;have:=b.2;omega
  subst c;rw[hi]at d;cases d

theorem nU:∀{U:Nat->Prop}{x:AV},NB U x->∀n∈x.names,U n:=by
 intro U;have key:(∀x:AV,NB U x->∀n∈x.names,U n)/\ True:=⟨?_,trivial⟩;exact fun{x}=>key.1 x;intro x;exact AV.rec (motive_1:=fun x=>NB U x->∀n∈x.names,U n) (motive_2:=fun l=>bN U l->∀n∈dB l,U n)
  (fun d _ n hn=>by simp[AV.names]at hn) (fun o h n hn=>by unfold NB at h;simp[AV.names]at hn;subst hn;exact h) (fun o i h n hn=>by unfold NB at h;simp[AV.names]at hn;subst hn;exact h)
  (fun o es k j h n hn=>by unfold NB at h;simp[AV.names]at hn;subst hn;exact h) (fun o g k j h n hn=>by unfold NB at h;simp[AV.names]at hn;subst hn;exact h.1) (fun o g k j es i c h n hn=>by unfold NB at h;simp[AV.names]at hn;subst hn;exact h.1) (fun o g k j es lo m h n hn=>by unfold NB at h;simp[AV.names]at hn;subst hn;exact h.1) (fun l _ n hn=>by simp[AV.names]at hn)
  (fun l a h n hn=>by unfold NB at h;unfold AV.names at hn;exact a h n hn) (fun l a h n hn=>by unfold NB at h;unfold AV.names at hn;exact a h n hn) (fun f l a h n hn=>by unfold NB at h;unfold AV.names at hn;exact a h n hn)
  (fun _ n hn=>by simp[AV.names]at hn) (fun _ n hn=>by simp[AV.names]at hn)
  (fun _ n hn=>by simp[dB]at hn)
  (fun x l e b h n hn=>by
   unfold bN at h;unfold dB at hn;rcases fA.1 hn with hn|hn
   ·exact e h.1 n hn
   ·exact b h.2 n hn) x

theorem Dg{U:Nat->Prop}{env:List AV}(h:lq U env σ)(o:Oper):∀n∈ja7 (dG env) o,U n:=by
 intro n hn;unfold ja7 at hn;split at hn
 ·exact nU (h.eval _) n hn
 ·rename_i a x _;have b:=nU (h.eval a);split at hn
  ·rename_i f;rw[f]at b;rcases dY.1 hn with rfl|hn
   ·exact b n (by simp[AV.names])
   ·exact nU (h.eval x) n hn
  ·exact b n hn
 ·rename_i e;have:∀(l:List (Nat×Operand)),n∈dB (l.map fun p=>dG env p.2)->U n:=by
   intro l
   induction l with
   |nil=>intro hn;simp[dB]at hn
   |cons x l d=>
    intro hn;simp only[dX]at hn;unfold dB at hn;rcases fA.1 hn with hn|hn
    ·exact nU (h.eval x.2) n hn
    ·exact d hn
  exact this _ hn
 ·exact nU (h.eval _) n hn
 ·exact nU (h.eval _) n hn
 ·exact nU (h.eval _) n hn
 ·exact nU (h.eval _) n hn
 ·exact nU (h.eval _) n hn
 ·rename_i args _ _;have:∀(l:List Operand),n∈dB (l.map (dG env))->U n:=by
   intro l
   induction l with
   |nil=>intro hn;simp[dB]at hn
   |cons x l d=>
    intro hn;simp only[dX]at hn;unfold dB at hn;rcases fA.1 hn with hn|hn
    ·exact nU (h.eval x) n hn
    ·exact d hn
  rcases fA.1 hn with hn|hn
  ·exact this _ hn
  ·rename_i callee _ _ _;cases callee with
   |value c=>exact nU (h.eval c) n hn
   |_=>cases hn
 ·cases hn

theorem Cw{U:Nat->Prop}:∀{l:List AV},bN U l->∀n∈mY l,U n
 |[],_,n,hn=>by cases hn
 |x::l,h,n,hn=>by
  unfold bN at h;unfold mY at hn;split at hn
  ·rename_i heq;cases heq
  ·rename_i o l' heq;cases heq;rcases dY.1 hn with rfl|hn
   ·have:=h.1;unfold NB at this;exact this
   ·exact Cw h.2 n hn
  ·rename_i y l' _ heq;cases heq;exact Cw h.2 n hn
theorem uX{U:Nat->Prop}{env:List AV}(h:lq U env σ)(o:Oper):∀n∈fQ σ (dG env) o,U n:=by
 have key:∀(l:List Nat),∀n∈inn σ l,U n:=by
  intro l
  induction l with
  |nil=>intro n hn;cases hn
  |cons a l c=>
   intro n hn;unfold inn at hn;rcases fA.1 hn with hn|hn
   ·split at hn
    ·rename_i cs b;exact Cw (h.ob a _ b).2 n hn
    ·cases hn
   ·exact c n hn
 intro n hn;unfold fQ at hn;rcases fA.1 hn with hn|hn
 ·exact Dg h o n hn
 ·unfold qB at hn;split at hn
  ·exact key _ n hn
  ·cases hn

theorem Ju{i j:Nat}{d f:Oper}(hi:ops[i]? =some d)(l:ops[j]? =some f)(g:∀e∈f.after,Region.binds .any e=true->e.on≠i)(k:∀e∈d.after,Region.binds .any e=true->e.on≠j):jra ops i j=false:=by
 have a:(ops[i]?.any fun o=>o.after.any fun e=>Region.binds .any e&&e.on==j)=false:=by
  rw[hi];simp only[xQ];rw[rR];intro h;obtain⟨e,c,hb⟩:=Array.any_eq_true'.1 h;simp only[fP,beq_iff_eq]at hb;exact k e c hb.1 hb.2
 have b:(ops[j]?.any fun o=>o.after.any fun e=>Region.binds .any e&&e.on==i)=false:=by
  rw[l];simp only[xQ];rw[rR];intro h;obtain⟨e,c,hb⟩:=Array.any_eq_true'.1 h;simp only[fP,beq_iff_eq]at hb;exact g e c hb.1 hb.2
 unfold jra;rw[a,b];rfl

inductive rT(ops:Array Oper):Nat->Nat->Prop where
 |one {j:Nat} {o:Oper} {e:Edge}:ops[j]? =some o->e∈o.after->Region.binds .any e=true->rT ops e.on j
 |far {i j:Nat} {o:Oper} {e:Edge}:ops[j]? =some o->e∈o.after->Region.binds .any e=true->rT ops i e.on->rT ops i j

theorem Ir{tab:List Nat}{j:Nat}{o:Oper}(a:ops[j]? =some o)(c:∀k i,mK (tab.getD k 0) i=true->rT ops i k):∀(l:List Edge),(∀e∈l,e∈o.after)->∀i,mK (sK tab l) i=true->rT ops i j
 |[],_,i,h=>by simp[sK,mK]at h
 |e::l,b,i,h=>by
  have d:=Ir a c l (fun e f=>b e (dZ _ f)) i;unfold sK at h;cases hb:Region.binds .any e with
  |false=>rw[hb]at h;exact d h
  |true=>
   rw[hb]at h;simp only[cond_true]at h;unfold mK at h
   change Nat.testBit ((((1:Nat)<<<e.on)|||(tab.getD e.on 0))|||sK tab l) i=true at h
   rw[xR,xR,mF,mF]at h;rcases h with(h|h)|h
   ·have:e.on=i:=by
     rw[Nat.one_shiftLeft,Aj]at h;exact of_decide_eq_true h
    subst this;exact .one a (b e (dU ..)) hb
   ·exact .far a (b e (dU ..)) hb (c _ _ h)
   ·exact d h

theorem CJ:∀(l:List Oper)(tab:List Nat),(∀k,l[k]? =ops[tab.length+k]?)->(∀k i,mK (tab.getD k 0) i=true->rT ops i k)->∀k i,mK ((tT l tab).getD k 0) i=true->rT ops i k
 |[],tab,_,a,k,i,h=>a k i h
 |o::l,tab,b,a,k,i,h=>by
  unfold tT at h;refine CJ l _ (fun k=>?_) ?_ k i h
  ·have:=b (k+1);simp only[D9,gu,gZ,mq]at this ⊢;rw[this];congr 1;omega
  ·intro k i hb;have h0:ops[tab.length]? =some o:=by simpa using(b 0).symm
   rw[dD]at hb;rcases Al k tab.length with hk|hk|hk
   ·rw[jK hk,<-dD]at hb;exact a k i hb
   ·subst hk;rw[kg (dQ _)]at hb;simp only[ow,mM,rC]at hb;exact Ir h0 a _ (fun e c=>rU.1 c) i hb
   ·rw[lC (by simp only[gu,gZ,mq];omega)]at hb;simp[mK]at hb

def sV(ops:Array Oper)(a:Array Bool):Prop:=∀j o,ops[j]? =some o->a.getD j false=true->∀e∈o.after,Region.binds .any e=true->a.getD e.on false=true

theorem I9{a:Array Bool}(hc:sV ops a){i j:Nat}(h:rT ops i j):(∀o,ops[j]? =some o->∀e∈o.after,Region.binds .any e=true->a.getD e.on false=true)->a.getD i false=true:=by
 induction h with
 |one f c hb=>intro h;exact h _ f _ c hb
 |far f c hb l k=>
  intro h;refine k fun o g e' d b=>?_;exact hc _ o g (h _ f _ c hb) e' d b

theorem Rk{n:Nat}:sV ops (Array.replicate n false):=by
 intro j o _ h;rw[nL,Array.getElem?_replicate]at h;split at h<;>simp at h

theorem Ja{a:Array Bool}{i:Nat}(hc:sV ops a)(h:∀o,ops[i]? =some o->∀e∈o.after,Region.binds .any e=true->a.getD e.on false=true):sV ops (a.setIfInBounds i true):=by
 have mono:∀k,a.getD k false=true->(a.setIfInBounds i true).getD k false=true:=by
  intro k c;rw[nL]at c ⊢;rw[Array.getElem?_setIfInBounds];split
  ·rename_i d;subst d;split
   ·rfl
   ·rename_i hs;rw[AQ (by omega)]at c;simp at c
  ·exact c
 intro j o g l e f hb;by_cases b:j=i
 ·subst b;exact mono _ (h o g e f hb)
 ·refine mono _ (hc j o g ?_ e f hb);rw[nL,Array.getElem?_setIfInBounds_ne (Ne.symm b),<-nL]at l;exact l

theorem QJ{a:Array Bool}{i j:Nat}{n p:Oper}(hc:sV ops a)(hi:ops[i]? =some n)(g:ops[j]? =some p)(l:a.getD i false=false)(m:a.getD j false=false)
  (d:∀e∈p.after,Region.binds .any e=true->a.getD e.on false=true) (f:∀e∈n.after,Region.binds .any e=true->a.getD e.on false=true):kC ops i j=false/\ kC ops j i=false:=by
 have s:jra ops i j=false:=Ju hi g (fun e b hb heq=>by have:=d e b hb;rw[heq,l]at this;cases this) (fun e b hb heq=>by have:=f e b hb;rw[heq,m]at this;cases this);have t:jra ops j i=false:=Ju g hi (fun e b hb heq=>by have:=f e b hb;rw[heq,m]at this;cases this) (fun e b hb heq=>by have:=d e b hb;rw[heq,l]at this;cases this);have q:mK ((tT ops.toList []).getD j 0) i=false:=by
  rw[rR];intro h;have:=I9 hc (CJ (ops:=ops) ops.toList [] (by simp) (by intro k i h;simp[mK]at h) j i h) (fun o c e b hb=>by rw[g]at c;cases c;exact d e b hb);rw[l]at this;cases this
 have r:mK ((tT ops.toList []).getD i 0) j=false:=by
  rw[rR];intro h;have:=I9 hc (CJ (ops:=ops) ops.toList [] (by simp) (by intro k i h;simp[mK]at h) i j h) (fun o c e b hb=>by rw[hi]at c;cases c;exact f e b hb);rw[m]at this;cases this
 unfold kC;rw[s,t,q,r];exact⟨rfl,rfl⟩

theorem IY{i j:Nat}{c:Oper}(b:ops[j]? =some c)(f:iO ty Γ c=true)(d:((M j).any fun n=>(M i).any fun m=>Nat.beq n m)=true)(a:j≠i)(e:kC ops i j=false):BI ty Γ M ops i=false:=by
 rw[rR];intro h;unfold BI at h;have:=(iA.1 h) j (jo.2 (Array.getElem?_eq_some_iff.1 b).1);simp[b,f,d,e,a]at this

theorem GR{l l':List Nat}{n:Nat}(h:n∈l)(a:n∈l'):(l.any fun n=>l'.any fun m=>Nat.beq n m)=true:=
 uo.2 ⟨n,h,uo.2 ⟨n,a,Nat.beq_refl n⟩⟩

theorem zk{i:Nat}{o:Oper}{env:List AV}(h:gX ty Γ ops M i o env σ)(a:iO ty Γ o=true){n:Nat}(b:n∈fQ σ (dG env) o):n∈M i \/(n∈lV Γ σ (dG env) o/\ ∀k ok,ops[k]? =some ok->iO ty Γ ok=true->k≠i->kC ops i k=false->n∉M k):=by
 unfold gX at h;rw[a]at h;exact h.1 n b

theorem vo{ns:List Nat}{nm:Nat}:∀{l:List AV},Bo l=true->bN (· <ns.length) (jf (ixN ns) l)->jf (mW nm ns ns.length) (jf (ixN ns) l)=l
 |[],_,_=>rfl
 |x::l,h,a=>by
  have c:∀o,ixN ns o<ns.length->mW nm ns ns.length (ixN ns o)=o:=fun o e=>by
   unfold mW;rw[show Nat.blt (ixN ns o) ns.length=true by simpa[iW]using e];simp only[cond_true];rw[dD,wU e];rfl
  simp only[jf]at a ⊢;unfold bN at a;cases x with
  |dat d=>rw[vo (l:=l) h a.2];rfl
  |own o=>
   have b:=a.1;simp only[AV.ren]at b ⊢;unfold NB at b;rw[vo (l:=l) h a.2,c o b]
  |ref o i=>
   have b:=a.1;simp only[AV.ren]at b ⊢;unfold NB at b;rw[vo (l:=l) h a.2,c o b]
  |und=>rw[vo (l:=l) h a.2];rfl
  |unk=>rw[vo (l:=l) h a.2];rfl
  |_=>cases h
theorem Qi{nm f:Nat}{args:List AV}{g:List TypeId}{S:dJ}{s:List D}{ns rd:List Nat}(hS:Γ f=some S)(d:fM σ S.lend args=some (s,ns,rd)){av:AV}{δ:eP}(e:(kD ty Γ σ nm f args g).pre)(hR:(kD ty Γ σ nm f args g).R av δ){n:Nat}(B:n∈S.kp.filterMap fun j=>ns[j]?)(hb:wH σ n=true)(A:¬ou nm n):app δ σ n=σ n:=by
 unfold kD at e hR;simp only[hS,d,gW]at e hR;cases a:oP σ ns with
 |none=>rw[a]at e;exact e.elim
 |some obs=>
  rw[a]at e hR;obtain⟨_,L,I,N,K,J⟩:=(show _/\ _/\ _/\ _/\ _/\ _ from e);obtain⟨r,new,cO,b,_,rfl⟩:=(show∃r new cO,_/\ _/\ _ from hR);have y:=J r new cO b;obtain⟨q,v⟩:=xJ a;obtain⟨j,u,k⟩:=qx.1 B;obtain⟨G,H⟩:=S.NS _ obs r new cO b;have m:=H (fun h=>by rw[h]at u;cases u);obtain⟨x,z,C⟩:=v j n k;have few:=y.few;have i:∀(δ ε:eP)(σ:bJ),app (δ++ε) σ=app ε (app δ σ):=by
   intro δ
   induction δ with
   |nil=>intro ε σ;rfl
   |cons p δ E=>intro ε σ;obtain⟨o,x⟩:=p;exact E ε _
  rw[i,Dr,if_neg (fun h=>A ⟨h.1,by omega⟩),(Dy ns cO nm new.length σ n I (by omega)).1 j k,G j u,z];have c:=hb;unfold wH at c;rw[C]at c ⊢;cases x with
  |box T l=>
   have t:=K _ (bT z);simp only[bH.ren,bH.eT,jU]at t;rw[q]at t;simp only[gW,bH.ren,bH.eT];rw[m,q,vo c t]
  |_=>cases c
theorem Cz{f:Nat->Nat}:∀{l:List AV}{c:Nat},(jf f l)[c]? =(l[c]?).map (AV.ren f)
 |[],c=>rfl
 |x::l,0=>rfl
 |x::l,c+1=>by
  show(jf f l)[c]? =_;rw[Cz (l:=l)];rfl
theorem CZ{f:Nat->Nat}:∀{l:List AV},(jf f l).length=l.length
 |[]=>rfl
 |x::l=>by simp only[jf,gZ,CZ (l:=l)]
def yE(σ σ':bJ)(n c:Nat):Prop:=∃T l l' d,σ n=some (.box T l)/\ σ' n=some (.box T l')/\ l'.length=l.length/\ l[c]? =some (.dat d)/\ l'[c]? =some (.dat d)
theorem QM{nm f:Nat}{args:List AV}{i:List TypeId}{S:dJ}{o:List D}{ns rd:List Nat}(hS:Γ f=some S)(c:fM σ S.lend args=some (o,ns,rd)){av:AV}{δ:eP}(g:(kD ty Γ σ nm f args i).pre)(hR:(kD ty Γ σ nm f args i).R av δ){q:Nat×Nat}(B:q∈S.kc){n:Nat}(p:ns[q.1]? =some n)(z:∀n∈ns,¬ou nm n):yE σ (app δ σ) n q.2:=by
 unfold kD at g hR;simp only[hS,c,gW]at g hR;cases a:oP σ ns with
 |none=>rw[a]at g;exact g.elim
 |some obs=>
  rw[a]at g hR;obtain⟨_,O,L,Q,U,N⟩:=(show _/\ _/\ _/\ _/\ _/\ _ from g);obtain⟨r,new,cO,b,_,rfl⟩:=(show∃r new cO,_/\ _/\ _ from hR);have m:=N r new cO b;obtain⟨A,s⟩:=xJ a;obtain⟨T,l,l',d,e,I,J,u,K⟩:=S.NT _ obs r new cO b q B;obtain⟨x,E,H⟩:=s q.1 n p;have few:=m.few;have C:=m.same;rw[E]at e;have j:app (nT nm new.length ns cO++oU nm new) σ n=some (.box T (jf (mW nm ns cO.length) l')):=by
   rw[I7,Dr,if_neg (fun h=>z n (bT p) ⟨h.1,by omega⟩),(Dy ns cO nm new.length σ n L (by omega)).1 q.1 p,I];rfl
  cases x with
  |box v l0=>
   simp only[bH.ren,bH.eT,bU,bH.box.injEq]at e;obtain⟨rfl,rfl⟩:=e;rw[Cz]at u;obtain⟨y,G,k⟩:=kG.1 u;have t:y=.dat d:=by cases y<;>simp[AV.ren]at k;rw[k]
   subst t;exact⟨v,l0,_,d,H,j,by rw[CZ,J,CZ],G,by rw[Cz,K];rfl⟩
  |arr=>simp[bH.ren,bH.eT]at e
  |tab=>simp[bH.ren,bH.eT]at e
  |gF=>simp[bH.ren,bH.eT]at e
  |mp=>simp[bH.ren,bH.eT]at e
theorem CV{nm:Nat}{env:List AV}{o:Oper}{av:AV}{δ:eP}(a:(gL ty Γ ops σ env nm o).pre)(hR:(gL ty Γ ops σ env nm o).R av δ){n:Nat}(c:n∈lV Γ σ (dG env) o)(m:¬ou nm n):app δ σ n=σ n:=by
 have key:∀av δ,(spec ty Γ σ (dG env) nm o).pre->(spec ty Γ σ (dG env) nm o).R av δ->app δ σ n=σ n:=by
  intro av δ a hR;have hb:=(OH c).2;unfold lV at c;split at c
  ·rename_i f args at_ heq;split at c
   ·rename_i S hS;split at c
    ·rename_i k ns rd e;unfold uK at c;have hs:spec ty Γ σ (dG env) nm o=kD ty Γ σ nm f (args.toList.map (dG env)) at_.toList:=by
      unfold spec;rw[heq];simp only[dG,mD]
     rw[hs]at a hR;exact Qi hS e a hR (D7.1 c).1 hb m
    ·cases c
   ·cases c
  ·cases c
 have skip:∀av δ,qK.R av δ->app δ σ n=σ n:=by
  intro av δ h;obtain⟨_,rfl⟩:=h;rfl
 unfold gL at a hR;cases i:o.guard with
 |none=>rw[i]at a hR;exact key _ _ a hR
 |some l=>
  obtain⟨j,g⟩:=l;rw[i]at a hR;simp only[]at a hR;cases hd:(ops[j]?).bind (·.dst)with
  |none=>rw[hd]at hR;exact hR.elim
  |some d=>
   rw[hd]at a hR;simp only[]at a hR;generalize env.getD d .und=v at a hR;split at hR
   ·exact skip _ _ hR
   ·rename_i b;cases g<;>cases b
    ·exact key _ _ a hR
    ·exact skip _ _ hR
    ·exact skip _ _ hR
    ·exact key _ _ a hR
   ·exact hR.elim
theorem Qj{nm:Nat}{U:Nat->Prop}{env:List AV}{o:Oper}{av:AV}{δ:eP}(hN:lq U env σ)(hU:∀n,U n->¬ou nm n)(a:(gL ty Γ ops σ env nm o).pre)(hR:(gL ty Γ ops σ env nm o).R av δ){n c:Nat}(hc:c<1000)(k:n*1000+c∈oJ Γ σ (dG env) o):yE σ (app δ σ) n c \/app δ σ=σ:=by
 have key:∀av δ,(spec ty Γ σ (dG env) nm o).pre->(spec ty Γ σ (dG env) nm o).R av δ->yE σ (app δ σ) n c:=by
  intro av δ a hR;unfold oJ at k;split at k
  ·rename_i f args at_ heq;split at k
   ·rename_i S hS;split at k
    ·rename_i p ns rd i;obtain⟨q,A,g⟩:=qx.1 k;have hs:spec ty Γ σ (dG env) nm o=kD ty Γ σ nm f (args.toList.map (dG env)) at_.toList:=by
      unfold spec;rw[heq];simp only[dG,mD]
     rw[hs]at a hR;split at g
     ·rename_i B r;cases hb:Nat.blt q.2 1000 with
      |false=>rw[hb]at g;cases g
      |true=>
       rw[hb]at g;have y:q.2<1000:=by simpa[iW]using hb
       have e:=gT g;obtain⟨rfl,t⟩:B=n/\ q.2=c:=by omega
       subst t;refine QM hS i a hR A r fun m z=>hU m (uX hN o m ?_);have x:=vG S.lend _ p ns rd i m z;unfold fQ qB;have h0:ja7 (dG env) o=dB (args.toList.map (dG env)):=by
        unfold ja7;rw[heq];simp only[jd4,dG,AV.names,dB,mD]
       rw[heq,h0];exact x
     ·cases g
    ·cases k
   ·cases k
  ·cases k
 have skip:∀av δ,qK.R av δ->app δ σ=σ:=by
  intro av δ h;obtain⟨_,rfl⟩:=h;rfl
 unfold gL at a hR;cases s:o.guard with
 |none=>rw[s]at a hR;exact .inl (key _ _ a hR)
 |some u=>
  obtain⟨j,l⟩:=u;rw[s]at a hR;simp only[]at a hR;cases hd:(ops[j]?).bind (·.dst)with
  |none=>rw[hd]at hR;exact hR.elim
  |some d=>
   rw[hd]at a hR;simp only[]at a hR;generalize env.getD d .und=v at a hR;split at hR
   ·exact .inr (skip _ _ hR)
   ·rename_i b;cases l<;>cases b
    ·exact .inl (key _ _ a hR)
    ·exact .inr (skip _ _ hR)
    ·exact .inr (skip _ _ hR)
    ·exact .inl (key _ _ a hR)
   ·exact hR.elim
theorem Ql{σ':bJ}{t:TypeId}{n i:Nat}{T:bD}(hT:ty t=some T)(h:∀d,d<(bif T.isAgg then T.size else 1)->yE σ σ' n (i+d))(h0:(bif T.isAgg then T.size else 1)=0->σ' n=σ n):jQ ty σ' t (.ref n i)=jQ ty σ t (.ref n i):=by
 by_cases q:(bif T.isAgg then T.size else 1)=0
 ·unfold jQ;simp only[hT,h0 q]
 have hb:∃a l l',σ n=some (.box a l)/\ σ' n=some (.box a l')/\ l'.length=l.length:=by
  obtain⟨a,l,l',d,b,c,e,_⟩:=h 0 (by omega);exact⟨a,l,l',b,c,e⟩
 obtain⟨a,l,l',b,c,e⟩:=hb;have hc:∀d,d<(bif T.isAgg then T.size else 1)->l'[i+d]? =l[i+d]?:=fun d hd=>by
  obtain⟨r,m,s,x,f,g,_,k,o⟩:=h d hd;rw[b]at f;rw[c]at g;cases f;cases g;rw[k,o]
 unfold jQ;simp only[hT,b,c,e];cases hA:T.isAgg with
 |true=>
  rw[hA]at hc;simp only[cond_true]at hc;have:(l'.drop i).take T.size=(l.drop i).take T.size:=by
   refine rJ fun j=>?_;rw[nI,nI];split
   ·rename_i p;rw[iX,iX,hc j p]
   ·rfl
  simp only[if_true,this]
 |false=>
  rw[hA]at hc;simp only[cond_false]at hc;have:=hc 0 (by omega);rw[lN]at this;simp only[bW,if_false,this]
theorem Ca{C:bJ}{i j:Nat}{g q:Oper}{env:List AV}{a:Array Bool}{c:Nat}(hi:ops[i]? =some g)(D:ops[j]? =some q)(k:i≠j)(t:kC ops i j=false/\ kC ops j i=false)
  (b:oI ty Γ M ops i=true) (u:a.getD i false=false) (v:c=base+16*i) (hN:lq (Ul base a) env σ) (z:gX ty Γ ops M i g env σ) (f:gX ty Γ ops M j q env C) {av:AV} {δ:eP}
  (E:(gL ty Γ ops σ env c g).pre) (hR:(gL ty Γ ops σ env c g).R av δ)
  (H:rz (Ul base a) c (fun n=>iO ty Γ g=true/\ n∈fQ σ (dG env) g) av δ) {n:Nat} (o:n∈fQ C (dG env) q) (hU:Ul base a n) (y:qG ty (dG env) M i q=false):app δ σ n=σ n:=by
 have l:¬ou c n:=fun h=>by subst v;exact jdi u h hU
 by_cases B:n∈lV Γ σ (dG env) g
 ·exact CV E hR B l
 refine wP δ σ n fun p A heq=>?_;rcases H.key p A with G|⟨d,m⟩
 ·exact l (heq▸G)
 ·rw[heq]at m;have r:n∈M i:=(zk z d m).resolve_right fun h=>B h.1;have e:iO ty Γ q=false:=by
   rw[rR];intro e;rcases zk f e o with s|⟨_,x⟩
   ·unfold oI at b;rw[hi]at b;simp only[xQ,d,fT,xZ]at b;have:=IY (Γ:=Γ) D e (GR s r) (Ne.symm k) t.1;rw[this]at b;cases b
   ·exact x i g hi d k t.2 r
  unfold gX at f;rw[e]at f;rcases f i g hi d k t.2 n o with h|h
  ·exact h r
  ·rw[y]at h;cases h
theorem QF{σ':bJ}{i:Nat}{o:Oper}{env:List AV}(h:∀n∈ja7 (dG env) o,σ' n=σ n):gX ty Γ ops M i o env σ'↔gX ty Γ ops M i o env σ:=by
 unfold gX;rw[Ro h,Rn h,Rm h]

theorem GL{k:Nat}{o:Oper}{env:List AV}{b:Option Tmp}{v:AV}(h:∀d,b=some d->d∉o.looksAt ops):qG ty (dG (gN env b v)) M k o=qG ty (dG env) M k o:=by
 have c:=xH (env:=env) (v:=v) h;unfold qG;split
 ·rename_i t a heq;rw[c a (by rw[heq];simp[Op.operands])]
 ·rfl
theorem OI{i:Nat}{o:Oper}{env:List AV}{a:Option Tmp}{v:AV}(h:∀d,a=some d->d∉o.looksAt ops)(b:gX ty Γ ops M i o env σ):gX ty Γ ops M i o (gN env a v) σ:=by
 unfold gX at*
 simp only[I5 h,IQ h,IL h,GL h];exact b

theorem Gj{i j:Nat}{z c:Oper}{env:List AV}{f:Array Bool}{u uH:Nat}(hi:ops[i]? =some z)(L:ops[j]? =some c)(x:i≠j)(K:kC ops i j=false/\ kC ops j i=false)
  (v:oI ty Γ M ops i=true) (g:f.getD i false=false) (l:u=base+16*i) (hN:lq (Ul base f) env σ) (r:gX ty Γ ops M i z env σ) {av:AV} {δ:eP} (hoj:gX ty Γ ops M j c env (app δ σ) \/gX ty Γ ops M j c env σ)
  (H:(gL ty Γ ops σ env u z).pre) (hR:(gL ty Γ ops σ env u z).R av δ)
  (I:rz (Ul base f) u (fun n=>iO ty Γ z=true/\ n∈fQ σ (dG env) z) av δ):(gX ty Γ ops M j c env (app δ σ)↔gX ty Γ ops M j c env σ)/\ gL ty Γ ops (app δ σ) env uH c=gL ty Γ ops σ env uH c:=by
 cases b:qG ty (dG env) M i c with
 |false=>
  have s:gX ty Γ ops M j c env (app δ σ)↔gX ty Γ ops M j c env σ:=by
   refine QF fun n y=>?_;rcases hoj with hoj|hoj
   ·exact Ca hi L x K v g l hN r hoj H hR I (iI _ y) (Dg hN c n y) b
   ·exact Ca hi L x K v g l hN r hoj H hR I (iI _ y) (Dg hN c n y) b
  refine⟨s,Pv fun n y=>?_⟩;have D:gX ty Γ ops M j c env σ:=hoj.elim s.1 id;exact Ca hi L x K v g l hN r D H hR I y (uX hN c n y) b
 |true=>
  unfold qG at b;split at b
  ·rename_i t a heq;split at b
   ·rename_i n k T A hT;have O:iO ty Γ c=false:=by unfold iO;rw[heq]
    have E:∀σ,fQ σ (dG env) c=[n]:=fun σ=>by
     unfold fQ qB ja7;rw[heq];simp only[A,AV.names,mD]
    have s:gX ty Γ ops M j c env (app δ σ)↔gX ty Γ ops M j c env σ:=by
     unfold gX;rw[O];simp only[cond_false,E]
    refine⟨s,?_⟩;have hs:spec ty Γ (app δ σ) (dG env) uH c=spec ty Γ σ (dG env) uH c:=by
     unfold spec;rw[heq];simp only[A];by_cases C:iO ty Γ z=true
     ·have S:=r;unfold gX at S;rw[C]at S;by_cases o:app δ σ=σ
      ·rw[o]
      rw[fP]at b;have X:¬(bif T.isAgg then T.size else 1)=0:=fun h=>by rw[h]at b;exact absurd b.1 (by decide)
      refine Ql hT (fun d hd=>?_) fun h=>absurd h X;have G:=iA.1 b.2 d (jo.2 hd);cases hb:Nat.blt (k+d) 1000 with
      |false=>rw[hb]at G;cases G
      |true=>
       rw[hb]at G;obtain⟨q,U,V⟩:=uo.1 G;have e:=eG V;subst e;rcases Qj hN (fun m N h=>by subst l;exact jdi g h N) H hR (by simpa[iW]using hb) (S.2 _ U)with h|h
       ·exact h
       ·exact absurd h o
     ·have J:app δ σ n=σ n:=by
       refine wP δ σ n fun p Q B=>?_;rcases I.key p Q with W|⟨N,_⟩
       ·subst l;exact jdi g (B▸W) (uX hN c n (by rw[E];exact iR.2 rfl))
       ·exact C N
      unfold jQ;simp only[J]
    unfold gL;rw[hs]
   ·cases b
  ·cases b
end
end
section
section
variable{P:Program}{cx:Cx}{κ:dx}{F:Nat->Prop}{w:World}{nm:Nat}{σ:bJ}{ty:TypeId->Option bD}{Γ:Nat->Option dJ}{ops:Array Oper}{M:Nat->List Nat}{base:Nat}

theorem Spec.SX{K a:AV->eP->Prop}(h:∀av δ,K av δ->a av δ){s:Spec}(hs:s.T K):s.T a:=by
 rw[Spec.o7]at*
 exact⟨hs.1,fun av δ b=>h _ _ (hs.2 av δ b)⟩

theorem Py{i:Nat}{o:Oper}{env:List AV}{a:Option Tmp}{v:AV}(h:∀d,a=some d->d∉o.looksAt ops)(b:gX ty Γ ops M i o (gN env a v) σ):gX ty Γ ops M i o env σ:=by
 unfold gX at*
 simp only[I5 h,IQ h,IL h,GL h]at b;exact b

theorem Ra{i j:Nat}{o r:Oper}{env:List AV}{f:Array Bool}(hi:ops[i]? =some o)(V:ops[j]? =some r)(s:i≠j)(H:kC ops i j=false/\ kC ops j i=false)
  (k:oI ty Γ M ops i=true) (z:f.getD i false=false) (A:f.getD j false=false) (hN:lq (Ul base f) env σ) (L:gX ty Γ ops M i o env σ) (N:gX ty Γ ops M j r env σ) {av u:AV} {δ ε:eP}
  (X:(gL ty Γ ops σ env (base+16*i) o).pre) (hR:(gL ty Γ ops σ env (base+16*i) o).R av δ) (O:(gL ty Γ ops σ env (base+16*j) r).pre) (G:(gL ty Γ ops σ env (base+16*j) r).R u ε)
  (Y:rz (Ul base f) (base+16*i) (fun n=>iO ty Γ o=true/\ n∈fQ σ (dG env) o) av δ)
  (E:rz (Ul base f) (base+16*j) (fun n=>iO ty Γ r=true/\ n∈fQ σ (dG env) r) u ε):app δ (app ε σ)=app ε (app δ σ):=by
 funext n;by_cases hd:∃p∈δ,p.1=n
 ·by_cases S:∃q∈ε,q.1=n
  ·have hs:app δ σ n=σ n/\ app ε σ n=σ n:=by
    obtain⟨p,Q,rfl⟩:=hd;obtain⟨q,D,heq⟩:=S;rcases Y.key p Q with U|⟨K,t⟩
    ·exfalso;rcases E.key q D with m|⟨l,g⟩
     ·have a:=U.1;have b:=U.2;have c:=m.1;have d:=m.2
      omega
     ·exact jdi z U (heq▸uX hN r q.1 g)
    ·rcases E.key q D with m|⟨l,g⟩
     ·exact absurd (uX hN o p.1 t) (jdi A (heq▸m))
     ·rw[heq]at g;have hU:=uX hN o p.1 t;have fi:¬ou (base+16*i) p.1:=fun h=>jdi z h hU;have W:¬ou (base+16*j) p.1:=fun h=>jdi A h hU;rcases zk L K t with v|⟨I,B⟩<;>rcases zk N l g with x|⟨J,C⟩
      ·exfalso;unfold oI at k;rw[hi]at k;simp only[xQ,K,fT,xZ]at k;have:=IY (Γ:=Γ) V l (GR x v) (Ne.symm s) H.1;rw[this]at k;cases k
      ·exact absurd v (C i o hi K s H.2)
      ·exact absurd x (B j r V l (Ne.symm s) H.1)
      ·exact⟨CV X hR I fi,CV O G J W⟩
   rw[zB δ _ σ n (.inl hd),zB ε _ σ n (.inl S),hs.1,hs.2]
  ·have T:∀q∈ε,q.1≠n:=fun q h e=>S ⟨q,h,e⟩;rw[wP ε _ _ T];exact zB δ _ _ _ (.inl hd)
 ·have y:∀p∈δ,p.1≠n:=fun p h e=>hd ⟨p,h,e⟩;rw[wP δ _ _ y];exact zB ε _ _ _ (.inr (wP δ _ _ y).symm)

theorem tN{a:Array Bool}{i:Nat}(h:a.getD i true=false):a.getD i false=false:=by
 rw[nL]at*
 cases c:a[i]? with
 |none=>rfl
 |some b=>rw[c]at h;simpa using h

theorem zX{a:Array Bool}{i:Nat}(h:a.getD i true=false):i<a.size:=by
 rw[nL]at h;rcases jC i a.size with h'|h'
 ·exact h'
 ·rw[AQ h']at h;simp at h

theorem Rf(hl:Live Γ)(J:∀k,oI ty Γ M ops k=true){K:List AV->bJ->Prop}{i:Nat}{G:Oper}(hi:ops[i]? =some G):
  ∀(c:Nat)(a:Array Bool)(env:List AV)(σ:bJ),
   (∀j v,ops[j]? =some v->j≠i->a.getD j true=false->(∀e∈v.after,Region.binds .any e=true->e.on≠i)->G.apart ops v=true)->
   sV ops a->i∈Region.ready .any ops a->TA ty Γ ops M base i env σ (vQ ty Γ ops M base K c (a.setIfInBounds i true))->vQ ty Γ ops M base K (c+1) a env σ:=by
 intro c
 induction c with
 |zero=>
  intro a env σ _ I C H;intro hN;refine⟨fun h=>(by rw[h]at C;cases C),fun j hj=>?_⟩;by_cases b:j=i
  ·subst b;exact H
  ·exfalso;unfold TA at H;simp only[hi]at H;obtain⟨hp,hK⟩:=Spec.o7.1 H.2;obtain⟨⟨av,δ,hR⟩,ht⟩:=jpa (nm:=base+16*i) (ty:=ty) (ops:=ops) hl hN (o:=G) hp;have hs:=zX (mem_ready.1 C).1;have p:=hK av δ hR (by rw[<-Ci (base:=base) hs];exact hN.put (ht av δ hR));have:=ready_mono hj b;rw[p.1]at this;cases this
 |succ c ih=>
  intro a env σ u I C H;intro hN;refine⟨fun h=>(by rw[h]at C;cases C),fun j hj=>?_⟩;by_cases b:j=i
  ·subst b;exact H
  obtain⟨f,v,l,s⟩:=mem_ready.1 hj;have m:=(mem_ready.1 C).1;obtain⟨_,am,E,t⟩:=mem_ready.1 C;rw[hi]at E;cases E;have X:∀e∈v.after,Region.binds .any e=true->e.on≠i:=fun e S hb heq=>by
   have p:=s e S hb;rw[heq,tN m]at p;cases p
  have ai:∀e∈G.after,Region.binds .any e=true->e.on≠j:=fun e S hb heq=>by
   have p:=t e S hb;rw[heq,tN f]at p;cases p
  have z:kC ops i j=false/\ kC ops j i=false:=QJ I hi l (tN m) (tN f) s t;obtain⟨a1,a2,a3⟩:=Oper.apart_spec (u j v l b f X);have aj:=zX m;have ak:=zX f;have U:=tN m;have V:=tN f;have H0:=H;unfold TA at H0;simp only[hi]at H0;obtain⟨x,ae⟩:=H0;obtain⟨A,ab⟩:=Spec.o7.1 ae;obtain⟨⟨aa,δ0,ad⟩,O⟩:=jpa (nm:=base+16*i) (ty:=ty) (ops:=ops) hl hN (o:=G) A;have g:∀av δ,(gL ty Γ ops σ env (base+16*i) G).R av δ->gX ty Γ ops M j v env σ/\
    (gL ty Γ ops σ env (base+16*j) v).T fun n δ'=>vQ ty Γ ops M base K c ((a.setIfInBounds i true).setIfInBounds j true) (gN (gN env G.dst av) v.dst n) (app δ' (app δ σ)):=by
   intro av δ hR;have ac:lq (Ul base (a.setIfInBounds i true)) (gN env G.dst av) (app δ σ):=by rw[<-Ci (base:=base) aj];exact hN.put (O av δ hR)
   have p:=(ab av δ hR ac).2 j (ready_mono hj b);unfold TA at p;simp only[l]at p;obtain⟨q,y⟩:=p;have D:=Py a1 q;obtain⟨N,L⟩:=Gj (uH:=base+16*j) hi l (Ne.symm b) z (J i) U rfl hN x (.inl D) A hR (O av δ hR);refine⟨N.1 D,?_⟩;rw[IE a1,L]at y;exact y
  obtain⟨q,Q⟩:=g aa δ0 ad;obtain⟨B,_⟩:=Spec.o7.1 Q;obtain⟨_,Y⟩:=jpa (nm:=base+16*j) (ty:=ty) (ops:=ops) hl hN (o:=v) B;unfold TA;simp only[l];refine⟨q,Spec.o7.2 ⟨B,fun n δ' r=>?_⟩⟩;refine ih (a.setIfInBounds j true) _ _ ?_ (Ja I fun o ho e S hb=>by rw[l]at ho;cases ho;exact s e S hb) (ready_mono C (Ne.symm b)) ?_
  ·intro k ok hk af Z ah;refine u k ok hk af ?_ ah;by_cases W:j=k
   ·subst W;exact f
   ·rw[getD_set_ne true W]at Z;exact Z
  ·unfold TA;simp only[hi];obtain⟨N,L⟩:=Gj (uH:=base+16*i) l hi b ⟨z.2,z.1⟩ (J j) V rfl hN q (.inr x) B r (Y n δ' r);refine⟨OI a3 (N.2 x),?_⟩;rw[IE a3,L];refine Spec.o7.2 ⟨A,fun av δ hR=>?_⟩;obtain⟨_,y⟩:=g av δ hR;have:=(Spec.o7.1 y).2 n δ' r;rw[Array.setIfInBounds_comm _ _ b,jp1 env n av (fun d hd h=>a2 d h hd),Ra hi l (Ne.symm b) z (J i) U V hN x q A hR B r (O av δ hR) (Y n δ' r)];exact this

theorem jn5(m:Live Γ)(d:∀k,oI ty Γ M ops k=true){K:List AV->bJ->Nat->Prop}:∀(l:List Oper)(k:Nat)(a:Array Bool)(env:List AV)(σ:bJ),(∀j,l[j]? =ops[k+j]?)->k+l.length=ops.size->
  sV ops a->Region.lexFrom .any ops l.length k a=true->yg ty Γ ops M K l k (base+16*k) env σ->vQ ty Γ ops M base (fun env σ=>K env σ (base+16*ops.size)) l.length a env σ
 |[],k,a,env,σ,_,g,b,hB,h=>fun _=>⟨by simpa[Region.lexFrom]using hB,by simp at g;subst g;exact h⟩
 |o::l,k,a,env,σ,f,g,b,hB,h=>by
  have h0:ops[k]? =some o:=by simpa using(f 0).symm
  simp only[gZ,Region.lexFrom,fP]at hB;obtain⟨⟨p,s⟩,i⟩:=hB;refine Rf m d h0 l.length a env σ (Region.free_spec h0 s) b (by simpa using p) ?_;unfold TA;simp only[h0];refine⟨h.1,Spec.SX (fun av δ hK=>?_) h.2⟩;exact jn5 m d l (k+1) _ _ _ (fun j=>by have:=f (j+1);simpa[j5,xU 1 j]using this) (by simp only[gZ]at g;omega) (Ja b fun o' n e r hb=>by obtain⟨_,t,q,c⟩:=mem_ready.1 (show k∈Region.ready .any ops a by simpa using p);rw[q]at n;cases n;exact c e r hb) i (by rw[show base+16*(k+1)=base+16*k+16 by omega];exact hK)

theorem jI.F6{U:Nat->Prop}{env:List AV}{a:Act}(h:jI cx κ F U env σ a w):lq U env σ:=⟨h.env.nb,h.gP.nb⟩

theorem jI.un{U U':Nat->Prop}{env:List AV}{a:Act}(h:jI cx κ F U env σ a w)(b:∀n,U n->U' n):jI cx κ F U' env σ a w:=
 ⟨⟨h.env.size,h.env.qp,h.env.rv,fun t=>NB.mono b (h.env.nb t)⟩,h.gP.un b⟩

theorem Rh(y:∀t x,ty t=some x->bS P t x)(H:∀f S,Γ f=some S->FnOK P cx.J f S){K:List AV->bJ->Prop}{Q:Exit->Act->World->Prop}:
  ∀(d:Nat)(c:Array Bool)(κ:dx)(F:Nat->Prop)(env:List AV)(σ:bJ)(a:Act)(w:World),jI cx κ F (Ul base c) env σ a w->c.size=ops.size->vQ ty Γ ops M base K d c env σ->
   (∀κ' F' e σ' a' w',K e σ'->(∀b,F b->F' b)->Wy cx F w w'->jI cx κ' F' (· <base+16*ops.size) e σ' a' w'->Q .normal a' w')->wpAny P .any ops Q d c a w:=by
 have k:∀(c:Array Bool)(κ:dx)(F:Nat->Prop)(env:List AV)(σ:bJ)(a:Act)(w:World),jI cx κ F (Ul base c) env σ a w->c.size=ops.size->jI cx κ F (· <base+16*ops.size) env σ a w:=by
  intro c κ F env σ a w g hs;refine g.un ?_;rintro n (h|⟨i,hi,h⟩)
  ·show n<_;omega
  ·have:i<c.size:=by
    rcases jC i c.size with h'|h'
    ·exact h'
    ·rw[nL,AQ h']at hi;simp at hi
   have:=h.2;show n<_;omega
 intro d
 induction d with
 |zero=>
  intro c κ F env σ a w g hs h r;obtain⟨s,u⟩:=h g.F6;exact⟨s,r κ F env σ a w u (fun _ h=>h) (Wx.refl _ _) (k c κ F env σ a w g hs)⟩
 |succ d I=>
  intro c κ F env σ a w g hs h r;obtain⟨s,u⟩:=h g.F6;refine⟨fun h0=>r κ F env σ a w (s h0) (fun _ h=>h) (Wx.refl _ _) (k c κ F env σ a w g hs),fun i hi=>?_⟩;have hT:=u i hi;have q:=(mem_ready.1 hi).1;unfold TA at hT;unfold wpOp;cases m:ops[i]? with
  |none=>simp only[m]at hT
  |some o=>
   simp only[m]at hT ⊢;have:=zU (nm:=base+16*i) (ops:=ops) (next:=wpAny P .any ops Q d (c.setIfInBounds i true)) (Q:=Q) y H g (fun j R=>jdi (tN q) ⟨by omega,by omega⟩) hT.2 ?_
   ·split
    ·rename_i z;rw[if_pos z]at this;exact .inl this
    ·rename_i z;rw[if_neg z]at this;exact this
   ·intro av δ v κ' F' w' hK hF hW p;rw[Ci (base:=base) (zX q)]at p;refine I _ κ' F' _ _ _ w' p (by simpa using hs) hK ?_;intro N A l O B L C D E G;exact r N A l O B L C (fun b hb=>D b (hF b hb)) (hW.trans E (fun b hb=>hb.imp (hF b) id)) G

theorem Qc(h:uI ty Γ M ops=true)(k:Nat):oI ty Γ M ops k=true:=by
 rcases jC k ops.size with hk|hk
 ·exact(iA.1 h) k (jo.2 hk)
 ·unfold oI;rw[AQ hk];rfl

theorem PD{F:Nat->Prop}{k:Nat}:Wy cx F w {w with drawn:=k}:=(Wx.refl _ w).trans ⟨rfl,rfl,rfl,dQ _,fun _ _=>rfl⟩ fun _ h=>h

theorem jI.drawn{U:Nat->Prop}{env:List AV}{a:Act}{k:Nat}(h:jI cx κ F U env σ a w):jI cx κ F U env σ a {w with drawn:=k}:=by
 refine⟨⟨h.env.size,h.env.qp,fun t=>RV.mono (w:=w) (w':={w with drawn:=k}) (κ:=κ) (fun _ _=>rfl) (fun _ h=>h) (fun _ _=>rfl) (h.env.nb t) (h.env.rv t),h.env.nb⟩,?_⟩;refine⟨fun o x b=>iH.mono (w:=w) (w':={w with drawn:=k}) (κ:=κ) (fun _ _=>rfl) (fun _ h=>h) (fun _ _=>rfl) (h.gP.nb o x b).1 (h.gP.nb o x b).2 ?_ (h.gP.ok o x b),h.gP.nb,h.gP.free,h.gP.apart,h.gP.fG,h.gP.kB,h.gP.gB,h.gP.bs,h.gP.inv.mono (fun _ h=>h) (fun _ _=>rfl),h.gP.lt⟩;intro _ _;rfl

theorem jup(s:P.follows .mixedOrders=true)(g:∀t x,ty t=some x->bS P t x)(v:∀f S,Γ f=some S->FnOK P cx.J f S)(r:Live Γ){Q:Exit->St->Prop}{env:List AV}{σ:bJ}{nx:Nat}{id:Nat}{l:List Oper}(M:Nat->List Nat)
  (hB:Region.lexB .any l.toArray=true) (q:uI ty Γ M l.toArray=true) (h:yg ty Γ l.toArray M (fun env σ m=>Q .normal ⟨env,σ,m⟩) l 0 nx env σ):Ok P cx (.region id l.toArray true) Q ⟨env,σ,nx⟩:=by
 intro κ F a w j;refine wp_region_any s ?_;simp only[Region.lexB,fP]at hB;have d:=jn5 (base:=nx) r (Qc q) l 0 (Array.replicate l.toArray.size false) env σ (by simp) (by simp) Rk (by simpa using hB.2) (by simpa using h);have hU:∀n,n<nx->Ul nx (Array.replicate l.toArray.size false) n:=fun n u=>.inl u;have e:jI cx κ F (· <nx) env σ a w:=⟨j.env,j.gP⟩;refine Rh g v _ _ κ F env σ a _ ((e.un hU).drawn) (by simp) (by simpa using d) ?_;intro κ' F' c σ' a' w' k o p i;exact⟨κ',F',⟨c,σ',_⟩,k,o,PD.trans p (fun b hb=>hb),⟨i.env,i.gP⟩⟩

end
end
section

def pV(f:Nat):List (Nat×dJ)->Option dJ
 |[]=>none
 |(k,x)::r=>bif Nat.beq f k then some x else pV f r
theorem Pf{P:Program}{J:Inv}:∀p∈([]:List (Nat×dJ)),FnOK P J p.1 p.2:=by simp
theorem PK{P:Program}{J:Inv}{k:Nat}{x:dJ}{r:List (Nat×dJ)}(h:FnOK P J k x)(a:∀p∈r,FnOK P J p.1 p.2):∀p∈(k,x)::r,FnOK P J p.1 p.2:=by
 intro p hp;rcases dY.1 hp with rfl|hp
 ·exact h
 ·exact a p hp
theorem H8{P:Program}{J:Inv}:∀{l:List (Nat×dJ)},(∀p∈l,FnOK P J p.1 p.2)->∀f x,pV f l=some x->FnOK P J f x
 |[],_,f,x,h=>by simp[pV]at h
 |(k,y)::r,a,f,x,h=>by
  unfold pV at h;cases hb:Nat.beq f k with
  |true=>
   rw[hb]at h;simp only[cond_true,bU]at h;subst h;have:=eG hb;subst this;exact a (f,y) (dU ..)
  |false=>
   rw[hb]at h;exact H8 (fun p b=>a p (dZ _ b)) f x h

def pQ(S:dJ):Prop:=∀ds obs,S.pre ds obs->∃r new cO,S.post ds obs r new cO
theorem Pg:∀p∈([]:List (Nat×dJ)),pQ p.2:=by simp
theorem jrq{k:Nat}{x:dJ}{r:List (Nat×dJ)}(h:pQ x)(a:∀p∈r,pQ p.2):∀p∈(k,x)::r,pQ p.2:=by
 intro p hp;rcases dY.1 hp with rfl|hp
 ·exact h
 ·exact a p hp
theorem Jh:∀{l:List (Nat×dJ)},(∀p∈l,pQ p.2)->Live (fun f=>pV f l)
 |[],_=>by intro f x h;simp[pV]at h
 |(k,y)::r,a=>by
  intro f x h
  change pV f ((k,y)::r)=some x at h
  unfold pV at h;cases hb:Nat.beq f k with
  |true=>
   rw[hb]at h;simp only[cond_true,bU]at h;subst h;exact a (k,y) (dU ..)
  |false=>
   rw[hb]at h;exact Jh (fun p b=>a p (dZ _ b)) f x h

section
variable{P:Program}{cx:Cx}{κ:dx}{F:Nat->Prop}{w:World}{U:Nat->Prop}{nm:Nat}{σ:bJ}{ty:TypeId->Option bD}{Γ:Nat->Option dJ}

theorem kY{L:Nat}{ren:List (Nat×Nat)}{bV:List Nat}:∀x:AV,dK L σ ren bV x .unk
 | .dat _| .own _| .ref _ _| .eref _ _ _ _| .row _ _ _ _| .fH _ _ _ _ _ _ _| .vw _ _ _ _ _ _ _| .fp _| .aggv _| .tup _| .fn _ _| .und=>by unfold dK;exact .inl rfl
 | .unk=>by unfold dK;rfl
theorem zy{L:Nat}{ren:List (Nat×Nat)}{bV:List Nat}:fu L σ ren bV [] []:=by unfold fu;rfl
theorem zM{L:Nat}{ren:List (Nat×Nat)}{bV:List Nat}{x y:AV}{l l':List AV}(h:dK L σ ren bV x y)(a:fu L σ ren bV l l'):fu L σ ren bV (x::l) (y::l'):=by unfold fu;exact⟨y,l',rfl,h,a⟩
theorem OX{L:Nat}{ren:List (Nat×Nat)}{bV:List Nat}{o o':Nat}(h:(o',o)∈ren):dK L σ ren bV (.own o) (.own o'):=by unfold dK;exact .inr (.inl ⟨o',rfl,h⟩)
theorem Ho{L:Nat}{ren:List (Nat×Nat)}{bV:List Nat}{o o' i:Nat}(h:(o',o)∈ren):dK L σ ren bV (.ref o i) (.ref o' i):=by unfold dK;exact .inr ⟨o',rfl,h⟩
theorem OV{L:Nat}{ren:List (Nat×Nat)}{bV:List Nat}{o:Nat}{es:Nat}{l l':List D}(h:mP σ o=some (es,l))(a:o∉ren.map Prod.snd)(b:L<=o)(c:l=l'):dK L σ ren bV (.own o) (.dat (.sl es l')):=by subst c;unfold dK;exact .inr (.inr ⟨es,l,h,a,b,rfl⟩)
theorem OW{L:Nat}{ren:List (Nat×Nat)}{bV:List Nat}{o:Nat}(h:o∈bV):dK L σ ren bV (.dat (.sc (.slice none 0 0))) (.own o):=by unfold dK;exact .inr (.inr ⟨rfl,o,rfl,h⟩)
theorem jta{L:Nat}{ren:List (Nat×Nat)}{bV:List Nat}:dK L σ ren bV .und .und:=by unfold dK;exact .inr rfl

theorem CQ:∀d:D,lF d d
 | .sc v=>by unfold lF;exact .inl rfl
 | .sl es l=>by unfold lF;rfl
 | .agg l=>by unfold lF;exact⟨l,rfl,JK l⟩
 where JK:∀l:List D,mE l l
 |[]=>by unfold mE;rfl
 |d::l=>by unfold mE;exact⟨d,l,rfl,CQ d,JK l⟩

theorem zh{L:Nat}{ren:List (Nat×Nat)}{bV:List Nat}{d d':D}(h:d=d'):dK L σ ren bV (.dat d) (.dat d'):=by subst h;unfold dK;exact .inr (.inl ⟨d,rfl,CQ d⟩)
theorem P9{L:Nat}{ren:List (Nat×Nat)}{bV:List Nat}{es:Nat}:dK L σ ren bV (.dat (.sc (.slice none 0 0))) (.dat (.sl es [])):=by unfold dK;exact .inr (.inl ⟨_,rfl,by unfold lF;exact .inr ⟨rfl,es,rfl⟩⟩)
theorem Cm{k:Nat}{ns:List Nat}{d d':D}(h:d=d'):Exp k σ ns (.dat d) (.dat d'):=by subst h;unfold Exp;exact⟨d,rfl,CQ d⟩
theorem O1{k:Nat}{ns:List Nat}{es:Nat}{l:List D}(h:l=[]):Exp k σ ns (.dat (.sc (.slice none 0 0))) (.dat (.sl es l)):=by subst h;unfold Exp;exact⟨_,rfl,by unfold lF;exact .inr ⟨rfl,es,rfl⟩⟩
theorem O4{k o:Nat}{ns:List Nat}{es:Nat}{l l':List D}(h:mP σ o=some (es,l))(c:o∉ns)(b:k<=o)(a:l=l'):Exp k σ ns (.own o) (.dat (.sl es l')):=by subst a;unfold Exp;exact .inl ⟨es,l,h,c,b,rfl⟩
theorem O5{k:Nat}{ns:List Nat}{l l':List AV}(h:gJ k σ ns l l'):Exp k σ ns (.tup l) (.tup l'):=by unfold Exp;exact⟨l',rfl,h⟩
theorem zD{k:Nat}{ns:List Nat}:gJ k σ ns [] []:=by unfold gJ;rfl
theorem zI{k:Nat}{ns:List Nat}{x y:AV}{l l':List AV}(h:Exp k σ ns x y)(a:gJ k σ ns l l'):gJ k σ ns (x::l) (y::l'):=by unfold gJ;exact⟨y,l',rfl,h,a⟩
theorem OZ{k:Nat}{ns:List Nat}{l:List AV}{ds:List D}(h:nK k σ ns l ds):Exp k σ ns (.aggv l) (.dat (.agg ds)):=by unfold Exp;exact .inl ⟨ds,rfl,h⟩
theorem Po{k:Nat}{ns:List Nat}{l l':List AV}(h:gJ k σ ns l l'):Exp k σ ns (.aggv l) (.aggv l'):=by unfold Exp;exact .inr ⟨l',rfl,h⟩
end
end
section

structure X where
 A:List (Nat×AV)
 L:List (Nat×Option bH)
 nx:Nat

def jN:List (Nat×AV)->Nat->AV
 |[],_=>.unk
 |(k,v)::r,t=>bif Nat.beq t k then v else jN r t
def dS:List (Nat×Option bH)->bJ
 |[],_=>none
 |(k,x)::r,n=>bif Nat.beq n k then x else dS r n
def iC(n:Nat)(A:List (Nat×AV)):List AV:=(List.range n).map (jN A)
def X.st(n:Nat)(x:X):St:=⟨iC n x.A,dS x.L,x.nx⟩

def jB(n:Nat)(A:List (Nat×AV)):Operand->AV
 | .tmp t=>bif Nat.blt t n then jN A t else .und
 | .const v=>nk v
 | .global _=>.unk
 | .func f=>.fn f []
def mG(A:List (Nat×AV))(d:Option Tmp)(v:AV):List (Nat×AV):=
 match d with
 |some d=>(d,v)::A
 |none=>A
def Ah:eP->List (Nat×Option bH)->List (Nat×Option bH)
 |[],L=>L
 |(o,x)::r,L=>Ah r ((o,x)::L)

theorem tK(n:Nat)(A:List (Nat×AV))(t:Nat):(iC n A).getD t .und=bif Nat.blt t n then jN A t else .und:=by
 unfold iC;rw[dD,lu];by_cases h:t<n
 ·have:Nat.blt t n=true:=by simpa[iW]using h
  rw[pI h,this];rfl
 ·have:Nat.blt t n=false:=by
   cases hb:Nat.blt t n with
   |true=>exact absurd (by simpa[iW]using hb) h
   |false=>rfl
  rw[lC (by simpa using h),this];rfl
theorem wS(n:Nat)(A:List (Nat×AV)):jB n A=dG (iC n A):=by
 funext x;cases x with
 |tmp t=>exact(tK n A t).symm
 |const v=>rfl
 |global g=>rfl
 |func f=>rfl
theorem H7(d:Nat)(v:AV)(A:List (Nat×AV))(t:Nat):jN ((d,v)::A) t=if t=d then v else jN A t:=by
 show(bif Nat.beq t d then v else jN A t)=_;by_cases h:t=d
 ·subst h;simp
 ·have:Nat.beq t d=false:=by
   cases hb:Nat.beq t d with
   |true=>exact absurd (eG hb) h
   |false=>rfl
  rw[this,if_neg h];rfl
theorem qd(n:Nat)(A:List (Nat×AV))(d:Option Tmp)(v:AV):gN (iC n A) d v=iC n (mG A d v):=by
 cases d with
 |none=>rfl
 |some d=>
  simp only[gN,mG];unfold iC;apply rJ;intro t;rw[lu];by_cases h:t<n
  ·rw[pI h,D8,iy,mo,lu,pI h];simp only[gW,H7];by_cases hd:d=t
   ·subst hd;simp[h]
   ·rw[if_neg hd,if_neg (Ne.symm hd)]
  ·have a:n<=t:=by omega
   rw[lC (by simpa using a),lC (by simpa using a)];rfl
theorem y8:∀(δ:eP)(L:List (Nat×Option bH)),app δ (dS L)=dS (Ah δ L)
 |[],L=>rfl
 |(o,x)::r,L=>by
  have:upd (dS L) o x=dS ((o,x)::L):=rfl;unfold app Ah;rw[this];exact y8 r _

inductive iJ:List Prop->Prop where
 |nil:iJ []
 |cons {p:Prop} {r:List Prop}:p->iJ r->iJ (p::r)
theorem iJ.app:∀{l r:List Prop},iJ (l++r)->iJ l/\ iJ r
 |[],r,h=>⟨.nil,h⟩
 |p::l,r,h=>by
  cases h with
  |cons c d=>
   obtain⟨a,b⟩:=iJ.app (l:=l) d;exact⟨.cons c a,b⟩

inductive Md where
 |k
 |z (es:Nat)
 |o (n:Nat)
 |bd (E:TypeId)
 |t (mask:List (Option TypeId))
 |f

inductive Loc where
 |s (t:Nat)
 |c (b i:Nat)

inductive H where
 |n (m:Int)
 |b (t:Bool)
 |s (x:ByteArray)
 |l (x:List D)
 |d (x:D)
 |sd (x:D) (l:List D)
 |dn (x:D) (m:Int)
 |d2 (x y:D)
 |sd2 (x y:D) (r l:List D)
 |c (r:AV) (new ob:List bH)
 |cf (r:AV) (new ob:List bH)
 |fz (os:List Nat) (ms:List (Nat×List Md)) (rs:List (Nat×List Md))
 |st (lc:Loc) (x:D)
 |cv (x:D) (r:AV) (new ob:List bH)
 |mg (x:D) (b:Bool)
 |mp (l:List ((Int×Int)×D))

def norm(h:Option H)(av:AV)(δ:eP):Option (List Prop×AV×eP):=
 match h with
 |none=>some ([],av,δ)
 |some (.n m)=>match av with
  | .dat (.sc (.int k r))=>some ([r=m],.dat (.sc (.int k m)),δ)
  |_=>none
 |some (.b t)=>match av with
  | .dat (.sc (.bool r))=>some ([r=t],.dat (.sc (.bool t)),δ)
  |_=>none
 |some (.s x)=>match av with
  | .dat (.sc (.string r))=>some ([r=x],.dat (.sc (.string x)),δ)
  |_=>none
 |some (.l x)=>match av with
  | .dat (.sl es r)=>some ([r=x],.dat (.sl es x),δ)
  | .own o=>match δ with
   |[(a,some (.arr e es r))]=>some ([r=x],.own o,[(a,some (.arr e es x))])
   |[(a,some (.tab e es m r g hole))]=>some ([r=x],.own o,[(a,some (.tab e es m x g hole))])
   |[p,(a,some (.arr e es r))]=>some ([r=x],.own o,[p,(a,some (.arr e es x))])
   |[p,(a,some (.tab e es m r g hole))]=>some ([r=x],.own o,[p,(a,some (.tab e es m x g hole))])
   |[p,q,(a,some (.tab e es m r g hole))]=>some ([r=x],.own o,[p,q,(a,some (.tab e es m x g hole))])
   |_=>none
  |_=>none
 |some (.mg x q)=>match av with
  | .tup [.dat r,.dat (.sc (.bool b))]=>some ([r=x,b=q],.tup [.dat x,.dat (.sc (.bool q))],δ)
  |_=>none
 |some (.mp x)=>match δ with
  |[(a,some (.mp t r))]=>some ([r=x],av,[(a,some (.mp t x))])
  |_=>none
 |_=>none

theorem Cu{h:Option H}{av:AV}{δ:eP}{ps:List Prop}{d:AV}{f:eP}(a:norm h av δ=some (ps,d,f))(c:iJ ps):d=av/\ f=δ:=by
 unfold norm at a;split at a
 ·cases a;exact⟨rfl,rfl⟩
 ·split at a
  ·cases a;cases c with|cons b _=>subst b;exact⟨rfl,rfl⟩
  ·cases a
 ·split at a
  ·cases a;cases c with|cons b _=>subst b;exact⟨rfl,rfl⟩
  ·cases a
 ·split at a
  ·cases a;cases c with|cons b _=>subst b;exact⟨rfl,rfl⟩
  ·cases a
 ·split at a
  ·cases a;cases c with|cons b _=>subst b;exact⟨rfl,rfl⟩
  ·split at a
   ·cases a;cases c with|cons b _=>subst b;exact⟨rfl,rfl⟩
   ·cases a;cases c with|cons b _=>subst b;exact⟨rfl,rfl⟩
   ·cases a;cases c with|cons b _=>subst b;exact⟨rfl,rfl⟩
   ·cases a;cases c with|cons b _=>subst b;exact⟨rfl,rfl⟩
   ·cases a;cases c with|cons b _=>subst b;exact⟨rfl,rfl⟩
   ·cases a
  ·cases a
 ·split at a
  ·cases a;cases c with|cons b c=>cases c with|cons g _=>subst b;subst g;exact⟨rfl,rfl⟩
  ·cases a
 ·split at a
  ·cases a;cases c with|cons b _=>subst b;exact⟨rfl,rfl⟩
  ·cases a
 ·cases a

def ng(S:dJ)(ds:List D)(obs:List bH)(r:AV)(new ob:List bH):Prop:=
 S.pre ds obs/\ ∀c a b,S.post ds obs c a b->c=r/\ a=new/\ b=ob

mutual
def mH(m:Nat):AV->Bool
 | .own o| .ref o _| .eref o _ _ _=>Nat.blt o m
 | .row o g _ _| .fH o g _ _ _ _ _| .vw o g _ _ _ _ _=>Nat.blt o m&&Nat.blt g m
 | .aggv l| .tup l| .fn _ l=>wG m l
 |_=>true
def wG(m:Nat):List AV->Bool
 |[]=>true
 |x::l=>mH m x&&wG m l
end
mutual
theorem BP{m:Nat}:∀{x:AV},mH m x=true->NB (· <m) x
 | .dat _,h=>by unfold NB;trivial
 | .own o,h=>by unfold mH at h;unfold NB;simpa[iW]using h
 | .ref o _,h=>by unfold mH at h;unfold NB;simpa[iW]using h
 | .eref o _ _ _,h=>by unfold mH at h;unfold NB;simpa[iW]using h
 | .row o g _ _,h=>by unfold mH at h;unfold NB;simpa[iW]using h
 | .fH o g _ _ _ _ _,h=>by unfold mH at h;unfold NB;simpa[iW]using h
 | .vw o g _ _ _ _ _,h=>by unfold mH at h;unfold NB;simpa[iW]using h
 | .fp _,h=>by unfold NB;trivial
 | .aggv l,h=>by unfold mH at h;unfold NB;exact xg h
 | .tup l,h=>by unfold mH at h;unfold NB;exact xg h
 | .fn _ l,h=>by unfold mH at h;unfold NB;exact xg h
 | .und,h=>by unfold NB;trivial
 | .unk,h=>by unfold NB;trivial
theorem xg{m:Nat}:∀{l:List AV},wG m l=true->bN (· <m) l
 |[],_=>by unfold bN;trivial
 |x::l,h=>by
  unfold wG at h;unfold bN;simp only[fP]at h;exact⟨BP h.1,xg h.2⟩
end
def nO(L:Nat):bH->Bool
 | .box _ l=>wG L l
 |_=>true
theorem qO{L:Nat}{x:bH}(h:nO L x=true):jU L x:=by
 cases x with
 |box T l=>exact xg h
 |_=>trivial
def N7:D->Bool
 | .sc _=>true
 |_=>false
def Gv:D->Bool
 | .sc _=>true
 | .agg l=>l.all N7
 | .sl _ _=>false
theorem jde{d:D}(h:Gv d=true):lW d:=by
 cases d with
 |sc v=>trivial
 |sl es l=>cases h
 |agg l=>
  intro d hd;have:=iA.1 h d hd;cases d with
  |sc v=>exact⟨v,rfl⟩
  |_=>cases this
def yR:AV->Bool
 | .dat d=>Gv d
 | .own _=>true
 |_=>false
def BS:AV->Bool
 | .aggv l=>l.all yR
 |x=>yR x
def BO:AV->Bool
 | .tup l=>l.all BS
 |x=>BS x
theorem Dl{x:AV}(h:yR x=true):uL x:=by
 cases x with
 |dat d=>exact jde h
 |own o=>trivial
 |_=>cases h
theorem Qt{x:AV}(h:BS x=true):jry x:=by
 cases x with
 |aggv l=>exact fun x a=>Dl (iA.1 h x a)
 |dat d=>exact jde h
 |own o=>trivial
 |_=>cases h
theorem IC{x:AV}(h:BO x=true):job x:=by
 cases x with
 |tup l=>exact fun x a=>Qt (iA.1 h x a)
 |aggv l=>exact fun x a=>Dl (iA.1 h x a)
 |dat d=>exact jde h
 |own o=>trivial
 |_=>cases h
def BU:bH->Bool
 | .box _ l=>l.all yR
 | .mp _ _=>true
 |_=>false
theorem Iz{x:bH}(h:BU x=true):lY x:=by
 cases x with
 |box T l=>exact fun x a=>Dl (iA.1 h x a)
 |arr e es l=>cases h
 |mp t l=>trivial
 |gF T E l g=>cases h
 |tab e es mask l g hole=>cases h
def CB(new ob:List bH):Prop:=(∀x∈new,lY x)/\ ∀x∈ob,lY x
def ko(n:Nat):List Nat->Bool
 |[]=>false
 |k::l=>Nat.beq n k||ko n l
theorem tC{n:Nat}:∀{l:List Nat},ko n l=false->n∉l
 |[],_=>by simp
 |k::l,h=>by
  unfold ko at h;simp only[qz]at h;intro hm;rcases dY.1 hm with rfl|hm
  ·simp at h
  ·exact tC h.2 hm
theorem wV{n:Nat}:∀{l:List Nat},ko n l=true->n∈l
 |[],h=>by cases h
 |k::l,h=>by
  unfold ko at h;simp only[mF]at h;rcases h with h|h
  ·have:=eG h;subst this;exact dU ..
  ·exact dZ _ (wV h)
def nQ:List Nat->Bool
 |[]=>true
 |k::l=> !ko k l&&nQ l
theorem jbn:∀{l:List Nat},nQ l=true->l.Nodup
 |[],_=>List.nodup_nil
 |k::l,h=>by
  unfold nQ at h;simp only[fP,mO]at h;exact jW.2 ⟨tC h.1,jbn h.2⟩
def uO{α:Type}:List α->Bool
 |[]=>true
 |_=>false

def pU(e:Operand->AV)(o:Oper):Bool:=
 match o.op with
 | .buildSlice _ _ b=>uO (dB (b.toList.map fun p=>e p.2))
 | .makeMap _ _| .lookup _ _ _ _| .mapUpdate _ _ _ _=>true
 | .move _| .assign _| .alloc _| .box _ _| .nilCheck _| .extract _ _| .field _ _ _| .build _ _| .unOp _ _ _| .makeFunc _ _ _=>true
 | .convert _ _ x=>(fE (e x)).isSome
 | .load _ a=>match e a with
  | .ref _ _=>true
  |_=>false
 | .store _ a _=>match e a with
  | .ref _ _=>true
  |_=>false
 | .fieldAddr _ a _=>match e a with
  | .ref _ _| .eref _ _ _ _| .fH _ _ _ _ _ _ _=>true
  |_=>false
 | .binOp c _ x _ _=>match c with
  | .quo| .rem| .shl| .shr=>false
  | .add=>(jhu (e x)).isNone
  |_=>true
 | .call {callee:=.builtin .len,args,..}=>match args.toList with
  |[x]=>match e x with
   | .row _ _ _ _=>false
   |_=>true
  |_=>true
 | .call {callee:=.builtin .max,..}| .call {callee:=.builtin .min,..}=>true
 |_=>false

section
variable{ty:TypeId->Option bD}{Γ:Nat->Option dJ}{σ:bJ}{e:Operand->AV}{nm:Nat}

theorem sW{b:Bool}{p:Prop}{rd:List Nat}{av:AV}{δ:eP}(h:jk b=.bR p rd av δ):p:=by
 unfold jk at h;cases h;trivial
theorem GK{k:IntKind}{b:Int}{p:Prop}{rd:List Nat}{av:AV}{δ:eP}(h:qH k b=.bR p rd av δ):p:=by
 unfold qH at h;cases h;trivial
theorem G9{a:Bool}{x:AV}{p:Prop}{rd:List Nat}{av:AV}{δ:eP}(h:oL a x=.bR p rd av δ):p:=by
 unfold oL at h;split at h<;>first|(cases h;trivial)|cases h
theorem Ou{a:BinOp}{t:TypeId}{x y:AV}{p:Prop}{rd:List Nat}{av:AV}{δ:eP}(h:sJ ty a t x y=.bR p rd av δ):p:=by
 unfold sJ at h;split at h
 ·split at h
  ·split at h
   ·split at h
    ·exact sW h
    ·exact sW h
    ·cases h
   ·cases h
  ·cases h
 ·cases h
theorem QE{a:BinOp}{t:TypeId}{x y:AV}{p:Prop}{rd:List Nat}{av:AV}{δ:eP}(h:xk ty a t x y=.bR p rd av δ):p:=by
 unfold xk at h;split at h
 ·split at h
  ·exact G9 h
  ·exact G9 h
  ·cases h
 ·split at h<;>first|exact sW h|cases h
 ·exact Ou h

theorem Qh{a:AV}(h:(fE a).isSome=true):jhu a=none:=by
 unfold fE at h;split at h
 ·rfl
 ·cases h
theorem Pw{x:AV}{es:Nat}(h:(fE x).isSome=true):lS σ es x=none:=by
 unfold fE at h;split at h
 ·rfl
 ·cases h
theorem Gr{o:Oper}(g:pU e o=true){p:Prop}{rd:List Nat}{av:AV}{δ:eP}(h:spec ty Γ σ e nm o=.bR p rd av δ):p:=by
 obtain⟨H,F,G,pos,q,w⟩:=o;unfold pU at g;cases F
 case move x=>unfold spec at h;cases h;trivial
 case assign x=>unfold spec at h;cases h;trivial
 case alloc t=>
  unfold spec at h;simp only[]at h;repeat' (split at h)
  all_goals first|(cases h;trivial)|cases h
 case box t x=>
  unfold spec at h;simp only[]at h;repeat' (split at h)
  all_goals first|(cases h;trivial)|cases h
 case makeFunc fn first caps=>
  cases fn<;>(unfold spec at h;simp only[]at h;repeat' (split at h))<;>first|(cases h;trivial)|cases h
 case makeMap t r=>
  cases r with
  |none=>
   unfold spec at h;simp only[xI]at h;split at h<;>first|(cases h;trivial)|cases h
  |some r=>unfold spec at h;cases h
 case lookup t x i ok=>
  cases ok with
  |true=>
   unfold spec at h;simp only[vH]at h;repeat' (split at h)
   all_goals first|(cases h;trivial)|cases h
  |false=>unfold spec at h;cases h
 case mapUpdate t x i v=>
  unfold spec at h;simp only[vI]at h;repeat' (split at h)
  all_goals first|(cases h;trivial)|cases h
 case nilCheck x=>
  unfold spec at h;simp only[]at h;repeat' (split at h)
  all_goals first|(cases h;trivial)|cases h
 case extract x i=>
  unfold spec at h;simp only[]at h;repeat' (split at h)
  all_goals first|(cases h;trivial)|cases h
 case field s x f=>
  unfold spec at h;simp only[wT]at h;repeat' (split at h)
  all_goals first|(cases h;trivial)|cases h
 case build t ps=>
  unfold spec at h;simp only[xC]at h;repeat' (split at h)
  all_goals first|(cases h;trivial)|cases h
 case buildSlice t l ps=>
  unfold spec at h;simp only[qX]at h;simp only[]at g;split at h
  ·split at h
   ·split at h
    ·cases h;trivial
    ·split at h
     ·split at h
      ·rename_i ds ns z;have E:=DF z;rw[uf]at E;have n:dB (ps.toList.map fun p=>e p.2)=[]:=by
        cases J:dB (ps.toList.map fun p=>e p.2)with
        |nil=>rfl
        |cons a l=>rw[J]at g;cases g
       have B:ns.Nodup:=by
        cases ns with
        |nil=>exact List.nodup_nil
        |cons a l=>
         have:=E a (dU ..);have j:a∈dB (ps.toList.map fun p=>e p.2):=this;rw[n]at j;cases j
       cases h;exact B
      ·cases h
     ·cases h
   ·cases h
  ·cases h
 case convert s d x=>
  unfold spec at h;simp only[]at h;simp only[]at g;split at h
  ·cases h;trivial
  ·unfold uW at h;rw[Pw g]at h;split at h
   ·rename_i C;cases C
   ·rw[Qh g]at h;cases h
   ·cases h
 case unOp u t x=>
  cases u<;>(unfold spec at h;simp only[]at h)
  all_goals first
   |(split at h;(first|exact sW h|exact GK h);cases h)
   |cases h
 case load t a=>
  unfold spec at h;simp only[jQ]at h g;cases m:e a<;>simp only[m]at h g
  all_goals first|(cases g;done)|skip
  repeat' (split at h)
  all_goals first|(cases h;trivial)|cases h
 case store t a x=>
  unfold spec at h;simp only[nZ]at h g;cases m:e a<;>simp only[m]at h g
  all_goals first|(cases g;done)|skip
  repeat' (split at h)
  all_goals first|(cases h;trivial)|cases h
 case fieldAddr t a f=>
  unfold spec at h;simp only[vk]at h g;cases m:e a<;>simp only[m]at h g
  all_goals first|(cases g;done)|skip
  all_goals repeat' (split at h)
  all_goals first|(cases h;trivial)|cases h
 case binOp F t x y u=>
  unfold spec at h;simp only[uS]at h g;split at h
  ·rename_i k a k' b D I;split at h
   ·simp at g
   ·simp at g
   ·split at h
    ·split at h;all_goals first|exact sW h|exact GK h|(simp at g;done)|(cases h;trivial)|cases h
    ·cases h
  ·split at h
   ·rename_i a b D I;split at h;all_goals first|exact sW h|(simp[D]at g;done)|(cases h;trivial)|cases h
   ·split at h
    ·split at h;all_goals first|exact sW h|cases h
    ·exact QE h
 case call c=>
  obtain⟨callee,args,K⟩:=c;cases callee with
  |value f=>simp at g
  |invoke a b=>simp at g
  |builtin b=>
   cases b
   case len=>
    unfold spec at h;simp only[]at h;split at h
    ·rename_i x t m _;simp only[m]at g;unfold tu at h;split at h
     ·split at h
      ·cases h;trivial
      ·cases h
     ·split at h
      ·cases h;trivial
      ·cases h;trivial
      ·split at h
       ·cases h;trivial
       ·cases h;trivial
       ·cases h
      ·rename_i A;rw[A]at g;cases g
      ·cases h;trivial
      ·cases h
     ·cases h
    ·cases h
   case max=>
    unfold spec at h;simp only[]at h;repeat' (split at h)
    all_goals first|(cases h;trivial)|cases h
   case min=>
    unfold spec at h;simp only[]at h;repeat' (split at h)
    all_goals first|(cases h;trivial)|cases h
   all_goals (simp at g)
 all_goals (simp at g)
end
end
section

def uU(ns rd:List Nat)(obs:List bH)(r:AV)(new ob:List bH):Bool:=
 Nat.ble (new.length+obs.length) 16&&mH new.length r&&new.all (nO new.length)&&ob.all (nO (ob.length+new.length))&&Nat.ble ob.length obs.length&&nQ ns&&ns.all (fun n=> !ko n rd)&&obs.all (nO obs.length)&&
  (uO rd||(BO r&&new.all BU&&ob.all BU))
def Cv(ns rd:List Nat)(obs:List bH)(r:AV)(new ob:List bH):Bool:=
 Nat.ble (new.length+obs.length) 16&&mH new.length r&&new.all (nO new.length)&&ob.all (nO (ob.length+new.length))&&Nat.ble ob.length obs.length&&nQ ns&&ns.all (fun n=> !ko n rd)&&obs.all (nO obs.length)&&BO r

def vN(ty:TypeId->Option bD)(Γ:Nat->Option dJ)(σ:bJ)(e:Operand->AV)(nm:Nat)(o:Oper)(h:Option H):Option (List Prop×AV×eP):=
 match spec ty Γ σ e nm o with
 | .bR p _ av δ=>
  match norm h av δ with
  |some (ps,a,b)=>some (bif pU e o then ps else p::ps,a,b)
  |none=>none
 |_=>none

def jsg(hole:Option (Nat×Nat))(j n k:Nat):List Prop:=match hole with
 |none=>[]
 |some (a,b)=>bif fV (some (a,b)) j n then[]else[a=k]
def xO(k:Nat):List Nat->List Prop
 |[]=>[]
 |k'::r=>(k'=k)::xO k r

mutual
def tO:AV->Bool
 | .vw _ _ _ _ _ _ _=>true
 | .aggv l| .tup l| .fn _ l=>uJ l
 |_=>false
def uJ:List AV->Bool
 |[]=>false
 |x::l=>tO x||uJ l
end
mutual
theorem GY{σ:bJ}:∀(p:Pt)(x:AV),tO x=false->rowP σ p x
 | .rd,x,h=>by
  cases x with
  |vw o g k j es lo n=>unfold tO at h;cases h
  |_=>unfold rowP;trivial
 | .zr,x,h=>by cases x<;>(unfold rowP;trivial)
 | .sl,x,h=>by cases x<;>(unfold rowP;trivial)
 | .bx,x,h=>by cases x<;>(unfold rowP;trivial)
 | .bo k,x,h=>by cases x<;>(unfold rowP;trivial)
 | .ag l,x,h=>by
  cases x with
  |aggv xs=>unfold tO at h;unfold rowP;exact zu l xs h
  |_=>unfold rowP;trivial
 | .fn f l,x,h=>by
  cases x with
  |fn a xs=>unfold tO at h;unfold rowP;exact zu l xs h
  |_=>unfold rowP;trivial
theorem zu{σ:bJ}:∀(ls:List Pt)(xs:List AV),uJ xs=false->jO σ ls xs
 |[],_,_=>by unfold jO;trivial
 |_::_,[],_=>by unfold jO;trivial
 |p::ls,x::xs,h=>by
  unfold uJ at h;simp only[qz]at h;unfold jO;exact⟨GY p x h.1,zu ls xs h.2⟩
end
def DN(σ:bJ)(a:D)(p:Pt)(x:AV):Option (D×List Nat×List Nat×List Prop):=
 match p,x with
 | .rd,.vw o g k j es lo n=>match gM σ o g with
  |some t=>bif fV t.hole j 1&&(dA t.mask j).isSome&&Nat.beq (gK a j).1 es then some (.sl es (((gK a j).2.drop lo).take n),[],[o],[t.l[k]? =some a,lo+n<=(gK a j).2.length])else none
  |none=>none
 |p,x=>bif tO x then none else match dN σ p x with
  |some (d,ns,rd)=>some (d,ns,rd,[])
  |none=>none
def sM(σ:bJ)(f:D):List Pt->List AV->Option (List D×List Nat×List Nat×List Prop)
 |[],[]=>some ([],[],[],[])
 |p::ls,x::xs=>match DN σ f p x,sM σ f ls xs with
  |some (d,ns,rd,ps),some (ds,a,c,b)=>some (d::ds,ns++a,rd++c,ps++b)
  |_,_=>none
 |_,_=>none
theorem Ov{σ:bJ}{a:D}{p:Pt}{x:AV}{d:D}{ns rd:List Nat}{ps:List Prop}(h:DN σ a p x=some (d,ns,rd,ps))(b:iJ ps):dN σ p x=some (d,ns,rd)/\ rowP σ p x:=by
 unfold DN at h;split at h
 ·rename_i o g k j es lo n;split at h
  ·rename_i t i;cases hb:(fV t.hole j 1&&(dA t.mask j).isSome&&Nat.beq (gK a j).1 es)with
   |false=>rw[hb]at h;cases h
   |true=>
    rw[hb]at h;cases h;simp only[fP]at hb;cases b with
    |cons f b=>cases b with
     |cons m _=>
      have e:dM t.l k j=gK a j:=by unfold dM;rw[dD,f];rfl
      refine⟨?_,?_⟩
      ·unfold dN nM;simp only[i,e]
      ·unfold rowP;simp only[i,e];exact⟨hb.1.1,hb.1.2,(cK.1 f).1,eG hb.2,m⟩
  ·cases h
 ·cases c:tO x with
  |true=>rw[c]at h;cases h
  |false=>
   rw[c]at h;simp only[cond_false]at h;split at h
   ·rename_i d' r s q;cases h;exact⟨q,GY _ _ c⟩
   ·cases h
theorem Il{σ:bJ}{g:D}:∀{ls:List Pt}{xs:List AV}{ds:List D}{ns rd:List Nat}{ps:List Prop},sM σ g ls xs=some (ds,ns,rd,ps)->iJ ps->fM σ ls xs=some (ds,ns,rd)/\ jO σ ls xs
 |[],[],ds,ns,rd,ps,h,_=>by
  unfold sM at h;cases h;exact⟨by unfold fM;rfl,by unfold jO;trivial⟩
 |[],x::xs,ds,ns,rd,ps,h,_=>by unfold sM at h;cases h
 |p::ls,[],ds,ns,rd,ps,h,_=>by unfold sM at h;cases h
 |p::ls,x::xs,ds,ns,rd,ps,h,k=>by
  unfold sM at h;split at h
  ·rename_i t l r n f m s o i j;cases h;obtain⟨q1,q⟩:=k.app;obtain⟨a,b⟩:=Ov i q1;obtain⟨c,d⟩:=Il j q;exact⟨by unfold fM;rw[a,c],by unfold jO;exact⟨b,d⟩⟩
  ·cases h
def Gm(ty:TypeId->Option bD)(σ:bJ)(nm:Nat)(S:dJ)(b:D)(r:AV)(new ob:List bH)(xs:List AV)(a:List TypeId):Option (List Prop×AV×eP):=
 match sM σ b S.lend xs with
 |some (ds,ns,rd,ps)=>
  match oP σ ns with
  |some obs=>bif uU ns rd obs r new ob then some (ng S (nN ty S.lend a ds) obs r new ob::ps,r.shift nm,nT nm new.length ns ob++oU nm new)else none
  |none=>none
 |none=>none

def BH(ty:TypeId->Option bD)(Γ:Nat->Option dJ)(σ:bJ)(e:Operand->AV)(nm:Nat)(o:Oper)(h:Option H):Option (List Prop×AV×eP):=
 match o.op with
 | .indexAddr t x i=>
  match h with
  |some (.d p)=>
   match iY ty t,fE (e i)with
   |some (_,E),some (_,n)=>
    match e x with
    | .dat (.sl es l)=>bif Nat.beq es E.size then some ([0<=n/\ l[n.toNat]? =some p],.fp p.cells,[])else none
    | .own o=>
     match σ o with
     |some (.arr _ es l)=>bif Nat.beq es E.size then some ([0<=n/\ l[n.toNat]? =some p],.eref o es n.toNat 0,[])else none
     |some (.tab _ es _ l _ _)=>bif Nat.beq es E.size then some ([0<=n/\ l[n.toNat]? =some p],.eref o es n.toNat 0,[])else none
     |_=>none
    | .row o g k j=>
     match gM σ o g with
     |some q=>bif fV q.hole j 1&&(dA q.mask j).isSome&&Nat.beq (gK p j).1 E.size then some ([q.l[k]? =some p,0<=n/\ n<(gK p j).2.length],.fH o g k j E.size n.toNat 0,[])else none
     |none=>none
    |_=>none
   |_,_=>none
  |none=>vN ty Γ σ e nm o h
  |_=>none
 | .load t a=>
  match e a with
  | .fp ds=>
   match ty t with
   |some T=>
    bif T.isAgg then(bif Nat.ble T.size ds.length then some ([],.dat (.agg (ds.take T.size)),[])else none)
    else match ds with
     |d::_=>some ([],.dat d,[])
     |[]=>none
   |none=>none
  | .eref o es k j=>
   match h with
   |some (.d p)=>
    match σ o,ty t with
    |some (.arr _ es' l),some T=>
     bif Nat.beq es es' then
      (bif T.isAgg then(bif Nat.ble (j+T.size) es then some ([l[k]? =some p],.dat (.agg ((p.cells.drop j).take T.size)),[])else none)
      else(bif Nat.blt j es then some ([l[k]? =some p],.dat (p.cells.getD j (.sc undef)),[])else none))
     else none
    |some (.tab _ es' mask l g hole),some T=>
     bif Nat.beq es es' then
      (bif T.isAgg then(bif Nat.ble (j+T.size) es&&fV hole j T.size then some ([l[k]? =some p],jZ (tH o g k mask p j T.size),[])else none)
      else match dA mask j with
       |none=>bif Nat.blt j es then some ([l[k]? =some p],.dat (p.cells.getD j (.sc undef)),[])else none
       |some _=>bif Nat.blt j es&&fV hole j 1 then some ([l[k]? =some p],.row o g k j,[])else none)
     else none
    |_,_=>none
   |_=>none
  | .fH o g k j es i c=>
   match h with
   |some (.d2 p w)=>
    match gM σ o g,ty t with
    |some q,some T=>
     bif fV q.hole j 1&&(dA q.mask j).isSome&&Nat.beq (gK p j).1 es then
      (bif T.isAgg then(bif Nat.ble (c+T.size) es then some ([q.l[k]? =some p,(gK p j).2[i]? =some w],.dat (.agg ((w.cells.drop c).take T.size)),[])else none)
      else(bif Nat.blt c es then some ([q.l[k]? =some p,(gK p j).2[i]? =some w],.dat (w.cells.getD c (.sc undef)),[])else none))
     else none
    |_,_=>none
   |_=>none
  |_=>match spec ty Γ σ e nm o with
   | .bR _ _ av δ=>bif pU e o then norm h av δ else none
   |_=>none
 | .store t a x=>
  match e a with
  | .eref o es k j=>
   match h with
   |some (.sd p l')=>
    match ty t,(e x).cells with
    |some T,some cs=>
     match σ o,jG cs with
     |some (.arr e es' l),some ds=>
      match ty (e%4294967296)with
      |some E=>
       bif Nat.beq cs.length T.size&&Nat.beq es es'&&Nat.beq E.size es then
        bif E.isAgg then(bif Nat.ble (j+ds.length) es then some ([l[k]? =some p,l.set k (.agg (spl p.cells j ds))=l'],.und,[(o,some (.arr e es l'))])else none)
        else match ds with
         |[d]=>bif Nat.beq es 1&&Nat.beq j 0 then some ([l[k]? =some p,l.set k d=l'],.und,[(o,some (.arr e es l'))])else none
         |_=>none
       else none
      |none=>none
     |some (.tab e es' mask l g hole),_=>
      match ty e,oQ ty σ o g mask hole p j cs with
      |some E,some (ds,ns,B)=>
       bif Nat.beq cs.length T.size&&Nat.beq es es'&&Nat.beq E.size es&&nQ ns then
        bif E.isAgg then(bif Nat.ble (j+ds.length) es then some ((l[k]? =some p)::(l.set k (.agg (spl p.cells j ds))=l')::(jsg hole j ds.length k++xO k B),.und,lU ns++[(o,some (.tab e es mask l' nm (lJ hole j ds.length)))])else none)
        else match ds with
         |[d]=>bif Nat.beq es 1&&Nat.beq j 0 then some ((l[k]? =some p)::(l.set k d=l')::(jsg hole j 1 k++xO k B),.und,lU ns++[(o,some (.tab e es mask l' nm (lJ hole j 1)))])else none
         |_=>none
       else none
      |_,_=>none
     |_,_=>none
    |_,_=>none
   |_=>none
  | .fH o g k j es i c=>
   match h with
   |some (.sd2 p w u l')=>
    match ty t,(e x).cells with
    |some T,some cs=>
     match gM σ o g,jG cs with
     |some q,some ds=>
      match (dA q.mask j).bind ty with
      |some E=>
       bif Nat.beq cs.length T.size&&fV q.hole j 1&&Nat.beq (gK p j).1 es&&Nat.beq E.size es then
        bif E.isAgg then(bif Nat.ble (c+ds.length) es then some ([q.l[k]? =some p,(gK p j).2[i]? =some w,(gK p j).2.set i (.agg (spl w.cells c ds))=u,q.l.set k (oV p j (.sl es u))=l'],.und,[(o,some (.tab q.e q.es q.mask l' g q.hole))])else none)
        else match ds with
         |[d]=>bif Nat.beq es 1&&Nat.beq c 0 then some ([q.l[k]? =some p,(gK p j).2[i]? =some w,(gK p j).2.set i d=u,q.l.set k (oV p j (.sl es u))=l'],.und,[(o,some (.tab q.e q.es q.mask l' g q.hole))])else none
         |_=>none
       else none
      |none=>none
     |_,_=>none
    |_,_=>none
   |_=>none
  |_=>match spec ty Γ σ e nm o with
   | .bR _ _ av δ=>bif pU e o then norm h av δ else none
   |_=>none
 | .fieldAddr s x f=>
  match e x with
  | .fp ds=>
   match ze ty s f with
   |some z=>bif Nat.ble z ds.length then some ([],.fp (ds.drop z),[])else none
   |none=>none
  |_=>match spec ty Γ σ e nm o with
   | .bR _ _ av δ=>bif pU e o then norm h av δ else none
   |_=>none
 | .pick c a b=>
  match e c with
  | .dat (.sc (.bool t))=>some ([],bif t then e a else e b,[])
  |_=>none
 | .call {callee:=.value c,args,argTypes}=>
  match e c with
  | .fn f v=>
   match Γ f with
   |some S=>
    bif uJ (args.toList.map e++v)then(match h with
     |some (.cv p r new ob)=>Gm ty σ nm S p r new ob (args.toList.map e++v) argTypes.toList
     |_=>none)
    else
    match fM σ S.lend (args.toList.map e++v)with
    |some (ds,ns,rd)=>
     match oP σ ns with
     |some obs=>
      match h with
      |some (.c r new ob)=>bif uU ns rd obs r new ob then some ([ng S (nN ty S.lend argTypes.toList ds) obs r new ob],r.shift nm,nT nm new.length ns ob++oU nm new)else none
      |some (.cf r new ob)=>bif Cv ns rd obs r new ob then some ([ng S (nN ty S.lend argTypes.toList ds) obs r new ob,CB new ob],r.shift nm,nT nm new.length ns ob++oU nm new)else none
      |_=>none
     |none=>none
    |none=>none
   |none=>none
  |_=>none
 | .call {callee:=.builtin .len,args,argTypes}=>
  match args.toList,argTypes.toList with
  |[x],[t]=>
   match e x with
   | .row o' g k j=>
    match h with
    |some (.dn p m)=>
     match ty t,gM σ o' g with
     |some {desc:=.slice _,..},some q=>bif fV q.hole j 1&&(dA q.mask j).isSome then some ([q.l[k]? =some p,((gK p j).2.length:Int)=m],.dat (.sc (.int .i64 m)),[])else none
     |_,_=>none
    |_=>none
   |_=>vN ty Γ σ e nm o h
  |_,_=>none
 | .call {callee:=.builtin .append,args,argTypes}=>
  match args.toList,argTypes.toList with
  |[x,y],[t,C]=>
   match e x with
   | .row o' g k j=>
    match h with
    |some (.sd p l')=>
     match iY ty t,gM σ o' g with
     |some (el,E),some q=>
      match q.hole,dA q.mask j,lS σ E.size (e y)with
      |none,some e',some (A,_)=>
       bif Nat.beq t C&&Nat.blt 0 E.size&&Nat.beq E.zero.cells.size E.size&&Nat.beq e' el&&Nat.beq (gK p j).1 E.size then
        some ([q.l[k]? =some p,(((gK p j).2.length+A.length:Nat):Int)<=140737488355328/\ (((gK p j).2.length+A.length:Nat):Int)*E.bytes<=140737488355328,(gK p j).2++A=l'],.own nm,
         [(o',some (.tab q.e q.es q.mask q.l g (some (k,j)))),(nm,some (.arr el E.size l'))])
       else none
      |_,_,_=>none
     |_,_=>none
    |_=>none
   |_=>vN ty Γ σ e nm o h
  |_,_=>none
 |_=>vN ty Γ σ e nm o h

section
variable{ty:TypeId->Option bD}{Γ:Nat->Option dJ}{σ:bJ}{e:Operand->AV}{nm:Nat}

theorem CW{o:Oper}{h:Option H}{ps:List Prop}{av:AV}{δ:eP}
  (hs:(match spec ty Γ σ e nm o with
   | .bR _ _ av δ=>bif pU e o then norm h av δ else none
   |_=>none)=some (ps,av,δ)) (d:iJ ps) {K:AV->eP->Prop} (hK:K av δ):(spec ty Γ σ e nm o).T K:=by
 split at hs
 ·rename_i p rd c f a;cases b:pU e o with
  |false=>rw[b]at hs;cases hs
  |true=>
   rw[b]at hs;obtain⟨rfl,rfl⟩:=Cu hs d;rw[a];exact⟨Gr b a,hK⟩
 ·cases hs

theorem zS{o:Oper}{h:Option H}{ps:List Prop}{av:AV}{δ:eP}(hs:vN ty Γ σ e nm o h=some (ps,av,δ))(a:iJ ps){K:AV->eP->Prop}(hK:K av δ):(spec ty Γ σ e nm o).T K:=by
 unfold vN at hs;split at hs
 ·rename_i p rd f k b;split at hs
  ·rename_i j g l d;cases hs;rw[b];cases c:pU e o with
   |true=>
    rw[c]at a;obtain⟨rfl,rfl⟩:=Cu d a;exact⟨Gr c b,hK⟩
   |false=>
    rw[c]at a;simp only[cond_false]at a;cases a with
    |cons i a=>
     obtain⟨rfl,rfl⟩:=Cu d a;exact⟨i,hK⟩
  ·cases hs
 ·cases hs

theorem HY{hole:Option (Nat×Nat)}{j n k:Nat}(h:iJ (jsg hole j n k)):∀a b,hole=some (a,b)->fV hole j n=false->a=k:=by
 rintro a b rfl d;unfold jsg at h;simp only[d,cond_false]at h;cases h with
 |cons c _=>exact c
theorem BQ{k:Nat}:∀{b:List Nat},iJ (xO k b)->∀k'∈b,k'=k
 |[],_,k',hk=>by cases hk
 |a::r,h,k',hk=>by
  unfold xO at h;cases h with
  |cons c d=>
   rcases dY.1 hk with rfl|hk
   ·exact c
   ·exact BQ d k' hk

theorem getD_some{α:Type}{l:List α}{k:Nat}{x y:α}(h:l[k]? =some x):l.getD k y=x:=by
 rw[dD,h];rfl

theorem JC{ns rd:List Nat}{obs new ob:List bH}{r:AV}{S:dJ}{ds:List D}{R:Prop}{nm:Nat}{K:AV->eP->Prop}(hb:uU ns rd obs r new ob=true)(t:ng S ds obs r new ob)(f:R)(hK:K (r.shift nm) (nT nm new.length ns ob++oU nm new)):
  (R/\ S.pre ds obs/\ ns.Nodup/\ (∀n∈ns,n∉rd)/\ (∀x∈obs,jU obs.length x)/\ ∀r new cO,S.post ds obs r new cO->JV rd obs r new cO)/\ ∀av δ,(∃r new cO,S.post ds obs r new cO/\ av=r.shift nm/\ δ=nT nm new.length ns cO++oU nm new)->K av δ:=by
 obtain⟨h,a⟩:=t;unfold uU at hb;simp only[fP,mF]at hb;obtain⟨⟨⟨⟨⟨⟨⟨⟨j,k⟩,l⟩,m⟩,o⟩,p⟩,q⟩,s⟩,b9⟩:=hb;refine⟨⟨f,h,jbn p,fun n u=>?_,fun x c=>qO (iA.1 s x c),?_⟩,?_⟩
 ·have:=iA.1 q n u;simp only[mO]at this;exact tC this
 ·intro i b g d;obtain⟨rfl,rfl,rfl⟩:=a i b g d;refine⟨iQ j,BP k,⟨fun x c=>qO (iA.1 l x c),fun x c=>qO (iA.1 m x c)⟩,iQ o,?_⟩;rcases b9 with b9|b9
  ·cases rd with
   |nil=>exact .inl rfl
   |cons _ _=>cases b9
  ·exact .inr ⟨IC b9.1.1,fun x c=>Iz (iA.1 b9.1.2 x c),fun x c=>Iz (iA.1 b9.2 x c)⟩
 ·rintro av δ ⟨i,b,g,d,rfl,rfl⟩;obtain⟨rfl,rfl,rfl⟩:=a i b g d;exact hK
theorem DC{o:Oper}{h:Option H}{ps:List Prop}{av:AV}{δ:eP}(hs:BH ty Γ σ e nm o h=some (ps,av,δ))(u:iJ ps){K:AV->eP->Prop}(hK:K av δ):(spec ty Γ σ e nm o).T K:=by
 obtain⟨ay,op,ax,pos,ak,ao⟩:=o;unfold BH at hs;simp only[]at hs;split at hs
 ·
  rename_i t x i;split at hs
  ·rename_i I;split at hs
   ·rename_i el E k n L hi;split at hs
    ·rename_i es l D;cases hb:Nat.beq es E.size with
     |false=>rw[hb]at hs;cases hs
     |true=>
      rw[hb]at hs;cases hs;cases u with
      |cons v _=>
       have w:n.toNat<l.length:=(cK.1 v.2).1;unfold spec;simp only[qj,L,hi,D,eG hb,if_true];rw[getD_some v.2];exact⟨⟨v.1,by omega⟩,hK⟩
    ·rename_i ob D;split at hs
     ·rename_i am es l F;cases hb:Nat.beq es E.size with
      |false=>rw[hb]at hs;cases hs
      |true=>
       rw[hb]at hs;cases hs;cases u with
       |cons v _=>
        have w:n.toNat<l.length:=(cK.1 v.2).1;unfold spec;simp only[qj,L,hi,D,F,if_pos (eG hb)];exact⟨⟨v.1,by omega⟩,hK⟩
     ·rename_i am es mask l g' hole F;cases hb:Nat.beq es E.size with
      |false=>rw[hb]at hs;cases hs
      |true=>
       rw[hb]at hs;cases hs;cases u with
       |cons v _=>
        have w:n.toNat<l.length:=(cK.1 v.2).1;unfold spec;simp only[qj,L,hi,D,F,if_pos (eG hb)];exact⟨⟨v.1,by omega⟩,hK⟩
     ·cases hs
    ·rename_i o' g k' j D;split at hs
     ·rename_i M A;cases hb:(fV M.hole j 1&&(dA M.mask j).isSome&&Nat.beq (gK I j).1 E.size)with
      |false=>rw[hb]at hs;cases hs
      |true=>
       rw[hb]at hs;cases hs;simp only[fP]at hb;cases u with
       |cons v u=>
        cases u with
        |cons w _=>
         unfold spec;simp only[qj,L,hi,D,qg,A,if_pos hb.1,dM];rw[getD_some v];exact⟨⟨(cK.1 v).1,eG hb.2,w⟩,hK⟩
     ·cases hs
    ·cases hs
   ·cases hs
  ·exact zS hs u hK
  ·cases hs
 ·
  rename_i t a;split at hs
  ·rename_i ds B;split at hs
   ·rename_i T hT;cases hA:T.isAgg with
    |true=>
     rw[hA]at hs;simp only[cond_true]at hs;cases hb:Nat.ble T.size ds.length with
     |false=>rw[hb]at hs;cases hs
     |true=>
      rw[hb]at hs;cases hs;unfold spec;simp only[jQ,hT,B,hA,if_true];exact⟨iQ hb,hK⟩
    |false=>
     rw[hA]at hs;simp only[cond_false]at hs;split at hs
     ·cases hs;unfold spec;simp only[jQ,hT,B,hA,bW,if_false];exact⟨trivial,hK⟩
     ·cases hs
   ·cases hs
  ·rename_i ob es k j B;split at hs
   ·rename_i I;split at hs
    ·rename_i el es' l T F hT;cases hb:Nat.beq es es' with
     |false=>rw[hb]at hs;cases hs
     |true=>
      rw[hb]at hs;have he:=eG hb;subst he;simp only[cond_true]at hs;cases hA:T.isAgg with
      |true=>
       rw[hA]at hs;simp only[cond_true]at hs;cases p:Nat.ble (j+T.size) es with
       |false=>rw[p]at hs;cases hs
       |true=>
        rw[p]at hs;cases hs;cases u with
        |cons v _=>
         unfold spec;simp only[jQ,hT,B,hA,F,if_true];rw[getD_some v];exact⟨⟨(cK.1 v).1,iQ p⟩,hK⟩
      |false=>
       rw[hA]at hs;simp only[cond_false]at hs;cases p:Nat.blt j es with
       |false=>rw[p]at hs;cases hs
       |true=>
        rw[p]at hs;cases hs;cases u with
        |cons v _=>
         unfold spec;simp only[jQ,hT,B,hA,F,if_true,bW,if_false];rw[getD_some v];exact⟨⟨(cK.1 v).1,by simpa[iW]using p⟩,hK⟩
    ·rename_i el es' mask l g hole T F hT;cases hb:Nat.beq es es' with
     |false=>rw[hb]at hs;cases hs
     |true=>
      rw[hb]at hs;have he:=eG hb;subst he;simp only[cond_true]at hs;cases hA:T.isAgg with
      |true=>
       rw[hA]at hs;simp only[cond_true]at hs;cases p:(Nat.ble (j+T.size) es&&fV hole j T.size)with
       |false=>rw[p]at hs;cases hs
       |true=>
        rw[p]at hs;cases hs;simp only[fP]at p;cases u with
        |cons v _=>
         unfold spec;simp only[jQ,hT,B,F,nu,hA,if_true,p.2];rw[getD_some v];exact⟨⟨(cK.1 v).1,iQ p.1⟩,hK⟩
      |false=>
       rw[hA]at hs;simp only[cond_false]at hs;split at hs
       ·rename_i hm;cases p:Nat.blt j es with
        |false=>rw[p]at hs;cases hs
        |true=>
         rw[p]at hs;cases hs;cases u with
         |cons v _=>
          unfold spec;simp only[jQ,hT,B,F,nu,hA,if_true,bW,if_false,hm];rw[getD_some v];exact⟨⟨(cK.1 v).1,by simpa[iW]using p⟩,hK⟩
       ·rename_i e' hm;cases p:(Nat.blt j es&&fV hole j 1)with
        |false=>rw[p]at hs;cases hs
        |true=>
         rw[p]at hs;cases hs;simp only[fP]at p;cases u with
         |cons v _=>
          unfold spec;simp only[jQ,hT,B,F,nu,hA,if_true,bW,if_false,hm,p.2];exact⟨⟨(cK.1 v).1,by simpa[iW]using p.1⟩,hK⟩
    ·cases hs
   ·cases hs
  ·rename_i o' g k j es i c B;split at hs
   ·rename_i I dy;split at hs
    ·rename_i M T A hT;cases hb:(fV M.hole j 1&&(dA M.mask j).isSome&&Nat.beq (gK I j).1 es)with
     |false=>rw[hb]at hs;cases hs
     |true=>
      rw[hb]at hs;simp only[fP]at hb;simp only[cond_true]at hs;cases hA:T.isAgg with
      |true=>
       rw[hA]at hs;simp only[cond_true]at hs;cases p:Nat.ble (c+T.size) es with
       |false=>rw[p]at hs;cases hs
       |true=>
        rw[p]at hs;cases hs;cases u with
        |cons v u=>
         cases u with
         |cons w _=>
          unfold spec;simp only[jQ,hT,B,nR,A,if_pos hb.1,hA,if_true,dM];rw[getD_some v,getD_some w];exact⟨⟨(cK.1 v).1,eG hb.2,(cK.1 w).1,iQ p⟩,hK⟩
      |false=>
       rw[hA]at hs;simp only[cond_false]at hs;cases p:Nat.blt c es with
       |false=>rw[p]at hs;cases hs
       |true=>
        rw[p]at hs;cases hs;cases u with
        |cons v u=>
         cases u with
         |cons w _=>
          unfold spec;simp only[jQ,hT,B,nR,A,if_pos hb.1,hA,bW,if_false,dM];rw[getD_some v,getD_some w];exact⟨⟨(cK.1 v).1,eG hb.2,(cK.1 w).1,by simpa[iW]using p⟩,hK⟩
    ·cases hs
   ·cases hs
  ·exact CW hs u hK
 ·
  rename_i t a x;split at hs
  ·rename_i ob es k j B;split at hs
   ·rename_i I l';split at hs
    ·rename_i T cs hT J;split at hs
     ·rename_i el es' l ds F Q;split at hs
      ·rename_i E hE;cases hb:(Nat.beq cs.length T.size&&Nat.beq es es'&&Nat.beq E.size es)with
       |false=>rw[hb]at hs;cases hs
       |true=>
        rw[hb]at hs;simp only[fP]at hb;have V:=eG hb.1.1;have e2:=eG hb.1.2;have e3:=eG hb.2;subst e2;simp only[cond_true]at hs;unfold spec;simp only[nZ,hT,J,if_pos V,B,F,Q,if_true,hE,if_pos e3];cases hA:E.isAgg with
        |true=>
         rw[hA]at hs;simp only[cond_true]at hs;cases p:Nat.ble (j+ds.length) es with
         |false=>rw[p]at hs;cases hs
         |true=>
          rw[p]at hs;cases hs;cases u with
          |cons v u=>
           cases u with
           |cons w _=>
            simp only[if_true];rw[getD_some v,w];exact⟨⟨(cK.1 v).1,iQ p⟩,hK⟩
        |false=>
         rw[hA]at hs;simp only[cond_false]at hs;simp only[bW,if_false];split at hs
         ·rename_i d;cases p:(Nat.beq es 1&&Nat.beq j 0)with
          |false=>rw[p]at hs;cases hs
          |true=>
           rw[p]at hs;cases hs;simp only[fP]at p;cases u with
           |cons v u=>
            cases u with
            |cons w _=>
             simp only[if_pos (eG p.1)];rw[w];exact⟨⟨(cK.1 v).1,eG p.2⟩,hK⟩
         ·cases hs
      ·cases hs
     ·rename_i el es' mask l g hole F;split at hs
      ·rename_i E ds ns ks hE U;cases hb:(Nat.beq cs.length T.size&&Nat.beq es es'&&Nat.beq E.size es&&nQ ns)with
       |false=>rw[hb]at hs;cases hs
       |true=>
        rw[hb]at hs;simp only[fP]at hb;have V:=eG hb.1.1.1;have e2:=eG hb.1.1.2;have e3:=eG hb.1.2;have af:=jbn hb.2;subst e2;simp only[cond_true]at hs;have R:∀{aj:List Prop}{q:Prop},iJ ((l[k]? =some I)::q::aj)->l[k]? =some I:=fun u=>by cases u with|cons v _=>exact v
        cases hA:E.isAgg with
        |true=>
         rw[hA]at hs;simp only[cond_true]at hs;cases p:Nat.ble (j+ds.length) es with
         |false=>rw[p]at hs;cases hs
         |true=>
          rw[p]at hs;cases hs;have v:=R u;cases u with
          |cons _ u=>
           cases u with
           |cons w u=>
            obtain⟨P,W⟩:=u.app;unfold spec;simp only[nZ,hT,J,if_pos V,B,F,nW,hE,getD_some v,U,e3,and_self,if_true,hA,w];exact⟨⟨(cK.1 v).1,iQ p,BQ W,HY P,af⟩,hK⟩
        |false=>
         rw[hA]at hs;simp only[cond_false]at hs;split at hs
         ·rename_i d;cases p:(Nat.beq es 1&&Nat.beq j 0)with
          |false=>rw[p]at hs;cases hs
          |true=>
           rw[p]at hs;cases hs;simp only[fP]at p;have v:=R u;cases u with
           |cons _ u=>
            cases u with
            |cons w u=>
             obtain⟨P,W⟩:=u.app;unfold spec;simp only[nZ,hT,J,if_pos V,B,F,nW,hE,getD_some v,U,e3,and_self,if_true,hA,bW,if_false,if_pos (eG p.1),w];exact⟨⟨(cK.1 v).1,eG p.2,BQ W,HY P,af⟩,hK⟩
         ·cases hs
      ·cases hs
     ·cases hs
    ·cases hs
   ·cases hs
  ·rename_i o' g k j es i c B;split at hs
   ·rename_i I dy aw l';split at hs
    ·rename_i T cs hT J;split at hs
     ·rename_i M ds A Q;split at hs
      ·rename_i E hE;cases hb:(Nat.beq cs.length T.size&&fV M.hole j 1&&Nat.beq (gK I j).1 es&&Nat.beq E.size es)with
       |false=>rw[hb]at hs;cases hs
       |true=>
        rw[hb]at hs;simp only[fP]at hb;have V:=eG hb.1.1.1;have e2:=eG hb.1.2;have e3:=eG hb.2;have hc:fV M.hole j 1=true/\ E.size=es:=⟨hb.1.1.2,e3⟩;simp only[cond_true]at hs;cases hA:E.isAgg with
        |true=>
         rw[hA]at hs;simp only[cond_true]at hs;cases p:Nat.ble (c+ds.length) es with
         |false=>rw[p]at hs;cases hs
         |true=>
          rw[p]at hs;cases hs;cases u with
          |cons v u=>
           cases u with
           |cons w u=>
            cases u with
            |cons P u=>
             cases u with
             |cons W _=>
              unfold spec;simp only[nZ,hT,J,if_pos V,B,Q,nV,A,hE,if_pos hc,hA,if_true,dM,getD_some v,getD_some w,P,W];exact⟨⟨(cK.1 v).1,e2,(cK.1 w).1,iQ p⟩,hK⟩
        |false=>
         rw[hA]at hs;simp only[cond_false]at hs;split at hs
         ·rename_i d;cases p:(Nat.beq es 1&&Nat.beq c 0)with
          |false=>rw[p]at hs;cases hs
          |true=>
           rw[p]at hs;cases hs;simp only[fP]at p;cases u with
           |cons v u=>
            cases u with
            |cons w u=>
             cases u with
             |cons P u=>
              cases u with
              |cons W _=>
               unfold spec;simp only[nZ,hT,J,if_pos V,B,Q,nV,A,hE,if_pos hc,hA,bW,if_false,if_pos (eG p.1),dM,getD_some v,getD_some w,P,W];exact⟨⟨(cK.1 v).1,e2,(cK.1 w).1,eG p.2⟩,hK⟩
         ·cases hs
      ·cases hs
     ·cases hs
    ·cases hs
   ·cases hs
  ·exact CW hs u hK
 ·
  rename_i s x f;split at hs
  ·rename_i ds B;split at hs
   ·rename_i au ah;cases hb:Nat.ble au ds.length with
    |false=>rw[hb]at hs;cases hs
    |true=>
     rw[hb]at hs;cases hs;unfold spec;simp only[vk,B,ah];exact⟨iQ hb,hK⟩
   ·cases hs
  ·exact CW hs u hK
 ·
  rename_i c a b;split at hs
  ·rename_i t hc;cases hs;unfold spec;simp only[hc,pX];cases t
   ·exact⟨trivial,hK⟩
   ·exact⟨trivial,hK⟩
  ·cases hs
 ·
  rename_i c args ac;split at hs
  ·rename_i f ad X;split at hs
   ·rename_i S hS;cases hv:uJ (List.map e args.toList++ad)with
    |true=>
     rw[hv]at hs;simp only[cond_true]at hs;split at hs
     ·rename_i I r new ob;unfold Gm at hs;split at hs
      ·rename_i ds ns rd aj z;split at hs
       ·rename_i obs G;cases hb:uU ns rd obs r new ob with
        |false=>rw[hb]at hs;cases hs
        |true=>
         rw[hb]at hs;cases hs;cases u with
         |cons v ap=>
          obtain⟨z,C⟩:=Il z ap;unfold spec;simp only[X,kD,hS,z,gW,G];exact JC hb v C hK
       ·cases hs
      ·cases hs
     ·cases hs
    |false=>
     have C:=zu (σ:=σ) S.lend _ hv;rw[hv]at hs;simp only[cond_false]at hs;split at hs
     ·rename_i ds ns rd z;split at hs
      ·rename_i obs G;split at hs
       ·rename_i r new ob;cases hb:uU ns rd obs r new ob with
        |false=>rw[hb]at hs;cases hs
        |true=>
         rw[hb]at hs;cases hs;cases u with
         |cons v _=>
          unfold spec;simp only[X,kD,hS,z,gW,G];exact JC hb v C hK
       ·rename_i r new ob;cases hb:Cv ns rd obs r new ob with
        |false=>rw[hb]at hs;cases hs
        |true=>
         rw[hb]at hs;cases hs;cases u with
         |cons v u=>
          cases u with
          |cons ae _=>
           obtain⟨ai,N⟩:=v;unfold spec;simp only[X,kD,hS,z,gW,G];unfold Cv at hb;simp only[fP]at hb;obtain⟨⟨⟨⟨⟨⟨⟨⟨b1,b2⟩,b3⟩,b4⟩,b5⟩,b6⟩,b7⟩,b8⟩,b9⟩:=hb;refine⟨⟨C,ai,jbn b6,fun n hn=>?_,fun x D=>qO (iA.1 b8 x D),?_⟩,?_⟩
           ·have:=iA.1 b7 n hn;simp only[mO]at this;exact tC this
           ·intro r' O ab aa;obtain⟨rfl,rfl,rfl⟩:=N r' O ab aa;exact⟨iQ b1,BP b2,⟨fun x D=>qO (iA.1 b3 x D),fun x D=>qO (iA.1 b4 x D)⟩,iQ b5,.inr ⟨IC b9,ae.1,ae.2⟩⟩
           ·rintro av δ ⟨r',O,ab,aa,rfl,rfl⟩;obtain⟨rfl,rfl,rfl⟩:=N r' O ab aa;exact hK
       ·cases hs
      ·cases hs
     ·cases hs
   ·cases hs
  ·cases hs
 ·
  rename_i args ac;split at hs
  ·rename_i x t D ht;split at hs
   ·rename_i o' g k j Y;split at hs
    ·rename_i I m;split at hs
     ·rename_i M ar A;cases hb:(fV M.hole j 1&&(dA M.mask j).isSome)with
      |false=>rw[hb]at hs;cases hs
      |true=>
       rw[hb]at hs;cases hs;simp only[fP]at hb;cases u with
       |cons v u=>
        cases u with
        |cons w _=>
         unfold spec;simp only[D,ht,tu,ar,Y,p8,A,if_pos hb,dM];rw[getD_some v,w];exact⟨(cK.1 v).1,hK⟩
     ·cases hs
    ·cases hs
   ·exact zS hs u hK
  ·cases hs
 ·
  rename_i args ac;split at hs
  ·rename_i x y t t' D ht;split at hs
   ·rename_i o' g k j Y;split at hs
    ·rename_i I l';split at hs
     ·rename_i el E M L A;split at hs
      ·rename_i e' l2 rd Z hm aq;cases hb:(Nat.beq t t'&&Nat.blt 0 E.size&&Nat.beq E.zero.cells.size E.size&&Nat.beq e' el&&Nat.beq (gK I j).1 E.size)with
       |false=>rw[hb]at hs;cases hs
       |true=>
        rw[hb]at hs;cases hs;simp only[fP]at hb;have b1:=eG hb.1.1.1.1;have b2:0<E.size:=by simpa[iW]using hb.1.1.1.2
        have b3:=eG hb.1.1.2;have b4:=eG hb.1.2;have b5:=eG hb.2;subst b1;subst b4;cases u with
        |cons v u=>
         cases u with
         |cons w u=>
          cases u with
          |cons P _=>
           unfold spec;simp only[D,ht,vE,L,b2,b3,and_self,if_true,aq,Y,oZ,A,Z,if_pos hm,dM];rw[getD_some v,P];exact⟨⟨(cK.1 v).1,b5,w⟩,hK⟩
      ·cases hs
     ·cases hs
    ·cases hs
   ·exact zS hs u hK
  ·cases hs
 ·exact zS hs u hK

def Bl(i:Nat):List (Nat×H)->Option H×List (Nat×H)
 |(k,h)::r=>bif Nat.beq k i then(some h,r)else(none,(k,h)::r)
 |[]=>(none,[])

def sP(ops:List Oper)(n:Nat)(A:List (Nat×AV))(g:Option (Nat×Bool)):Option Bool:=
 match g with
 |none=>some true
 |some (j,a)=>
  match (ops[j]?).bind (·.dst)with
  |none=>none
  |some d=>
   match jB n A (.tmp d)with
   | .und=>some false
   | .dat (.sc (.bool b))=>some (bif a then b else !b)
   |_=>none

theorem wX{ops:List Oper}{n:Nat}{A:List (Nat×AV)}{o:Oper}{K:AV->eP->Prop}{b:Bool}(a:sP ops n A o.guard=some b)(h:b=true->(spec ty Γ σ (jB n A) nm o).T K)(g:b=false->K .und []):(gL ty Γ ops.toArray σ (iC n A) nm o).T K:=by
 unfold gL;unfold sP at a;cases c:o.guard with
 |none=>
  simp only[c]at a ⊢;cases a;rw[<-wS];exact h rfl
 |some p=>
  obtain⟨j,f⟩:=p;simp only[c]at a ⊢;have i:(ops.toArray)[j]? =ops[j]?:=by simp
  rw[i];cases hd:(ops[j]?).bind (·.dst)with
  |none=>rw[hd]at a;cases a
  |some d=>
   simp only[hd]at a ⊢;rw[tK];have k:jB n A (.tmp d)=bif Nat.blt d n then jN A d else .und:=rfl;rw[k]at a;split at a
   ·rename_i m;cases a;rw[m];exact⟨trivial,g rfl⟩
   ·rename_i t l;cases a;rw[l];simp only[];rw[<-wS];cases f<;>cases t
    ·exact h rfl
    ·exact⟨trivial,g rfl⟩
    ·exact⟨trivial,g rfl⟩
    ·exact h rfl
   ·cases a

end
end
end Go.Ab
