/- My own layer: tables: what their operations leave (7): literals. -/
import Derived.Test.YtimecodbnhcnoaaGreatAbTab6
namespace Go.Ab
set_option linter.unusedVariables false
set_option linter.unusedSimpArgs false
section
variable{P:Program}{cx:Cx}{κ:Kap}{F:Nat->Prop}{w:World}{U:Nat->Prop}{nm:Nat}{σ:Objs}{ty:TypeId->Option TyE}{Γ:Nat->Option FnSpec}

theorem jrr{d:D}{u:Value}(a:one u=true)(h:RD F w d u):d.cells=[d]:=by
 cases d with
 |agg cs=>
  unfold RD at h;obtain⟨vs,rfl,_⟩:=h;cases a
 |_=>rfl

def jnf:Value:=.slice none 0 0
theorem jew(h:ORel cx κ F w U σ){mask:List (Option TypeId)}{agg:Bool}{es:Nat}{ρ:Operand->Value}{e:Operand->AV}(he:∀x,RV κ F w (e x) (ρ x))(hn:∀x,NB U (e x)):
  ∀(l:List (Nat×Operand))(k:Nat)(ds:List D)(ns:List Nat)(c:Array Value),jbw ty σ nm mask agg es k (l.map fun p=>(p.1,e p.2))=some (ds,ns)->c.size=(k+l.length)*es->
   ∃X us src,Instr.fill (fun i=>some (i*es,es)) c (l.map fun p=>(p.1,ρ p.2))=some X/\ X.toList=c.toList.take (k*es)++us/\ TabC κ σ F w mask es ds us none src/\
    (∀k j s,j<es->src k j=some s->∃n,s=.obj n/\ n∈ns)/\ (ns.Nodup->∀k j k' j' s,j<es->j'<es->src k j=some s->src k' j'=some s->(k,j)=(k',j'))/\ ds.length=l.length
 |[],k,ds,ns,c,o,hc=>by
  simp only[List.map_nil,jbw,Option.some.injEq,Prod.mk.injEq]at o;obtain⟨rfl,rfl⟩:=o;refine⟨c,[],fun _ _=>none,rfl,?_,⟨by simp,by simp,by simp⟩,by simp,by simp,rfl⟩;rw[List.append_nil,List.take_of_length_le (by simp at hc ⊢;omega)]
 |(i,x)::m,k,ds,ns,c,o,hc=>by
  simp only[List.map_cons,jbw]at o;split at o
  ·rename_i ae;subst ae;split at o
   ·rename_i cs ad;split at o
    ·rename_i H;split at o
     ·rename_i O ao r am T hr;split at o
      ·rename_i d hd;simp only[Option.some.injEq,Prod.mk.injEq]at o;obtain⟨rfl,rfl⟩:=o;obtain⟨h1,h2⟩:=jdm ad (he x) (hn x);obtain⟨q1,q2,q3⟩:=jc8 T;have ak:(ρ x).cells.size=es:=by rw[<-Array.length_toList,h1.length];exact H
       simp only[List.length_cons]at hc;have e1:(i+(m.length+1))*es=i*es+es+m.length*es:=by rw[Nat.add_mul,Nat.add_mul,Nat.one_mul];omega
       have e2:(i+1+m.length)*es=i*es+es+m.length*es:=by rw[Nat.add_mul,Nat.add_mul,Nat.one_mul]
       have G:i*es+(ρ x).cells.size<=c.size:=by omega
       obtain⟨X,us,aq,g1,g2,g3,g4,g5,g6⟩:=jew h he hn m (i+1) r am (spl c.toList (i*es) (ρ x).cells.toList).toArray hr (by
        simp only[List.size_toArray];rw[jbh (by simpa using G),Array.length_toList];omega)
       have t:∀j<es,∃y u M,cs[j]? =some y/\ (ρ x).cells.toList[j]? =some u/\ one u=true/\ RV κ F w y u/\ O[j]? =some M/\ jek ty σ nm nm mask none (.sc undef) [] j y M:=fun j I=>by
        have C:j<cs.length:=by omega
        obtain⟨u,u1,W,K⟩:=RVc.at j _ h1 (List.getElem?_eq_getElem C);obtain⟨M,L,B⟩:=q3 j _ (List.getElem?_eq_getElem C);rw[Nat.zero_add]at B;exact⟨_,u,M,List.getElem?_eq_getElem C,u1,W,K,L,B⟩
       have R:d.cells=O:=by
        unfold jbw.mkDD at hd;split at hd
        ·cases hd;rfl
        ·split at hd
         ·rename_i d';cases hd;simp only[List.length_cons,List.length_nil,Nat.zero_add]at q1;obtain⟨y,u,M,_,_,W,K,L,B⟩:=t 0 (by omega);simp only[List.getElem?_cons_zero,Option.some.injEq]at L;subst L;have g:=jgw (k:=0) h B (.inl rfl) K;cases S:jao mask 0 with
          |none=>rw[S]at g;exact jrr W g
          |some e2=>
           rw[S]at g;obtain⟨aa,ap,rfl,_⟩:=g.1;rfl
         ·cases hd
       let z:Nat->Nat->Option Sc:=fun k j=>if k=0 then(ownN (cs.getD j .und)).map .obj else none
       have E:∀k j s,z k j=some s->k=0/\ ∃n,cs[j]? =some (.own n)/\ s=.obj n:=fun k j s hs=>by
        have f:(if k=0 then(ownN (cs.getD j .und)).map Sc.obj else none)=some s:=hs;by_cases A:k=0
        ·rw[if_pos A]at f;obtain⟨n,af,ah⟩:=Option.map_eq_some_iff.1 f;have:=jfn af;refine⟨A,n,?_,ah.symm⟩;rw[List.getD_eq_getElem?_getD]at this;cases Q:cs[j]? with
         |none=>rw[Q]at this;cases this
         |some y=>rw[Q]at this;simp only[Option.getD_some]at this;rw[this]
        ·rw[if_neg A]at f;cases f
       have ab:TabC κ σ F w mask es [d] (ρ x).cells.toList none z:=by
        refine⟨by simp[ak],fun k' d' a=>?_,fun k' d' j M a q=>?_⟩
        ·cases k' with
         |zero=>simp at a;subst a;rw[R,q1];exact H
         |succ k'=>simp at a
        ·cases k' with
         |succ k'=>simp at a
         |zero=>
          simp at a;subst a;rw[R]at q;have C:=(List.getElem?_eq_some_iff.1 q).1;obtain⟨y,u,ar,v0,u1,W,K,L,B⟩:=t j (by omega);rw[q]at L;cases L;refine⟨u,by rw[Nat.zero_mul,Nat.zero_add];exact u1,W,?_⟩;have g:=jgw (k:=0) h B (.inl rfl) K;have aj:z 0 j=(ownN y).map .obj:=by
           show(if 0=0 then(ownN (cs.getD j .und)).map Sc.obj else none)=_;rw[if_pos rfl,List.getD_eq_getElem?_getD,v0];rfl
          unfold jek at B;cases S:jao mask j with
          |none=>rw[S]at g;exact g
          |some e2=>
           rw[S]at g B;simp only[]at g B ⊢;refine .inr ⟨g.1,fun b hb=>?_⟩;have ac:=g.2 b hb;rcases B with⟨n,aa,rows,rfl,hσ,_⟩|⟨k2,_,J,_⟩|⟨rfl,_⟩|⟨k2,_,_,_,_,J,_⟩
           ·exact⟨.obj n,by rw[aj];rfl,ac⟩
           ·cases J
           ·unfold RV RD at K;rw[K.1]at hb;simp[blk]at hb
           ·cases J
       have v:∀(j n:Nat),cs[j]? =some (AV.own n)->n∈ao:=fun j n I=>by rw[q2];exact List.mem_filterMap.2 ⟨_,List.mem_of_getElem? I,rfl⟩
       refine⟨X,(ρ x).cells.toList++us,_,?_,?_,ab.app g3,fun k j s I hs=>?_,fun ai k j k' j' s I q hs f=>?_,by simp[g6]⟩
       ·simp only[List.map_cons,Instr.fill];rw[if_neg (by simp only[Bool.or_eq_true,decide_eq_true_eq,ne_eq];omega),jh0 _ _ _ G];exact g1
       ·rw[g2,<-List.append_assoc];congr 1;have e3:(i+1)*es=i*es+es:=by rw[Nat.add_mul,Nat.one_mul]
        unfold spl;have:(c.toList.take (i*es)++(ρ x).cells.toList).length=(i+1)*es:=by
         rw[List.length_append,List.length_take,Array.length_toList,Array.length_toList];omega
        rw[<-this,List.take_left]
       ·by_cases A:k<[d].length
        ·rw[if_pos A]at hs;obtain⟨_,n,h3,rfl⟩:=E k j s hs;exact⟨n,rfl,List.mem_append_left _ (v j n h3)⟩
        ·rw[if_neg A]at hs;obtain⟨n,rfl,h3⟩:=g4 _ j s I hs;exact⟨n,rfl,List.mem_append_right _ h3⟩
       ·obtain⟨n1,n2,n3⟩:=List.nodup_append.1 ai;by_cases A:k<[d].length
        ·rw[if_pos A]at hs;obtain⟨a1,n,a2,rfl⟩:=E k j s hs;by_cases a:k'<[d].length
         ·rw[if_pos a]at f;obtain⟨b1,V,Y,N⟩:=E k' j' _ f;cases N;rw[a1,b1,jj4 (by rw[<-q2];exact n1) a2 Y]
         ·rw[if_neg a]at f;obtain⟨V,N,Z⟩:=g4 _ j' _ q f;cases N;exact absurd rfl (n3 n (v j n a2) n Z)
        ·rw[if_neg A]at hs;by_cases a:k'<[d].length
         ·rw[if_pos a]at f;obtain⟨b1,V,Y,rfl⟩:=E k' j' _ f;obtain⟨n,N,Z⟩:=g4 _ j _ I hs;cases N;exact absurd rfl (n3 V (v j' V Y) V Z)
         ·rw[if_neg a]at f;have:=g5 n2 _ j _ j' s I q hs f;simp only[Prod.mk.injEq,List.length_cons,List.length_nil]at this A a ⊢;exact⟨by omega,this.2⟩
      ·cases o
     ·cases o
    ·cases o
   ·cases o
  ·cases o

theorem jfr:∀{cs:List AV},(jcc σ cs).length=cs.length
 |[]=>rfl
 |x::cs=>by
  cases x<;>simp[jcc,jfr (cs:=cs)]

theorem jih(V:∀t x,ty t=some x->TyOK P t x)(h:ORel cx κ F w U σ)(hf:¬U nm){o:Oper}{ρ:Operand->Value}{e:Operand->AV}(he:∀x,RV κ F w (e x) (ρ x))(hn:∀x,NB U (e x)){t:TypeId}{len:Nat}{a:Array (Nat×Operand)}(ho:o.op=.buildSlice t len a)
  {el:TypeId} {E:TyE} {ds:List D} {ns:List Nat} (O:jbs ty t=some (el,E)) (l:a.toList.length=len) (ab:len*E.size<=16777216) (m:0<E.size) (ad:E.zero.cells.size=E.size)
  (c:jbw ty σ nm (jcc σ (jby (a.toList.map fun p=>(p.1,e p.2)))) E.isAgg E.size 0 (a.toList.map fun p=>(p.1,e p.2))=some (ds,ns)):
  ja4 P cx κ F w U nm σ o ρ (.det ns.Nodup ns (.own nm) (jfu ns++[(nm,some (.tab el E.size (jcc σ (jby (a.toList.map fun p=>(p.1,e p.2)))) ds nm none))])):=by
 obtain⟨hu,H⟩:=jbf V O;intro R;have d:(jcc σ (jby (a.toList.map fun p=>(p.1,e p.2)))).length<=E.size:=by
  rw[jfr];cases hp:a.toList with
  |nil=>simp[jby]
  |cons p Z=>
   obtain⟨i,x⟩:=p;rw[hp]at c;simp only[List.map_cons,jbw]at c;split at c<;>try cases c
   split at c<;>try cases c
   rename_i cs M;split at c<;>try cases c
   rename_i hl;simp only[List.map_cons,jby,M,Option.getD_some];omega
 generalize ac:jcc σ (jby (a.toList.map fun p=>(p.1,e p.2)))=mask at*
 obtain⟨u,us,src,I,K,A,g4,g5,g6⟩:=jew h he hn a.toList 0 ds ns ((Array.range (len*E.size)).map (fun i=>(if len*E.size=0 then #[]else E.zero.cells)[i%(if len*E.size=0 then #[]else E.zero.cells).size]!)) c (by simp[<-l]);simp only[Nat.zero_mul,List.take_zero,List.nil_append]at K;have hv:(a.map fun(i,x)=>(i,ρ x)).toList=a.toList.map fun p=>(p.1,ρ p.2):=by simp
 have J:ds.length=len:=by rw[g6];exact l
 have G:∀k j s,jbv mask ds.length none k j->src k j=some s->∃n,s=.obj n/\ n∈ns:=fun k j s z hs=>g4 k j s (Nat.lt_of_lt_of_le (jj7 z.2.1) d) hs;refine jam (v:=.slice (some ⟨w.heap.size,0,none⟩) ds.length ds.length) (w':=w.alloc (.cells u el)) ?_ ?_
 ·unfold execOp;simp only[ho];refine jbk _ ?_;have B:¬(len*E.size>2^24):=by omega
  simp only[Instr.buildSlice,Sem.run_bind,run_underlying hu,Result.andThen_ok,jar H,B,if_false,hv];by_cases h0:len*E.size=0
  ·simp only[h0,if_true]at I;simp only[h0,if_true,Sem.run_bind,Sem.run_pure,Result.andThen_ok,I,jcq,J]
  ·simp only[h0,if_false]at I;simp only[h0,if_false,Sem.run_bind,jdr H,Sem.run_pure,Result.andThen_ok,I,jcq,J]
 ·have f:∀b,b<w.heap.size->(w.alloc (.cells u el)).heap[b]? =w.heap[b]?:=fun b hb=>Go.RowKit.Below.heap_alloc w _ b hb;have N:ds.length<=maxLen:=by
   unfold maxLen;have:ds.length*1<=ds.length*E.size:=Nat.mul_le_mul_left _ m;rw[J]at this ⊢;omega
  have aa:u.size=ds.length*E.size:=by rw[<-Array.length_toList,K,A.len]
  have C:Own (w.alloc (.cells u el)) el E.size (.slice (some ⟨w.heap.size,0,none⟩) ds.length ds.length) ds.length us:=by
   refine⟨A.len,.inr ⟨w.heap.size,0,ds.length,u,rfl,⟨_,_,heap_alloc_new w _,.inl rfl⟩,Nat.le_refl _,N,by omega,?_⟩⟩;rw[List.drop_zero,K,List.take_of_length_le (by rw[A.len];omega)]
  refine⟨.own nm,_,_,F,⟨rfl,rfl⟩,jkq (w':=w.alloc (.cells u el)) h hf ns nm (.inl rfl) (v:=⟨.slice (some ⟨w.heap.size,0,none⟩) ds.length ds.length,fun k j=>us.getD (k*E.size+j) undef⟩) rfl rfl rfl (by simp) (fun b hb _=>f b hb) (x:=.tab el E.size mask ds nm none) (fun b hb=>?_) ?_ jbl ?_,?_,jb3 _ jbl⟩
  ·rcases hb with hb|⟨k,j,z,hb⟩
   ·simp[kapN,blk]at hb;exact .inr (by omega)
   ·simp only[kapN,if_true]at hb;obtain⟨s,W,X⟩:=A.src_blk d z hb;obtain⟨n,rfl,Q⟩:=G k j s z W;obtain⟨x,hx,L⟩:=X.blk;exact .inl ⟨n,Q,x,hx,L⟩
  ·show TabOK F _ el E.size mask ds (kapN κ nm _ nm).v (kapN κ nm _ nm).r none;simp only[kapN,if_true];refine A.tab h m d (fun b hb=>f b (h.fG b hb).2) (fun k j s b _ _ hb=>f b (jr1 h hb)) C (fun k j k' j' s z S hs T=>?_) (fun b hb=>.inl ?_)
   ·exact g5 R k j k' j' s (Nat.lt_of_lt_of_le (jj7 z.2.1) d) (Nat.lt_of_lt_of_le (jj7 S.2.1) d) hs T
   ·simp[blk]at hb;omega
  ·intro o' y Y;rw[jkn]at Y;have g:upd (rmvs σ ns) nm (some (.tab el E.size mask ds nm none)) o'=some y:=Y;by_cases q:o'=nm
   ·subst q;rw[jax]at g;exact .inl ⟨rfl,(Option.some.inj g).symm⟩
   ·rw[jbz q]at g;obtain⟨W,X⟩:=jfl g;exact .inr ⟨q,X,W⟩
  ·unfold RV;exact⟨by simp[kapN],rfl⟩

theorem jld:∀{e:List (Option TypeId)}{vs:List Value}{ds:List D}{j:Nat}{e':TypeId},jao (jck e vs ds) j=some e'->vs[j]? =some jnf/\ ∃n,ds[j]? =some (.sl (n+1) [])
 |[],vs,ds,j,e',h=>by simp[jck,jao]at h
 |t::e,[],ds,j,e',h=>by cases t<;>simp[jck,jao]at h
 |t::e,v::vs,[],j,e',h=>by cases t<;>simp[jck,jao]at h
 |t::e,v::vs,d::ds,0,e',h=>by
  unfold jck at h;split at h
  ·rename_i c a b;cases a;cases b;exact⟨rfl,_,rfl⟩
  ·simp[jao]at h
  ·simp[jao]at h
 |t::e,v::vs,d::ds,j+1,e',h=>by
  have f:jao (jck e vs ds) j=some e':=by
   unfold jck at h;split at h
   ·rename_i c a b;cases c;cases a;cases b;simpa[jao]using h
   ·rename_i c a b;cases c;cases a;cases b;simpa[jao]using h
   ·simp[jao]at h
  simpa using jld f
theorem jho:∀{e:List (Option TypeId)}{vs:List Value}{ds:List D},(jck e vs ds).length<=ds.length
 |[],vs,ds=>by simp[jck]
 |t::e,[],ds=>by cases t<;>simp[jck]
 |t::e,v::vs,[]=>by cases t<;>simp[jck]
 |t::e,v::vs,d::ds=>by
  unfold jck;split
  ·rename_i a b c;cases a;cases b;cases c;simpa using jho
  ·rename_i a b c;cases a;cases b;cases c;simpa using jho
  ·simp
theorem jqe{z:Array Value}:∀{n k j:Nat},k<n->j<z.size->(madeCells z (n*z.size)).toList[k*z.size+j]? =z.toList[j]?
 |0,k,j,b,_=>by omega
 |n+1,0,j,_,a=>by
  rw[jhq,Nat.zero_mul,Nat.zero_add,List.getElem?_append_left (by simpa using a)]
 |n+1,k+1,j,b,a=>by
  rw[jhq,List.getElem?_append_right (by simp[Nat.add_mul];omega)];have:(k+1)*z.size+j-z.toList.length=k*z.size+j:=by simp[Nat.add_mul];omega
  rw[this];exact jqe (by omega) a

theorem jjs(X:∀t x,ty t=some x->TyOK P t x)(h:ORel cx κ F w U σ)(hf:¬U nm){o:Oper}{ρ:Operand->Value}{e:Operand->AV}(he:∀x,RV κ F w (e x) (ρ x)){t:TypeId}{l c:Operand}(ho:o.op=.makeSlice t l c)
  {el:TypeId} {E:TyE} {k k':IntKind} {n m:Int} {d:D} (S:jbs ty t=some (el,E)) (hl:jbj (e l)=some (k,n)) (hc:jbj (e c)=some (k',m)) (L:0<E.size) (C:E.zero.cells.size=E.size) (J:E.zero.cells.toList.all one=true)
  (hd:mkD E.isAgg (nzC (shp ty 6 el) (E.zero.cells.toList.map .sc))=some d):
  ja4 P cx κ F w U nm σ o ρ (.det (0<=n/\ n=m/\ n<=140737488355328/\ n*E.bytes<=140737488355328) [] (.own nm) [(nm,some (.tab el E.size (jck (shT ty 6 el) E.zero.cells.toList d.cells) (List.replicate n.toNat d) nm none))]):=by
 obtain⟨hu,Y⟩:=jbf X S;have vl:=jbx hl (he l);have vc:=jbx hc (he c);intro hp;obtain⟨p1,p2,p3,p4⟩:=(show _/\ _/\ _/\ _ from hp);subst p2;obtain⟨_,i,i1,i2,i3,i4,_⟩:=Y;have O:=run_make (P:=P) w t el i E.zero hu i1 i4 k k' n n p1 (Int.le_refl _) (by rw[i3,Int.mul_comm];omega) (by omega);have M:RC F w d.cells E.zero.cells.toList:=jpy hd (RC.nz _ _ _ (jgk J));have G:d.cells.length=E.size:=by rw[<-M.length,Array.length_toList,C]
 have p:(List.replicate n.toNat d).length=n.toNat:=List.length_replicate;generalize H:jck (shT ty 6 el) E.zero.cells.toList d.cells=mask;have I:mask.length<=E.size:=by rw[<-H,<-G];exact jho
 generalize f:(madeCells E.zero.cells (n.toNat*E.size))=c';have B:c'.size=n.toNat*E.size:=by rw[<-f];simp[madeCells]
 have hC:TabC κ σ F w mask E.size (List.replicate n.toNat d) c'.toList none (fun _ _=>none):=by
  refine⟨by rw[Array.length_toList,B,p],fun k d' N=>?_,fun k d' j cc N T=>?_⟩
  ·have:=List.mem_replicate.1 (List.mem_of_getElem? N);rw[this.2];exact G
  ·have W:k<n.toNat:=by have:=(List.getElem?_eq_some_iff.1 N).1;omega
   have R:=(List.mem_replicate.1 (List.mem_of_getElem? N)).2;subst R;have V:j<E.size:=by have:=(List.getElem?_eq_some_iff.1 T).1;omega
   have Q:c'.toList[k*E.size+j]? =E.zero.cells.toList[j]?:=by
    have:=jqe (z:=E.zero.cells) W (by rw[C];exact V);rw[C,f]at this;exact this
   obtain⟨u,u1,u2,u3⟩:=RC.at j cc M T;refine⟨u,by rw[Q];exact u1,u2,?_⟩;cases hm:jao mask j with
   |none=>exact u3
   |some e'=>
    rw[<-H]at hm;obtain⟨Z,q,g2⟩:=jld hm;rw[u1]at Z;cases Z;rw[T]at g2;cases g2;exact .inr ⟨⟨q+1,[],rfl,[],Own.nil w e' (q+1),by unfold RE;rfl,by omega⟩,by simp[blk,jnf]⟩
 refine jam (v:=.slice (some ⟨w.heap.size,0,none⟩) n.toNat n.toNat) (w':=w.alloc (.cells c' el)) ?_ ?_
 ·unfold execOp;simp only[ho];refine jbk _ ?_;rw[vl,vc,O,i2,f]
 ·have a:∀b,b<w.heap.size->(w.alloc (.cells c' el)).heap[b]? =w.heap[b]?:=fun b hb=>Go.RowKit.Below.heap_alloc w _ b hb;have K:Own (w.alloc (.cells c' el)) el E.size (.slice (some ⟨w.heap.size,0,none⟩) n.toNat n.toNat) (List.replicate n.toNat d).length c'.toList:=by
   rw[p];refine⟨by rw[Array.length_toList,B],.inr ⟨w.heap.size,0,n.toNat,c',rfl,⟨_,_,heap_alloc_new w _,.inl rfl⟩,Nat.le_refl _,by unfold maxLen;omega,by omega,?_⟩⟩;rw[List.drop_zero,List.take_of_length_le (by rw[Array.length_toList,B];omega)]
  refine⟨.own nm,_,_,F,⟨rfl,rfl⟩,jkq (w':=w.alloc (.cells c' el)) h hf [] nm (.inl rfl) (v:=⟨.slice (some ⟨w.heap.size,0,none⟩) n.toNat n.toNat,fun k j=>c'.toList.getD (k*E.size+j) undef⟩) rfl rfl rfl (by simp) (fun b hb _=>a b hb) (x:=.tab el E.size mask (List.replicate n.toNat d) nm none) (fun b hb=>?_) ?_ jbl ?_,?_,jb3 _ jbl⟩
  ·rcases hb with hb|⟨k,j,O,hb⟩
   ·simp[kapN,blk]at hb;exact .inr (by omega)
   ·simp only[kapN,if_true]at hb;obtain⟨s,k1,k2⟩:=hC.src_blk I O hb;cases k1
  ·show TabOK F _ el E.size mask (List.replicate n.toNat d) (kapN κ nm _ nm).v (kapN κ nm _ nm).r none;simp only[kapN,if_true];refine hC.tab h L I (fun b hb=>a b (h.fG b hb).2) (fun k j s b _ _ hb=>a b (jr1 h hb)) K (fun k j k' j' s O aa hs ab=>?_) (fun b hb=>.inl ?_)
   ·cases hs
   ·simp[blk]at hb;omega
  ·intro o' y hy;have g:upd σ nm (some (.tab el E.size mask (List.replicate n.toNat d) nm none)) o'=some y:=hy;by_cases A:o'=nm
   ·subst A;rw[jax]at g;exact .inl ⟨rfl,(Option.some.inj g).symm⟩
   ·rw[jbz A]at g;exact .inr ⟨A,by simp,g⟩
  ·unfold RV;exact⟨by simp[kapN],rfl⟩

end
end Go.Ab
