/- My own layer: tables: what their operations leave (6): appends, literals. -/
import Derived.Test.YtimecodbnhcnoaaGreatAbTab5
namespace Go.Ab
set_option linter.unusedVariables false
set_option linter.unusedSimpArgs false
section
variable{P:Program}{cx:Cx}{κ:Kap}{F:Nat->Prop}{w:World}{U:Nat->Prop}{nm:Nat}{σ:Objs}{ty:TypeId->Option TyE}{Γ:Nat->Option FnSpec}

theorem jo8(h:ORel cx κ F w U σ){o:Nat}{e:TypeId}{es:Nat}{mask:List (Option TypeId)}{l:List D}{g:Nat}(f:σ o=some (.tab e es mask l g none)):
  ∃us,Own w e es (κ o).v l.length us/\ 0<es/\ mask.length<=es/\ TabC κ σ F w mask es l us none fun k j=>some (.row o k j):=by
 have m:TabOK F w e es mask l (κ o).v (κ g).r none:=h.ok o _ f;obtain⟨us,i,p,hc⟩:=m.mem;refine⟨us,i,m.pos,m.mlen,p,m.cells,fun k d j c q hd=>?_⟩;obtain⟨x,u,y,a⟩:=hc k d j c q hd;refine⟨x,u,y,?_⟩;cases n:jao mask j with
 |none=>rw[n]at a;exact a
 |some e'=>
  rw[n]at a;simp only[]at a ⊢;rcases a with⟨z,a|⟨es',rows,s,t⟩⟩
  ·cases a
  ·exact .inr ⟨⟨es',rows,s,t⟩,fun b hb=>⟨_,rfl,e,es,mask,l,g,none,f,⟨(List.getElem?_eq_some_iff.1 q).1,by rw[n];rfl,by simp⟩,by rw[<-z];exact hb⟩⟩

theorem TabC.app{mask:List (Option TypeId)}{es:Nat}{l l':List D}{us g:List Value}{src f:Nat->Nat->Option Sc}(h:TabC κ σ F w mask es l us none src)(m:TabC κ σ F w mask es l' g none f):
  TabC κ σ F w mask es (l++l') (us++g) none fun k j=>if k<l.length then src k j else f (k-l.length) j:=by
 refine⟨by rw[List.length_append,List.length_append,h.len,m.len,Nat.add_mul],fun k d b=>?_,fun k d j c b hd=>?_⟩
 ·by_cases a:k<l.length
  ·rw[List.getElem?_append_left a]at b;exact h.cells k d b
  ·rw[List.getElem?_append_right (Nat.le_of_not_lt a)]at b;exact m.cells _ d b
 ·by_cases a:k<l.length
  ·rw[List.getElem?_append_left a]at b;obtain⟨x,i,n,h3⟩:=h.cell k d j c b hd;refine⟨x,by rw[List.getElem?_append_left (List.getElem?_eq_some_iff.1 i).1];exact i,n,?_⟩;rw[if_pos a];exact h3
  ·rw[List.getElem?_append_right (Nat.le_of_not_lt a)]at b;obtain⟨x,i,n,h3⟩:=m.cell _ d j c b hd;refine⟨x,?_,n,?_⟩
   ·have e:k*es+j=us.length+((k-l.length)*es+j):=by
     rw[h.len];have:k=l.length+(k-l.length):=by omega
     rw[this,Nat.add_mul];simp only[Nat.add_sub_cancel_left];omega
    rw[e,List.getElem?_append_right (by omega),Nat.add_sub_cancel_left];exact i
   ·rw[if_neg a];cases o:jao mask j with
    |none=>rw[o]at h3;exact h3
    |some e'=>
     rw[o]at h3;simp only[]at h3 ⊢;rcases h3 with h3|h3
     ·cases h3
     ·exact .inr h3

theorem jrp(h:ORel cx κ F w U σ)(M:¬U nm){rm:List Nat}{v H:Value}{w':World}(t:w.grownBy w' (blk v))(L:∀b,blk v=some b->∃o∈rm,jd6 κ σ (.obj o) b)(f:blk H=blk v \/blk H=some w.heap.size)
  {e:TypeId} {es:Nat} {mask:List (Option TypeId)} {l:List D} {us:List Value} {src:Nat->Nat->Option Sc} (C:0<es) (u:mask.length<=es) (B:Own w' e es H l.length us) (hC:TabC κ σ F w mask es l us none src)
  (E:∀k j s,jbv mask l.length none k j->src k j=some s->s.o∈rm) (z:∀k j o b,jbv mask l.length none k j->src k j=some (.obj o)->blk v=some b->¬jd6 κ σ (.obj o) b)
  (inj:∀k j k' j' s,jbv mask l.length none k j->jbv mask l.length none k' j'->src k j=some s->src k' j'=some s->(k,j)=(k',j')):
  Aft cx κ F w U (kapN κ nm ⟨H,fun k j=>us.getD (k*es+j) undef⟩) F w' (Un U nm) (upd (rmvs σ rm) nm (some (.tab e es mask l nm none))):=by
 have p:∀b,blk v=some b->∃o∈rm,∃x,σ o=some x/\ Blk κ o x b:=fun b hb=>by
  obtain⟨o,d,hs⟩:=L b hb;obtain⟨x,q,a⟩:=hs.blk;exact⟨o,d,x,q,a⟩
 have m:∀b,b<w.heap.size->blk v≠some b->w'.heap[b]? =w.heap[b]?:=fun b hb n=>t.block b hb fun e=>n e.symm;have K:∀b,F b->blk v≠some b:=fun b hF hb=>by
  obtain⟨o,_,x,q,a⟩:=p b hb;exact(h.free o x q b a).1 hF
 refine jkq h M rm nm (.inl rfl) t.os t.tape t.output t.size (fun b hb A=>m b hb fun e=>?_) (x:=.tab e es mask l nm none) (fun b hb=>?_) ?_ jbl ?_
 ·obtain⟨o,d,x,q,a⟩:=p b e;exact A o d x q a
 ·rcases hb with hb|⟨k,j,g,hb⟩
  ·simp only[kapN,if_true]at hb;rcases f with h1|h1
   ·exact .inl (p b (by rw[<-h1];exact hb))
   ·rw[h1]at hb;simp at hb;exact .inr (by omega)
  ·simp only[kapN,if_true]at hb;obtain⟨s,I,J⟩:=hC.src_blk u g hb;obtain⟨x,q,a⟩:=J.blk;exact .inl ⟨s.o,E k j s g I,x,q,a⟩
 ·show TabOK F w' e es mask l (kapN κ nm _ nm).v (kapN κ nm _ nm).r none;simp only[kapN,if_true];have n:∀k j s b,jbv mask l.length none k j->src k j=some s->jd6 κ σ s b->blk v≠some b:=fun k j s b g hs hb i=>by
   obtain⟨o,d,c⟩:=L b i;have:=jgt h hb c;subst this;exact z k j o b g hs i c
  refine hC.tab h C u (fun b hb=>m b (h.fG b hb).2 (K b hb)) (fun k j s b g hs hb=>m b (jr1 h hb) (n k j s b g hs hb)) B inj (fun b hb=>?_);rcases f with h1|h1
  ·rw[h1]at hb;obtain⟨o,d,c⟩:=L b hb;exact .inr ⟨o,c,fun k j g hs=>z k j o b g hs hb c⟩
  ·rw[h1]at hb;simp at hb;exact .inl (by omega)
 ·intro o y G;by_cases d:o=nm
  ·subst d;rw[jax]at G;exact .inl ⟨rfl,(Option.some.inj G).symm⟩
  ·rw[jbz d]at G;obtain⟨I,J⟩:=jfl G;exact .inr ⟨d,J,I⟩

theorem TabC.ones{mask:List (Option TypeId)}{es:Nat}{l:List D}{us:List Value}{src:Nat->Nat->Option Sc}(h:TabC κ σ F w mask es l us none src)(c:0<es):∀u∈us,one u=true:=by
 intro u m;obtain⟨i,hi⟩:=List.getElem?_of_mem m;have a:=(List.getElem?_eq_some_iff.1 hi).1;rw[h.len]at a;have k:i/es<l.length:=Nat.div_lt_of_lt_mul (by rw[Nat.mul_comm];exact a);have b:=jaz (d:=D.sc undef) k;have j:i%es<es:=Nat.mod_lt _ c;have e:=h.cells _ _ b;obtain⟨x,f,g,_⟩:=h.cell _ _ (i%es) _ b (jaz (d:=D.sc undef) (by rw[e];exact j));rw[Nat.mul_comm,Nat.div_add_mod,hi]at f;cases f;exact g

theorem jg7(am:∀t x,ty t=some x->TyOK P t x)(h:ORel cx κ F w U σ)(hf:¬U nm){o:Oper}{ρ:Operand->Value}{e:Operand->AV}(he:∀x,RV κ F w (e x) (ρ x)){x y:Operand}{t:TypeId}
  (ho:o.op=.call {callee:=.builtin .append,args:= #[x,y],argTypes:= #[t,t]}) {el:TypeId} {E:TyE} {W:Nat} (ai:jbs ty t=some (el,E)) (p:0<E.size) (ac:E.zero.cells.size=E.size) (aj:e y=.own W):
  ja4 P cx κ F w U nm σ o ρ (jce σ nm el E (e x) W):=by
 have ae:∀v w',(Builtin.append_ #[t,t] o.type #[ρ x,ρ y]).run P w=.ok v w'->(execOp ρ o).run P w=.ok (.value v) w':=by
  intro v w' hv;unfold execOp;simp only[ho,resolve,invoke,builtin,Sem.run_bind,Sem.run_pure,Result.andThen_ok,List.map_toArray,List.map_cons,List.map_nil,hv]
 obtain⟨hu,ar⟩:=jbf am ai;obtain⟨_,i,i1,J,i3,i4,_⟩:=ar;have hy:=he y;rw[aj]at hy;unfold RV at hy;unfold jce;split
 ·rename_i e2 az aq l2 H ab;split
  ·rename_i hc;obtain⟨rfl,rfl⟩:=hc;obtain⟨M,q,_,O,B⟩:=jo8 h ab;have G:∀u∈M,u.oneCell'=true:=fun u hu=>by rw[jnd];exact B.ones p u hu
   obtain⟨a2,m2,c2,K⟩:∃a m c,(κ W).v=.slice a m c:=by
    obtain⟨a,c,A⟩:=Own.slice q;exact⟨a,_,c,A⟩
   have ak:m2=l2.length/\ (a2=none->m2=0/\ c2=0)/\ ∀ad,a2=some ad->∀j u,M[j]? =some u->w.cell? (ad.add j)=some u:=by
    rcases q.2 with⟨l,X⟩|⟨g,f,aw,ax,l,_⟩
    ·rw[K]at l;simp only[Value.slice.injEq]at l;exact⟨by rw[l.2.1,X],fun _=>⟨l.2.1,l.2.2⟩,fun ad C=>(by rw[l.1]at C;cases C)⟩
    ·have Y:=l;rw[K]at l;simp only[Value.slice.injEq]at l;refine⟨l.2.1,fun ha=>(by rw[l.1]at ha;cases ha),fun ad C j u hj=>?_⟩;rw[l.1]at C;cases C;rw[Addr.add_lit];exact q.cells Y j u hj
   obtain⟨rfl,N,r⟩:=ak;split
   ·rename_i R;have T:=he x;rw[R]at T;unfold RV RD at T;intro z;obtain⟨p1,p2⟩:=(show _/\ _ from z);obtain⟨v',w',l,H,X,g4⟩:=jcg (P:=P) (w:=w) t o.type e2 i E.zero hu i1 i4 (by rw[ac,J]) (by rw[J];exact p) (.slice none 0 0) 0 [] (by rw[J];exact Own.nil w e2 E.size)
     a2 l2.length c2 N M (by rw[J];exact B.len) r G (by unfold maxLen;omega) (by rw[i3,Nat.zero_add];omega)
    rw[J]at H;simp only[Nat.zero_add,List.nil_append]at H;refine jam (ae _ _ (by rw[T.1,hy.1,K];exact l)) ?_;refine⟨.own nm,_,_,F,⟨rfl,rfl⟩,jrp h hf (rm:=[W]) (v:=.slice none 0 0) X (by simp[blk]) g4 p O H B ?_ ?_ ?_,?_,jb3 _ jbl⟩
    ·rintro k j s _ hs;cases hs;simp[Sc.o]
    ·rintro k j o' b _ hs;cases hs
    ·rintro k j k' j' s _ _ hs S;cases hs;cases S;rfl
    ·unfold RV;obtain⟨a,c,e'⟩:=Own.slice H;exact⟨by simp[kapN],by rw[e'];rfl⟩
   ·rename_i V R;have T:=he x;rw[R]at T;unfold RV at T;split
    ·rename_i e1 ay ap L Y Q;split
     ·rename_i ah;obtain⟨rfl,rfl,rfl,aa⟩:=ah;obtain⟨au,D,_,_,af⟩:=jo8 h Q;intro z;obtain⟨p1,p2⟩:=(show _/\ _ from z);obtain⟨v',w',l,H,X,g4⟩:=jcg (P:=P) (w:=w) t o.type e1 i E.zero hu i1 i4 (by rw[ac,J]) (by rw[J];exact p) (κ V).v L.length au (by rw[J];exact D)
       a2 l2.length c2 N M (by rw[J];exact B.len) r G (by unfold maxLen;omega) (by rw[i3];omega)
      rw[J]at H;have Z:(L++l2).length=L.length+l2.length:=List.length_append;rw[<-Z]at H;have ao:∃a n c,(κ V).v=.slice a n c:=by
       obtain⟨a,c,A⟩:=Own.slice D;exact⟨a,_,c,A⟩
      rw[jbu _ ao]at X;refine jam (ae _ _ (by rw[T.1,hy.1,K];exact l)) ?_;have d:∀(k j:Nat)(s:Sc),(if k<L.length then some (Sc.row V k j)else some (Sc.row W (k-L.length) j))=some s->(k<L.length/\ s=.row V k j) \/(¬k<L.length/\ s=.row W (k-L.length) j):=fun k j s hs=>by
       by_cases hk:k<L.length
       ·rw[if_pos hk]at hs;exact .inl ⟨hk,(Option.some.inj hs).symm⟩
       ·rw[if_neg hk]at hs;exact .inr ⟨hk,(Option.some.inj hs).symm⟩
      refine⟨.own nm,_,_,F,⟨rfl,rfl⟩,jrp h hf (rm:=[V,W]) (v:=(κ V).v) X (fun b hb=>⟨V,by simp,_,Q,hb⟩) g4 p O H (af.app B) ?_ ?_ ?_,?_,jb3 _ jbl⟩
      ·intro k j s _ hs;rcases d k j s hs with⟨_,rfl⟩|⟨_,rfl⟩<;>simp[Sc.o]
      ·intro k j o' b _ hs;rcases d k j _ hs with⟨_,A⟩|⟨_,A⟩<;>cases A
      ·intro k j k' j' s _ _ hs S;rcases d k j _ hs with⟨k1,A⟩|⟨k1,A⟩<;>rcases d k' j' _ S with⟨k2,I⟩|⟨k2,I⟩
       ·rw[A]at I;cases I;rfl
       ·rw[A]at I;cases I;exact absurd rfl aa
       ·rw[A]at I;cases I;exact absurd rfl aa
       ·rw[A]at I;simp only[Sc.row.injEq,true_and]at I;rw[I.2,show k=k' from by omega]
      ·unfold RV;obtain⟨a,c,e'⟩:=Own.slice H;exact⟨by simp[kapN],by rw[e'];rfl⟩
     ·intro z;exact z.elim
    ·intro z;exact z.elim
   ·intro z;exact z.elim
  ·intro z;exact z.elim
 ·intro z;exact z.elim

end
end Go.Ab
