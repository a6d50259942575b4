/- My own layer, eighth part: appends, literals, cuts. -/
import Derived.Test.YtimecodbnhcnoaaGreatAbSound4
namespace Go.Ab
set_option linter.unusedVariables false
set_option linter.unusedSimpArgs false
section
variable{P:Program}{cx:Cx}{κ:Kap}{F:Nat->Prop}{w:World}{U:Nat->Prop}{nm:Nat}{σ:Objs}{ty:TypeId->Option TyE}{Γ:Nat->Option FnSpec}

theorem RE.drop{es:Nat}:∀(n:Nat){l:List D}{us:List Value},RE F w es l us->RE F w es (l.drop n) (us.drop (n*es))
 |0,l,us,h=>by simpa using h
 |n+1,[],us,h=>by unfold RE at h;subst h;simp only[List.drop_nil];unfold RE;rfl
 |n+1,d::ds,us,h=>by
  obtain⟨u,c,rfl,a,f,b⟩:=h.cons;have e:(n+1)*es=u.length+n*es:=by rw[Nat.add_mul,a];omega
  rw[List.drop_succ_cons,e,List.drop_length_add_append];exact RE.drop n b
theorem RE.take{es:Nat}:∀(n:Nat){l:List D}{us:List Value},RE F w es l us->RE F w es (l.take n) (us.take (n*es))
 |0,l,us,h=>by simp only[List.take_zero,Nat.zero_mul];unfold RE;rfl
 |n+1,[],us,h=>by unfold RE at h;subst h;simp only[List.take_nil];unfold RE;rfl
 |n+1,d::ds,us,h=>by
  obtain⟨u,f,rfl,a,b,c⟩:=h.cons;have e:(n+1)*es=u.length+n*es:=by rw[Nat.add_mul,a];omega
  rw[List.take_succ_cons,e,List.take_length_add_append];exact RE.mk a b (RE.take n c)

theorem jbu(v:Value):(∃a n c,v=.slice a n c)->v.ownBlock=blk v:=by
 rintro⟨a,n,c,rfl⟩;cases a<;>rfl

theorem jcg(t k e:TypeId)(i:TypeInfo)(z:Value)(G:P.underlying t=some (.slice e))(hi:P.info? e=some i)(H:i.zero=some z)
  (q:z.cells.size=i.size) (p:0<i.size)
  (v:Value) (n:Nat) (xs:List Value) (f:Own w e i.size v n xs)
  (a:Option Addr) (m c:Nat) (o:a=none->m=0/\ c=0) (b:List Value) (E:b.length=m*i.size) (g:∀r,a=some r->∀j u,b[j]? =some u->w.cell? (r.add j)=some u) (D:∀u∈b,u.oneCell'=true)
  (l:n+m<=maxLen) (d:(n+m)*i.bytes<=140737488355328):
  ∃h w',(Builtin.append_ #[t,t] k #[v,.slice a m c]).run P w=.ok h w'/\ Own w' e i.size h (n+m) (xs++b)/\ w.grownBy w' v.ownBlock/\
   (blk h=blk v \/blk h=some w.heap.size):=by
 obtain⟨h,w',B,s,C,x⟩:=jin (P:=P) (w:=w) t k e i z G hi H q p v n xs f a m c o b E g D l d;obtain⟨I,K,y⟩:=s.slice;obtain⟨J,L,A⟩:=f.slice;rw[jbu h ⟨_,_,_,y⟩,jbu v ⟨_,_,_,A⟩]at x;exact⟨h,w',B,s,C,x⟩

def rmv(σ:Objs):Option Nat->Objs
 |some o=>upd σ o none
 |none=>σ

theorem jdx(h:ORel cx κ F w U σ)(hf:¬U nm){v A:Value}{w':World}{oo:Option Nat}(E:∀o,oo=some o->(∃x,σ o=some x)/\ (κ o).v=v)(H:oo=none->blk v=none)
  (s:w.grownBy w' v.ownBlock) (T:∃a n c,v=.slice a n c) (B:blk A=blk v \/blk A=some w.heap.size) {e:TypeId} {es:Nat} {l:List D} {us:List Value}
  (I:Own w' e es A l.length us) (S:RE F w es l us) (N:0<es):
  Aft cx κ F w U (fun n=>if n=nm then kv A else κ n) F w' (Un U nm) (upd (rmv σ oo) nm (some (.arr e es l))):=by
 have L:=jml (κ:=κ) hf (kv A);have p:=jbu v T;rw[p]at s;have i:∀b,blk v=some b->¬F b/\ ¬cx.K b/\ cx.G b:=by
  intro b hb;cases oo with
  |none=>rw[H rfl]at hb;cases hb
  |some o=>
   obtain⟨⟨x,V⟩,z⟩:=E o rfl;exact h.free o x V b (.inl (by rw[z];exact hb))
 have u:∀b,b<w.heap.size->blk v≠some b->w'.heap[b]? =w.heap[b]?:=fun b hb d=>s.block b hb fun e=>d e.symm;have q:∀b,F b->w'.heap[b]? =w.heap[b]?:=fun b hb=>u b (h.fG b hb).2 fun e=>(i b e).1 hb;have m:∀o y,upd (rmv σ oo) nm (some (.arr e es l)) o=some y->o≠nm->σ o=some y/\ oo≠some o:=by
  intro o y f d;rw[jbz d]at f;cases oo with
  |none=>exact⟨f,by simp⟩
  |some o'=>
   simp only[rmv]at f;by_cases M:o=o'
   ·subst M;rw[jax]at f;cases f
   ·rw[jbz M]at f;exact⟨f,by simp;exact fun e=>M e.symm⟩
 have C:∀o y,σ o=some y->oo≠some o->∀b,Blk κ o y b->blk v≠some b:=by
  intro o y f Q b hb p;cases oo with
  |none=>rw[H rfl]at p;cases p
  |some o'=>
   obtain⟨⟨x,V⟩,z⟩:=E o' rfl;exact h.apart o y o' x f V (fun e=>Q (by rw[e])) b hb (.inl (by rw[z];exact p))
 have g:∀o y,upd (rmv σ oo) nm (some (.arr e es l)) o=some y->∀b,Blk (fun n=>if n=nm then kv A else κ n) o y b->
   (o=nm/\ (blk v=some b \/b=w.heap.size)) \/(o≠nm/\ σ o=some y/\ Blk κ o y b/\ b<w.heap.size/\ blk v≠some b):=fun o y f b hb=>by
  by_cases d:o=nm
  ·subst d;rw[jax]at f;cases f;have hb:blk A=some b:=by
    rcases hb with hb|hb
    ·simpa using hb
    ·exact hb.elim
   refine .inl ⟨rfl,?_⟩;rcases B with hb'|hb'
   ·exact .inl (by rw[<-hb'];exact hb)
   ·rw[hb']at hb;simp at hb;exact .inr hb.symm
  ·obtain⟨k,h2⟩:=m o y f d;have t:=h.nb o y k;have hb:=hb.kap L t.1 t.2;exact .inr ⟨d,k,hb,jcx h k hb,C o y k h2 b hb⟩
 refine⟨L,fun _ hb=>hb,⟨s.os,s.tape,s.output,s.size,fun b hb=>?_⟩,fun _ R=>ja3 R,?_,?_,?_,?_,fun b hb=>⟨(h.fG b hb).1,Nat.lt_of_lt_of_le (h.fG b hb).2 s.size⟩,h.kB,h.gB,Nat.le_trans h.bs s.size,h.inv.mono (fun _ hb=>hb) q,fun j O=>⟨ja3 (h.lt j O).1,(congrArg KV.v (L j (h.lt j O).1)).trans (h.lt j O).2⟩⟩
 ·rcases hb with hb|hb
  ·exact q b hb
  ·exact u b (Nat.lt_of_lt_of_le (h.kB b hb) h.bs) fun e=>(i b e).2.1 hb
 ·intro o y f;by_cases d:o=nm
  ·subst d;rw[jax]at f;cases f;exact⟨us,by simpa using I,RE.mono (fun _ hb=>hb) q S,N⟩
  ·obtain⟨k,h2⟩:=m o y f d;have t:=h.nb o y k;exact jcb.mono L (fun _ hb=>hb) q t.1 t.2 (fun b hb=>u b (jcx h k hb) (C o y k h2 b hb)) (h.ok o y k)
 ·intro o y f;by_cases d:o=nm
  ·subst d;rw[jax]at f;cases f;exact⟨.inr ⟨Nat.le_refl _,by omega⟩,trivial⟩
  ·have t:=h.nb o y (m o y f d).1;exact⟨ja3 t.1,NBo.mono (fun _ R=>ja3 R) t.2⟩
 ·intro o y f b hb;rcases g o y f b hb with⟨_,hb'|rfl⟩|⟨_,r,hb',_⟩
  ·exact i b hb'
  ·exact⟨fun hF=>by have:=(h.fG _ hF).2;omega,fun hK=>by have:=h.kB _ hK;have:=h.bs;omega,h.gB _ h.bs⟩
  ·exact h.free o y r b hb'
 ·intro o y o' W f r d b hb hb';rcases g o y f b hb with⟨k,h2⟩|⟨k,g1,g2,g3,g4⟩
  ·rcases g o' W r b hb' with⟨J,h4⟩|⟨J,X,Y,k3,Z⟩
   ·exact d (k.trans J.symm)
   ·rcases h2 with h2|h2
    ·exact Z h2
    ·omega
  ·rcases g o' W r b hb' with⟨J,h4⟩|⟨J,X,Y,k3,Z⟩
   ·rcases h4 with h4|h4
    ·exact g4 h4
    ·omega
   ·exact h.apart o y o' W g1 X d b g2 Y

theorem jhb(h:ORel cx κ F w U σ){es:Nat}{x:AV}{l:List D}{rd:List Nat}(d:slOf σ es x=some (l,rd)){v:Value}(r:RV κ F w x v):
  ∃a c us,v=.slice a l.length c/\ (a=none->l.length=0/\ c=0)/\ us.length=l.length*es/\ RE F w es l us/\ ∀t,a=some t->∀j u,us[j]? =some u->w.cell? (t.add j)=some u:=by
 unfold slOf at d;split at d
 ·rename_i es' l';split at d
  ·rename_i q;simp only[Option.some.injEq,Prod.mk.injEq]at d;obtain⟨rfl,rfl⟩:=d;subst q;unfold RV RD at r;obtain⟨a,m,E,K,L,z,H⟩:=r;rcases H with rfl|⟨b,J,us,rfl,hF,s,n,p⟩
   ·refine⟨a,m,[],E,fun I=>⟨rfl,z I⟩,by simp,by unfold RE;rfl,by simp⟩
   ·exact⟨_,m,us,E,by simp,s,p,fun t k j u A=>by simp at k;subst k;rw[Addr.add_lit];exact n j u A⟩
  ·cases d
 ·simp only[Option.some.injEq,Prod.mk.injEq]at d;obtain⟨rfl,rfl⟩:=d;unfold RV RD at r;exact⟨none,0,[],r.1,fun _=>⟨rfl,rfl⟩,by simp,by unfold RE;rfl,by simp⟩
 ·rename_i o;split at d
  ·rename_i e es' l' B;split at d
   ·rename_i q;simp only[Option.some.injEq,Prod.mk.injEq]at d;obtain⟨rfl,rfl⟩:=d;subst q;obtain⟨us,i,p,_⟩:=h.ok o _ B;unfold RV at r;rcases i.2 with⟨y,C⟩|⟨g,f,m,G,y,_⟩
    ·refine⟨none,0,us,by rw[r.1,y,C],fun _=>⟨C,rfl⟩,i.1,p,by simp⟩
    ·exact⟨_,m,us,by rw[r.1,y],by simp,i.1,p,fun t k j u A=>by
      simp at k;subst k;rw[Addr.add_lit];exact i.cells y j u A⟩
   ·cases d
  ·cases d
 ·cases d

theorem jk2(ac:∀t x,ty t=some x->TyOK P t x)(h:ORel cx κ F w U σ)(hf:¬U nm){o:Oper}{ρ:Operand->Value}{e:Operand->AV}(he:∀x,RV κ F w (e x) (ρ x)){x y:Operand}{t S:TypeId}
  (ho:o.op=.call {callee:=.builtin .append,args:= #[x,y],argTypes:= #[t,S]})
  (O:∀el E V,jbs ty t=some (el,E)->t=S->0<E.size->E.zero.cells.size=E.size->e y=.own V->ja4 P cx κ F w U nm σ o ρ (jce σ nm el E (e x) V))
  (M:∀el E ob g k j C rd,jbs ty t=some (el,E)->t=S->0<E.size->E.zero.cells.size=E.size->e x=.row ob g k j->slOf σ E.size (e y)=some (C,rd)->ja4 P cx κ F w U nm σ o ρ (jb8 σ nm el E ob g k j C rd)):
  ja4 P cx κ F w U nm σ o ρ (jc7 ty σ nm t S (e x) (e y)):=by
 have R:∀v w',(Builtin.append_ #[t,S] o.type #[ρ x,ρ y]).run P w=.ok v w'->(execOp ρ o).run P w=.ok (.value v) w':=by
  intro v w' hv;unfold execOp;simp only[ho,resolve,invoke,builtin,Sem.run_bind,Sem.run_pure,Result.andThen_ok,List.map_toArray,List.map_cons,List.map_nil,hv]
 unfold jc7;split
 ·rename_i el E D;obtain⟨T,ad⟩:=jbf ac D;obtain⟨_,i,i1,r,i3,i4,_⟩:=ad;split
  ·rename_i hc;obtain⟨rfl,b,z⟩:=hc;split
   ·rename_i C rd N;obtain⟨a2,c2,H,Q,I,B,p,f⟩:=jhb h N (he y);have q:∀u∈H,u.oneCell'=true:=fun u T=>by rw[jnd];exact p.ones u T
    split
    ·rename_i m;have G:=he x;rw[m]at G;unfold RV RD at G;intro d;obtain⟨p1,p2⟩:=(show _/\ _ from d);obtain⟨v',w',W,s,X,Y⟩:=jcg (P:=P) (w:=w) t o.type el i E.zero T i1 i4 (by rw[z,r]) (by rw[r];exact b) (.slice none 0 0) 0 [] (by rw[r];exact Own.nil w el E.size)
      a2 C.length c2 I H (by rw[r];exact B) f q (by unfold maxLen;omega) (by rw[i3,Nat.zero_add];omega)
     rw[r]at s;simp only[Nat.zero_add,List.nil_append]at s;refine jam (R _ _ (by rw[G.1,Q];exact W)) ?_;refine⟨.own nm,_,(fun n=>if n=nm then kv v' else κ n),F,⟨rfl,rfl⟩,?_,?_,jb3 _ jbl⟩
     ·exact jdx h hf (v:=.slice none 0 0) (oo:=none) (by simp) (by simp[blk]) X ⟨_,_,_,rfl⟩ Y s p b
     ·unfold RV;obtain⟨a,c,e'⟩:=Own.slice s;exact⟨by simp,by rw[e'];rfl⟩
    ·rename_i ob m;have G:=he x;rw[m]at G;unfold RV at G;split
     ·rename_i e' es l L;split
      ·rename_i Z;obtain⟨rfl,rfl⟩:=Z;obtain⟨us,A,ab,_⟩:=h.ok ob _ L;intro d;obtain⟨p1,p2⟩:=(show _/\ _ from d);obtain⟨v',w',W,s,X,Y⟩:=jcg (P:=P) (w:=w) t o.type e' i E.zero T i1 i4 (by rw[z,r]) (by rw[r];exact b) (κ ob) l.length us (by rw[r];exact A)
        a2 C.length c2 I H (by rw[r];exact B) f q (by unfold maxLen;omega) (by rw[i3];omega)
       rw[r]at s;have J:(l++C).length=l.length+C.length:=List.length_append;rw[<-J]at s;refine jam (R _ _ (by rw[G.1,Q];exact W)) ?_;refine⟨.own nm,_,(fun n=>if n=nm then kv v' else κ n),F,⟨rfl,rfl⟩,?_,?_,jb3 _ jbl⟩
       ·obtain⟨a,c,e'⟩:=Own.slice A;exact jdx h hf (v:=κ ob) (oo:=some ob) (fun o' K=>by simp at K;subst K;exact⟨⟨_,L⟩,rfl⟩) (by simp) X ⟨_,_,_,e'⟩ Y s (RE.app ab p) b
       ·unfold RV;obtain⟨a,c,e'⟩:=Own.slice s;exact⟨by simp,by rw[e'];rfl⟩
      ·intro d;exact d.elim
     ·intro d;exact d.elim
    ·rename_i ob g k j m;exact M el E ob g k j C rd D rfl b z m N
    ·intro d;exact d.elim
   ·split
    ·rename_i V aa;exact O el E V D rfl b z aa
    ·intro d;exact d.elim
  ·intro d;exact d.elim
 ·intro d;exact d.elim

theorem jqu(cs:List Value):∀(b j:Nat)(c:Array Value),b+j+cs.length<=c.size->
  ((cs.zipIdx j).foldl (fun a (x:Value×Nat)=>a.setIfInBounds (b+x.2) x.1) c).toList=spl c.toList (b+j) cs:=by
 induction cs with
 |nil=>intro b j c _;simp[spl]
 |cons v cs g=>
  intro b j c h;simp only[List.length_cons]at h;simp only[List.zipIdx_cons,List.foldl_cons];rw[g b (j+1) _ (by simp;omega)];apply List.ext_getElem?;intro n;have hs:(c.setIfInBounds (b+j) v).toList.length=c.size:=by simp
  rw[jc9 (by rw[hs];omega),jc9 (by simp;omega)];simp only[Array.toList_setIfInBounds,List.length_cons];by_cases d:n<b+j
  ·rw[if_pos d,if_pos (by omega),List.getElem?_set_ne (by omega)]
  ·rw[if_neg d];by_cases f:n=b+j
   ·subst f;rw[if_pos (by omega),if_pos (by omega),List.getElem?_set_self (by simp;omega)];simp
   ·rw[if_neg (by omega)];by_cases e:n<b+j+(cs.length+1)
    ·rw[if_pos (by omega),if_pos e,show n-(b+j)=(n-(b+(j+1)))+1 from by omega,List.getElem?_cons_succ]
    ·rw[if_neg (by omega),if_neg e,List.getElem?_set_ne (by omega)]

theorem jh0(v:Value)(b:Nat)(c:Array Value)(h:b+v.cells.size<=c.size):
  (v.cells.zipIdx.foldl (fun a (x:Value×Nat)=>a.setIfInBounds (b+x.2) x.1) c)=(spl c.toList b v.cells.toList).toArray:=by
 have:=jqu v.cells.toList b 0 c (by simpa using h);apply Array.ext';rw[<-Array.foldl_toList,Array.toList_zipIdx];simpa using this

theorem jf5{b:Nat->Option (Nat×Nat)}{ρ:Operand->Value}{e:Operand->AV}(n:∀x,RV κ F w (e x) (ρ x))(o:∀x,NB U (e x)):
  ∀(a:List (Nat×Operand))(cells:List AV)(c:Array Value)(out:List AV),RVc κ F w cells c.toList->NBs U cells->jkg b cells (a.map fun p=>(p.1,e p.2))=some out->
   ∃k,Instr.fill b c (a.map fun p=>(p.1,ρ p.2))=some k/\ RVc κ F w out k.toList/\ NBs U out
 |[],cells,c,out,hc,d,h=>by
  simp only[List.map_nil,jkg,Option.some.injEq]at h;subst h;exact⟨c,rfl,hc,d⟩
 |(i,x)::j,cells,c,out,hc,d,h=>by
  simp only[List.map_cons,jkg]at h;split at h
  ·rename_i g size cs u l;split at h
   ·rename_i f;obtain⟨z,A⟩:=f;obtain⟨m,s⟩:=jdm l (n x) (o x);have v:(ρ x).cells.size=cs.length:=by rw[<-Array.length_toList];exact m.length
    have t:c.size=cells.length:=by rw[<-Array.length_toList];exact hc.length
    have y:=jf5 n o j (spl cells g cs) (spl c.toList g (ρ x).cells.toList).toArray out (by simpa using hc.spl m) (d.spl s) h;obtain⟨k,q,r⟩:=y;refine⟨k,?_,r⟩;simp only[List.map_cons,Instr.fill,u];rw[if_neg (by simp only[Bool.or_eq_true,decide_eq_true_eq,ne_eq];omega),jh0 _ _ _ (by omega)];exact q
   ·cases h
  ·cases h

theorem jl7(k:∀t x,ty t=some x->TyOK P t x)(h:ORel cx κ F w U σ){o:Oper}{ρ:Operand->Value}{e:Operand->AV}(M:∀x,RV κ F w (e x) (ρ x))(O:∀x,NB U (e x)){t:TypeId}{a:Array (Nat×Operand)}(G:o.op=.build t a):
  ja4 P cx κ F w U nm σ o ρ (spec ty Γ σ e nm o):=by
 have hs:spec ty Γ σ e nm o=jeh ty t (a.toList.map fun p=>(p.1,e p.2)):=by unfold spec;simp only[G]
 rw[hs];unfold jeh;split
 ·rename_i m size bytes z _ n;split
  ·rename_i hc;obtain⟨r,q⟩:=hc;split
   ·rename_i cells b;intro _;have d:=k _ _ n;have J:=d.1;have I:∀(l:List Field),(∀f∈l,(ty f.type).isSome=true)->(l.mapM fun(f:Field)=>(do pure (f.offset,<-sizeOf f.type):Sem (Nat×Nat))).run P w=.ok (l.map fun f=>(f.offset,((ty f.type).map (·.size)).getD 0)) w:=by
     intro l
     induction l with
     |nil=>intro _;simp
     |cons f l V=>
      intro N;have C:=N f (List.mem_cons_self ..);obtain⟨T,s⟩:=Option.isSome_iff_exists.1 C;have L:=V (fun g R=>N g (List.mem_cons_of_mem _ R));simp only[List.mapM_cons,Sem.run_bind,jar (k _ _ s),Result.andThen_ok,Sem.run_pure,L,List.map_cons,s,Option.map_some,Option.getD_some]
    have H:(m.mapM fun(f:Field)=>(do pure (f.offset,<-sizeOf f.type):Sem (Nat×Nat))).run P w=.ok (m.map fun f=>(f.offset,((ty f.type).map (·.size)).getD 0)) w:=by
     have Q:=I m.toList (fun f C=>Array.all_eq_true_iff_forall_mem.1 r f (Array.mem_toList_iff.1 C));rw[Array.mapM_eq_mapM_toList,map_eq_pure_bind];simp only[Sem.run_bind,Q,Result.andThen_ok,Sem.run_pure];congr 1;apply Array.ext';simp
    have j:(fun i=>(m.map fun f=>(f.offset,((ty f.type).map (·.size)).getD 0))[i]?)=jmd ty m:=by
     funext i;unfold jmd;rw[Array.getElem?_map];cases D:m[i]? with
     |none=>rfl
     |some f=>
      have S:f∈m:=Array.mem_of_getElem? D;obtain⟨T,s⟩:=Option.isSome_iff_exists.1 (Array.all_eq_true_iff_forall_mem.1 r f S);simp[s]
    obtain⟨u,y,A,B⟩:=jf5 M O a.toList _ z.cells cells (jm0 q) ji1 b;have K:(a.map fun(i,x)=>(i,ρ x)).toList=a.toList.map fun p=>(p.1,ρ p.2):=by simp
    refine jam (v:=.agg u) (w':=w) ?_ (jat h (by have:=jeo A;simpa using this) (jca B));unfold execOp;simp only[G];refine jbk _ ?_;simp only[Instr.build,Sem.run_bind,jdr d,Result.andThen_ok,run_underlying J,H,K,j,y,Sem.run_pure]
   ·intro c;exact c.elim
  ·intro c;exact c.elim
 ·rename_i len el size bytes z _ n;split
  ·rename_i E hE;split
   ·rename_i q;split
    ·rename_i cells b;intro _;have d:=k _ _ n;have J:=d.1;obtain⟨u,y,A,B⟩:=jf5 M O a.toList _ z.cells cells (jm0 q) ji1 b;have K:(a.map fun(i,x)=>(i,ρ x)).toList=a.toList.map fun p=>(p.1,ρ p.2):=by simp
     refine jam (v:=.agg u) (w':=w) ?_ (jat h (by have:=jeo A;simpa using this) (jca B));unfold execOp;simp only[G];refine jbk _ ?_;simp only[Instr.build,Sem.run_bind,jdr d,Result.andThen_ok,run_underlying J,jar (k _ _ hE),K,y,Sem.run_pure]
    ·intro c;exact c.elim
   ·intro c;exact c.elim
  ·intro c;exact c.elim
 ·intro c;exact c.elim

end
end Go.Ab
