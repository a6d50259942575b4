/- My own layer, ninth part: slice literals, make, cuts, small ones. -/
import Derived.Test.YtimecodbnhcnoaaGreatAbSound5
import Derived.Laws.BytesString
import Derived.Laws.IdiomStrings
namespace Go.Ab
set_option linter.unusedVariables false
set_option linter.unusedSimpArgs false
section
variable{P:Program}{cx:Cx}{κ:Kap}{F:Nat->Prop}{w:World}{U:Nat->Prop}{nm:Nat}{σ:Objs}{ty:TypeId->Option TyE}{Γ:Nat->Option FnSpec}

theorem jpy{agg:Bool}{ds:List D}{d:D}(h:mkD agg ds=some d){us:List Value}(a:RC F w ds us):RC F w d.cells us:=by
 unfold mkD at h;split at h
 ·simp only[Option.some.injEq]at h;subst h;exact a
 ·split at h
  ·simp only[Option.some.injEq]at h;subst h;unfold RC at a;obtain⟨u,f,rfl,c,e,b⟩:=a;unfold RC at b;subst b;exact jnb c e
  ·cases h

theorem jha{agg:Bool}{es:Nat}{ρ:Operand->Value}{e:Operand->AV}(t:∀x,RV κ F w (e x) (ρ x))(u:∀x,NB U (e x)):
  ∀(b:List (Nat×Operand))(k:Nat)(ds:List D)(c:Array Value),jeg agg es k (b.map fun p=>(p.1,e p.2))=some ds->c.size=(k+b.length)*es->
   ∃l us,Instr.fill (fun i=>some (i*es,es)) c (b.map fun p=>(p.1,ρ p.2))=some l/\ l.toList=c.toList.take (k*es)++us/\ RE F w es ds us
 |[],k,ds,c,h,hc=>by
  simp only[List.map_nil,jeg,Option.some.injEq]at h;subst h;refine⟨c,[],rfl,?_,by unfold RE;rfl⟩;rw[List.append_nil,List.take_of_length_le (by simp at hc ⊢;omega)]
 |(i,x)::a,k,ds,c,h,hc=>by
  simp only[List.map_cons,jeg]at h;split at h
  ·rename_i n;subst n;split at h
   ·rename_i cs m;split at h
    ·rename_i f;split at h
     ·rename_i v j;split at h
      ·rename_i d r hd B;simp only[Option.some.injEq]at h;subst h;obtain⟨q,H⟩:=jdm m (t x) (u x);rw[jfh j]at q f;rw[List.length_map]at f;have s:=jf2 q;have o:(ρ x).cells.size=es:=by rw[<-Array.length_toList,s.length];exact f
       simp only[List.length_cons]at hc;have C:(i+(a.length+1))*es=i*es+es+a.length*es:=by rw[Nat.add_mul,Nat.add_mul,Nat.one_mul];omega
       have E:(i+1+a.length)*es=i*es+es+a.length*es:=by rw[Nat.add_mul,Nat.add_mul,Nat.one_mul]
       have g:i*es+(ρ x).cells.size<=c.size:=by omega
       obtain⟨l,us,y,z,A⟩:=jha t u a (i+1) r (spl c.toList (i*es) (ρ x).cells.toList).toArray B (by
        simp only[List.size_toArray];rw[jbh (by simpa using g),Array.length_toList];omega)
       refine⟨l,(ρ x).cells.toList++us,?_,?_,RE.mk (by simpa using o) (jpy hd s) A⟩
       ·simp only[List.map_cons,Instr.fill];rw[if_neg (by simp only[Bool.or_eq_true,decide_eq_true_eq,ne_eq];omega),jh0 _ _ _ g];exact y
       ·rw[z,<-List.append_assoc];congr 1;have G:(i+1)*es=i*es+es:=by rw[Nat.add_mul,Nat.one_mul]
        unfold spl;have:(c.toList.take (i*es)++(ρ x).cells.toList).length=(i+1)*es:=by
         rw[List.length_append,List.length_take,Array.length_toList,Array.length_toList];omega
        rw[<-this,List.take_left]
      ·cases h
     ·cases h
    ·cases h
   ·cases h
  ·cases h

theorem jgn(A:∀t x,ty t=some x->TyOK P t x)(h:ORel cx κ F w U σ)(K:¬U nm){o:Oper}{ρ:Operand->Value}{e:Operand->AV}(J:∀x,RV κ F w (e x) (ρ x))(L:∀x,NB U (e x)){t:TypeId}{len:Nat}{a:Array (Nat×Operand)}(G:o.op=.buildSlice t len a)
  (q:∀el E ds ns,jbs ty t=some (el,E)->a.toList.length=len->len*E.size<=16777216->0<E.size->E.zero.cells.size=E.size->
   jbw ty σ nm (jcc σ (jby (a.toList.map fun p=>(p.1,e p.2)))) E.isAgg E.size 0 (a.toList.map fun p=>(p.1,e p.2))=some (ds,ns)->
   ja4 P cx κ F w U nm σ o ρ (.det ns.Nodup ns (.own nm) (jfu ns++[(nm,some (.tab el E.size (jcc σ (jby (a.toList.map fun p=>(p.1,e p.2)))) ds nm none))]))):
  ja4 P cx κ F w U nm σ o ρ (spec ty Γ σ e nm o):=by
 have hs:spec ty Γ σ e nm o=jbg ty σ nm t len (a.toList.map fun p=>(p.1,e p.2)):=by unfold spec;simp only[G]
 rw[hs];unfold jbg;split
 ·rename_i el E m;obtain⟨N,r⟩:=jbf A m;split
  ·rename_i hc;obtain⟨b,z,f,B⟩:=hc;split
   ·rename_i ds g;intro _;rw[List.length_map]at b;have y:∀(l:List (Nat×AV))(k:Nat)(ds:List D),jeg E.isAgg E.size k l=some ds->ds.length=l.length:=by
     intro l
     induction l with
     |nil=>intro k ds d;simp[jeg]at d;subst d;rfl
     |cons p l Q=>
      intro k ds d;obtain⟨i,x⟩:=p;unfold jeg at d;split at d<;>try cases d
      split at d<;>try cases d
      split at d<;>try cases d
      split at d<;>try cases d
      split at d<;>try cases d
      rename_i M;simp[Q _ _ M]
    have c:=y _ _ _ g;rw[List.length_map]at c;obtain⟨H,us,u,C,I⟩:=jha (F:=F) (w:=w) J L a.toList 0 ds ((Array.range (len*E.size)).map (fun i=>(if len*E.size=0 then #[]else E.zero.cells)[i%(if len*E.size=0 then #[]else E.zero.cells).size]!)) g (by simp[<-b]);simp only[Nat.zero_mul,List.take_zero,List.nil_append]at C;have O:(a.map fun(i,x)=>(i,ρ x)).toList=a.toList.map fun p=>(p.1,ρ p.2):=by simp
    refine jam (v:=.slice (some ⟨w.heap.size,0,none⟩) ds.length ds.length) (w':=w.alloc (.cells H el)) ?_ (jp7 h K (by rw[C];exact I) f (by
     unfold maxLen;have:ds.length*1<=ds.length*E.size:=Nat.mul_le_mul_left _ f;have s:ds.length=len:=by rw[c];exact b
     rw[s]at this;omega))
    unfold execOp;simp only[G];refine jbk _ ?_;have n:¬(len*E.size>2^24):=by omega
    simp only[Instr.buildSlice,Sem.run_bind,run_underlying N,Result.andThen_ok,jar r,n,if_false,O];have s:ds.length=len:=by rw[c];exact b
    by_cases h0:len*E.size=0
    ·simp only[h0,if_true]at u;simp only[h0,if_true,Sem.run_bind,Sem.run_pure,Result.andThen_ok,u,jcq,s]
    ·simp only[h0,if_false]at u;simp only[h0,if_false,Sem.run_bind,jdr r,Sem.run_pure,Result.andThen_ok,u,jcq,s]
   ·split
    ·split
     ·rename_i ds ns g;exact q el E ds ns m (by rw[<-b,List.length_map]) z f B g
     ·intro j;exact j.elim
    ·intro j;exact j.elim
  ·intro j;exact j.elim
 ·intro j;exact j.elim

theorem jhq(z:Array Value)(n:Nat):(madeCells z ((n+1)*z.size)).toList=z.toList++(madeCells z (n*z.size)).toList:=by
 unfold madeCells;simp only[Array.toList_map,Array.toList_range];rw[show(n+1)*z.size=z.size+n*z.size from by rw[Nat.add_mul,Nat.one_mul,Nat.add_comm],List.range_add,List.map_append,List.map_map];congr 1
 ·apply List.ext_getElem
  ·simp
  ·intro i a b;simp only[List.length_map,List.length_range]at a;simp[Nat.mod_eq_of_lt a,a]
 ·apply List.map_congr_left;intro i _;simp[Nat.add_mod_left]

theorem jgj{z:Array Value}{d:D}(h:RC F w d.cells z.toList):∀n,RE F w z.size (List.replicate n d) (madeCells z (n*z.size)).toList
 |0=>by simp only[List.replicate_zero,Nat.zero_mul];unfold RE;simp[madeCells]
 |n+1=>by
  rw[jhq,List.replicate_succ];exact RE.mk (by simp) h (jgj h n)

theorem joh(v:∀t x,ty t=some x->TyOK P t x)(h:ORel cx κ F w U σ)(G:¬U nm){o:Oper}{ρ:Operand->Value}{e:Operand->AV}(A:∀x,RV κ F w (e x) (ρ x)){t:TypeId}{l c:Operand}(C:o.op=.makeSlice t l c)
  (s:∀(el:TypeId)(E:TyE)(k k':IntKind)(n m:Int)(d:D),jbs ty t=some (el,E)->jbj (e l)=some (k,n)->jbj (e c)=some (k',m)->0<E.size->E.zero.cells.size=E.size->E.zero.cells.toList.all one=true->
   mkD E.isAgg (nzC (shp ty 6 el) (E.zero.cells.toList.map .sc))=some d->
   ja4 P cx κ F w U nm σ o ρ (.det (0<=n/\ n=m/\ n<=140737488355328/\ n*E.bytes<=140737488355328) [] (.own nm) [(nm,some (.tab el E.size (jck (shT ty 6 el) E.zero.cells.toList d.cells) (List.replicate n.toNat d) nm none))])):
  ja4 P cx κ F w U nm σ o ρ (spec ty Γ σ e nm o):=by
 have hs:spec ty Γ σ e nm o=jgy ty nm t (e l) (e c):=by unfold spec;simp only[C]
 rw[hs];unfold jgy;split
 ·rename_i el E k n k' m q B hc;obtain⟨I,y⟩:=jbf v q;have R:=jbx B (A l);have Q:=jbx hc (A c);split
  ·rename_i g;obtain⟨f,u,b⟩:=g;split
   ·rename_i d hd;split
    case h_2=>exact s el E k k' n m d q B hc f u b hd
    intro j;obtain⟨N,O,S,T⟩:=(show _/\ _/\ _/\ _ from j);subst O;obtain⟨_,i,J,K,L,M,_⟩:=y;have H:=run_make (P:=P) w t el i E.zero I J M k k' n n N (Int.le_refl _) (by rw[L,Int.mul_comm];omega) (by omega);have r:=jgj (F:=F) (w:=w) (z:=E.zero.cells) (d:=d) (jpy hd (RC.nz _ _ _ (jgk b))) n.toNat;rw[u]at r;have a:(List.replicate n.toNat d).length=n.toNat:=List.length_replicate;have:=jp7 (cx:=cx) (κ:=κ) (σ:=σ) (nm:=nm) (e:=el) (eb:=el) h G r f (by rw[a];unfold maxLen;omega) (p:=(0<=n/\ n=n/\ n<=140737488355328/\ n*E.bytes<=140737488355328)) (rd:=[]);rw[a]at this;refine jam ?_ this;unfold execOp;simp only[C];refine jbk _ ?_;rw[R,Q,H,K]
   ·intro j;exact j.elim
  ·intro j;exact j.elim
 ·intro j;exact j.elim

theorem jep(d:Bool)(len b:Nat){low a:Option Value}{l h:Int}(f:(low=none/\ l=0) \/∃k,low=some (.int k l))(g:(a=none/\ h=len) \/∃k,a=some (.int k h)/\ h<=b)
  (h0:0<=l) (j:l<=h):(Instr.sliceBounds d len b low a none).run P w=.ok (l.toNat,h.toNat,b) w:=by
 have m:(h.toNat:Int)=h:=by omega
 have c:0<=l/\ l<=(h.toNat:Int):=by omega
 rcases g with⟨rfl,rfl⟩|⟨k,rfl,i⟩
 ·simp only[Int.toNat_natCast]at c ⊢;rcases f with⟨rfl,rfl⟩|⟨k,rfl⟩
  ·simp[Instr.sliceBounds]
  ·simp[Instr.sliceBounds,Instr.sliceBound,asIntOf,c]
 ·have e:0<=h/\ h<=(b:Int):=by omega
  rcases f with⟨rfl,rfl⟩|⟨k',rfl⟩
  ·simp[Instr.sliceBounds,Instr.sliceBound,asIntOf,e]
  ·simp only[Instr.sliceBounds,Instr.sliceBound,asIntOf,Option.isSome_none,Bool.false_eq_true,if_false,Sem.run_bind,Sem.run_pure,Result.andThen_ok,c,e,and_self,if_true]

theorem jj8{ρ:Operand->Value}{e:Operand->AV}(a:∀x,RV κ F w (e x) (ρ x)){lo:Option Operand}{l:Int}(h:jj9 (lo.map e)=some l):(lo.map ρ=none/\ l=0) \/∃k,lo.map ρ=some (.int k l):=by
 cases lo with
 |none=>simp only[Option.map_none,jj9,Option.some.injEq]at h;subst h;exact .inl ⟨rfl,rfl⟩
 |some x=>
  simp only[Option.map_some,jj9]at h;split at h
  ·rename_i k n b;simp only[Option.some.injEq]at h;subst h;exact .inr ⟨k,by simp[jbx b (a x)]⟩
  ·cases h

theorem jet{o:Oper}{ρ:Operand->Value}{t:TypeId}{x:Operand}{lo hi:Option Operand}(a:o.op=.slice t x lo hi none){d:TypeDesc}(c:P.underlying t=some d)(hd:∀n e,d≠.array n e){v:Value}
  (b:(Instr.slice t (ρ x) (lo.map ρ) (hi.map ρ) none).run P w=.ok v w):(execOp ρ o).run P w=.ok (.value v) w:=by
 unfold execOp;simp only[a];refine jbk _ ?_;simp only[Instr.sliceAt,Sem.run_bind,run_underlying c,Result.andThen_ok];cases d
 case array n e=>exact absurd rfl (hd n e)
 all_goals simpa using b

theorem jun{l:List D}{es:Nat}{a:Option Addr}{c:Nat}(r:l.length<=c)(s:c<=maxLen)(k:a=none->c=0)(m:l=[] \/∃b e us,a=some ⟨b,e,none⟩/\ F b/\ us.length=l.length*es/\
   (∀j u,us[j]? =some u->w.cell? ⟨b,e+j,none⟩=some u)/\ RE F w es l us)(lo hi:Nat)(o:lo<=hi)(i:hi<=l.length):
  RD F w (.sl es ((l.take hi).drop lo)) (.slice (if c=lo then a else a.map (·.add (lo*es))) (hi-lo) (c-lo)):=by
 unfold RD;have g:((l.take hi).drop lo).length=hi-lo:=by rw[List.length_drop,List.length_take];omega
 refine⟨_,_,by rw[g],by omega,by omega,?_,?_⟩
 ·intro p;by_cases hc:c=lo
  ·omega
  ·rw[if_neg hc]at p;have:a=none:=by cases a<;>simp_all
   have:=k this;omega
 ·by_cases n:hi=lo
  ·left;subst n;rw[List.drop_eq_nil_of_le (by rw[List.length_take];omega)]
  ·rcases m with rfl|⟨b,e,us,rfl,hF,q,d,h⟩
   ·simp at i;omega
   ·right;have hc:c≠lo:=by omega
    refine⟨b,e+lo*es,(us.take (hi*es)).drop (lo*es),by rw[if_neg hc];simp[Addr.add_lit],hF,?_,?_,(h.take hi).drop lo⟩
    ·exact((h.take hi).drop lo).length
    ·intro j u f;rw[List.getElem?_drop]at f;rw[Nat.add_assoc];refine d _ u ?_;rw[List.getElem?_take]at f;split at f
     ·exact f
     ·cases f

theorem jub(h:ORel cx κ F w U σ){o:Nat}{x:Obj'}(g:σ o=some x):Aft cx κ F w U κ (fun b=>F b \/Blk κ o x b) w (Un U nm) (upd σ o none):=by
 have c:∀n y,upd σ o none n=some y->n≠o/\ σ n=some y:=fun n y a=>by
  by_cases d:n=o
  ·subst d;rw[jax]at a;cases a
  ·rw[jbz d]at a;exact⟨d,a⟩
 refine⟨fun _ _=>rfl,fun b hb=>.inl hb,Wx.refl _ _,fun _ f=>ja3 f,fun n y a=>?_,fun n y a=>?_,fun n y a b hb=>?_,fun n y p q a i e=>h.apart n y p q (c n y a).2 (c p q i).2 e,fun b hb=>?_,h.kB,h.gB,h.bs,h.inv.mono (fun b hb=>.inl hb) (fun _ _=>rfl),fun j l=>⟨ja3 (h.lt j l).1,(h.lt j l).2⟩⟩
 ·obtain⟨_,a⟩:=c n y a;have m:=h.nb n y a;exact jcb.mono (U:=U) (fun _ _=>rfl) (fun b hb=>.inl hb) (fun _ _=>rfl) m.1 m.2 (fun _ _=>rfl) (h.ok n y a)
 ·obtain⟨_,a⟩:=c n y a;exact⟨ja3 (h.nb n y a).1,NBo.mono (fun _ f=>ja3 f) (h.nb n y a).2⟩
 ·obtain⟨d,a⟩:=c n y a;have k:=h.free n y a b hb;refine⟨fun hF=>?_,k.2⟩;rcases hF with hF|hF
  ·exact k.1 hF
  ·exact h.apart n y o x a g d b hb hF
 ·rcases hb with hb|hb
  ·exact h.fG b hb
  ·exact⟨(h.free o x g b hb).2.2,jcx h g hb⟩

theorem jpl:∀{cs:List AV}{ds:List D}{us:List Value},scs cs=some ds->RVc κ F w cs us->ds.length=us.length/\ RE F w 1 ds us:=by
 intro cs
 induction cs with
 |nil=>
  intro ds us h a;simp only[scs,Option.some.injEq]at h;subst h;unfold RVc at a;subst a;exact⟨rfl,by unfold RE;rfl⟩
 |cons c cs i=>
  intro ds us h a;unfold RVc at a;obtain⟨u,b,rfl,f,e,g⟩:=a;cases c with
  |dat d=>
   cases d with
   |sc v=>
    simp only[scs]at h;obtain⟨r,a,rfl⟩:=Option.map_eq_some_iff.1 h;obtain⟨j,k⟩:=i a g;unfold RV at e;refine⟨by simp[j],?_⟩;unfold RE;exact⟨[u],b,rfl,rfl,⟨u,rfl,f,e⟩,k⟩
   |_=>simp[scs]at h
  |_=>simp[scs]at h

theorem jk1(l:∀t x,ty t=some x->TyOK P t x)(h:ORel cx κ F w U σ){o:Oper}{ρ:Operand->Value}{t:TypeId}{x:Operand}(z:o.op=.slice t x none none none){n:Nat}{el:TypeId}(A:P.underlying t=some (.array n el))
  {av:AV} (p:RV κ F w av (ρ x)):ja4 P cx κ F w U nm σ o ρ (jlx ty σ n el av):=by
 unfold jlx;split
 ·rename_i ob;split
  ·rename_i q cs g;split
   ·rename_i E ds hE i;split
    ·rename_i hc;obtain⟨r,s,G⟩:=hc;intro _;unfold RV at p;obtain⟨b,m,B⟩:=p;obtain⟨D,arr,d,c,a⟩:=(show∃b arr,(κ ob).v=.pointer (some ⟨b,0,none⟩)/\ w.heap[b]? =some (.cells arr _ (0,0))/\ RVc κ F w cs arr.toList from h.ok ob _ g);rw[m]at d;simp only[Value.pointer.injEq,Option.some.injEq,Addr.mk.injEq,and_true]at d;subst d;obtain⟨H,C⟩:=jpl i a;have f:Blk κ ob (.box q cs) b:=.inl (by rw[m];rfl);refine jam (v:=.slice (some ⟨b,0,none⟩) n n) (w':=w) ?_ ⟨_,_,κ,_,⟨rfl,rfl⟩,jub h g,?_,by unfold NB;trivial⟩
     ·unfold execOp;simp only[z];refine jbk _ ?_;simp only[Instr.sliceAt,Instr.sureAddr,Instr.sliceBounds,B,Sem.run_bind,run_underlying A,Result.andThen_ok,jar (l _ _ hE),r];simp[Addr.add_lit]
     ·unfold RV RD;refine⟨some ⟨b,0,none⟩,n,by rw[s],by omega,?_,by simp,.inr ⟨b,0,arr.toList,rfl,.inr f,by omega,fun j u y=>?_,RE.mono (fun b hb=>.inl hb) (fun _ _=>rfl) C⟩⟩
      ·unfold maxLen;omega
      ·have k:arr[j]? =some u:=by rw[<-Array.getElem?_toList];exact y
       simp[World.cell?,c,k]
    ·intro e;exact e.elim
   ·intro e;exact e.elim
  ·intro e;exact e.elim
 ·intro e;exact e.elim

theorem jl4(y:∀t x,ty t=some x->TyOK P t x)(h:ORel cx κ F w U σ)(hf:¬U nm){o:Oper}{ρ:Operand->Value}{e:Operand->AV}(G:∀x,RV κ F w (e x) (ρ x)){t:TypeId}{x:Operand}{lo hi:Option Operand}(V:o.op=.slice t x lo hi none)
  (Z:∀el E ob g k j l u kk b,jbs ty t=some (el,E)->e x=.row ob g k j->hi=some u->jbj (e u)=some (kk,b)->jj9 (lo.map e)=some l->ja4 P cx κ F w U nm σ o ρ (jdl σ E ob g k j l b)):
  ja4 P cx κ F w U nm σ o ρ (spec ty Γ σ e nm o):=by
 have hs:spec ty Γ σ e nm o=jed ty σ nm t (e x) (lo.map e) (hi.map e):=by unfold spec;simp only[V]
 rw[hs];unfold jed;split
 ·rename_i size bytes z l D S;have J:=(y _ _ D).1;have r:=jj8 G S;split
  ·rename_i s ac;have vx:=ji2 ac (G x);have str:∀b:Int,((hi.map ρ=none/\ b=s.size) \/∃k,hi.map ρ=some (.int k b)/\ b<=s.size)->0<=l->l<=b->(execOp ρ o).run P w=.ok (.value (.string (s.extract l.toNat b.toNat))) w:=by
    intro b i h0 R;refine jet V J (by simp) ?_;rw[vx];simp only[Instr.slice,Sem.run_bind,run_underlying J,Result.andThen_ok,Option.isSome_none,Bool.false_eq_true,if_false,jep false s.size s.size r i h0 R,Sem.run_pure]
   cases hi with
   |none=>
    simp only[Option.map_none];refine jay h rfl fun c=>?_;simpa using str s.size (.inl ⟨rfl,rfl⟩) c.1 c.2
   |some u=>
    simp only[Option.map_some];split
    ·rename_i k b q;refine jay h rfl fun c=>?_;exact str b (.inr ⟨k,by simp[jbx q (G u)],c.2.2⟩) c.1 c.2.1
    ·intro c;exact c.elim
  ·intro c;exact c.elim
 ·rename_i n el size bytes z l D S;have J:=(y _ _ D).1;split
  ·rename_i aa i;have e1:lo=none:=by cases lo with
    |none=>rfl
    |some _=>simp at aa
   have e2:hi=none:=by cases hi with
    |none=>rfl
    |some _=>simp at i
   subst e1;subst e2;exact jk1 y h V J (G x)
  ·intro c;exact c.elim
 ·rename_i el size bytes z l D S;have J:=(y _ _ D).1;have r:=jj8 G S;split
  ·rename_i H E es xs A B;obtain⟨K,Q⟩:=jbf y A;have u:=G x;rw[B]at u;unfold RV RD at u;obtain⟨a,d,L,g1,g2,g3,g4⟩:=u;split
   ·rename_i I;have cut:∀b:Int,((hi.map ρ=none/\ b=xs.length) \/∃k,hi.map ρ=some (.int k b)/\ b<=d)->0<=l->l<=b->b<=xs.length->∀{p:Prop}{rd:List Nat},
      Out P o ρ w (SR cx κ F w U nm σ (.det p rd (.dat (.sl es ((xs.take b.toNat).drop l.toNat))) [])):=by
     intro b i h0 R h2 p rd;have:=jun g1 g2 g3 g4 l.toNat b.toNat (by omega) (by omega);refine jam (jet V J (by simp) ?_) (jat h (by unfold RV;exact this) (jez _));rw[L,I];simp only[Instr.slice,Sem.run_bind,run_underlying K,Result.andThen_ok,jep true xs.length d r i h0 R,jar Q,Sem.run_pure]
    cases hi with
    |none=>
     simp only[Option.map_none];intro c;obtain⟨N,O⟩:=(show _/\ _ from c);have:=cut xs.length (.inl ⟨rfl,rfl⟩) N O (by omega) (p:=(0<=l/\ l<=xs.length)) (rd:=[]);rw[List.take_of_length_le (by omega)]at this;exact this
    |some u=>
     simp only[Option.map_some];split
     ·rename_i k b q;intro c;obtain⟨N,O,p3⟩:=(show _/\ _/\ _ from c);exact cut b (.inr ⟨k,by simp[jbx q (G u)],by omega⟩) N O p3
     ·intro c;exact c.elim
   ·intro c;exact c.elim
  ·rename_i H E ob A B;obtain⟨K,Q⟩:=jbf y A;have u:=G x;rw[B]at u;unfold RV at u;split
   ·rename_i e' es xs X;split
    ·rename_i I;obtain⟨us,C,ab,Y⟩:=(show jb7 F w e' es (κ ob).v xs from h.ok ob _ X);obtain⟨a,d,L⟩:=C.slice;have ae:xs.length<=d:=by
      rcases C.2 with⟨q1,q2⟩|⟨g,f,ad,af,q1,q3,q4,_⟩
      ·rw[q2];exact Nat.zero_le _
      ·rw[L]at q1;simp only[Value.slice.injEq]at q1;rw[q1.2.2];exact q4
     have cut:∀b:Int,((hi.map ρ=none/\ b=xs.length) \/∃k,hi.map ρ=some (.int k b)/\ b<=d)->0<=l->l<=b->b<=xs.length->∀{p:Prop}{rd:List Nat},
       Out P o ρ w (SR cx κ F w U nm σ (.det p rd (.own nm) [(ob,none),(nm,some (.arr e' es ((xs.take b.toNat).drop l.toNat)))])):=by
      intro b i h0 R h2 p rd;obtain⟨k1,k2⟩:=C.cut L (l:=l.toNat) (m:=b.toNat) (by omega) (by omega);have T:((xs.take b.toNat).drop l.toNat).length=b.toNat-l.toNat:=by rw[List.length_drop,List.length_take];omega
      refine jam (v:=.slice (if d=l.toNat then a else a.map (·.add (l.toNat*es))) (b.toNat-l.toNat) (d-l.toNat)) (w':=w) (jet V J (by simp) ?_) ?_
      ·rw[u.1,L,I];simp only[Instr.slice,Sem.run_bind,run_underlying K,Result.andThen_ok,jep true xs.length d r i h0 R,jar Q,Sem.run_pure]
      ·refine⟨.own nm,_,(fun n=>if n=nm then kv (.slice (if d=l.toNat then a else a.map (·.add (l.toNat*es))) (b.toNat-l.toNat) (d-l.toNat))else κ n),F,⟨rfl,rfl⟩,?_,?_,jb3 _ jbl⟩
       ·refine jdx h hf (v:=κ ob) (oo:=some ob) (fun o' W=>by simp at W;subst W;exact⟨⟨_,X⟩,rfl⟩) (by simp) ⟨rfl,rfl,rfl,Nat.le_refl _,fun _ _ _=>rfl⟩ ⟨_,_,_,L⟩ ?_ (us:=(us.take (b.toNat*es)).drop (l.toNat*es)) ?_ ((ab.take b.toNat).drop l.toNat) Y
        ·left;rw[<-jbu _ ⟨_,_,_,rfl⟩,<-jbu _ ⟨_,_,_,L⟩];exact k2
        ·rw[T];exact k1
       ·unfold RV;exact⟨by simp,rfl⟩
     cases hi with
     |none=>
      simp only[Option.map_none];intro c;obtain⟨N,O⟩:=(show _/\ _ from c);have:=cut xs.length (.inl ⟨rfl,rfl⟩) N O (by omega) (p:=(0<=l/\ l<=xs.length)) (rd:=[ob]);rw[List.take_of_length_le (by omega)]at this;exact this
     |some M=>
      simp only[Option.map_some];split
      ·rename_i k b q;intro c;obtain⟨N,O,p3⟩:=(show _/\ _/\ _ from c);exact cut b (.inr ⟨k,by simp[jbx q (G M)],by omega⟩) N O p3
      ·intro c;exact c.elim
    ·intro c;exact c.elim
   ·intro c;exact c.elim
  ·rename_i H E ob g k j A B;cases hi with
   |none=>intro c;exact c.elim
   |some M=>
    simp only[Option.map_some];split
    ·rename_i kk b q;exact Z H E ob g k j l M kk b A B rfl q S
    ·intro c;exact c.elim
  ·intro c;exact c.elim
 ·intro c;exact c.elim

theorem jjw(h:ORel cx κ F w U σ){o:Oper}{ρ:Operand->Value}{e:Operand->AV}(n:∀x,RV κ F w (e x) (ρ x))(p:∀x,NB U (e x)){x:Operand}{i:Nat}(m:o.op=.extract x i):
  ja4 P cx κ F w U nm σ o ρ (spec ty Γ σ e nm o):=by
 unfold spec;simp only[m];have k:=n x;have b:=p x;split
 ·rename_i l g;rw[g]at k b;unfold RV at k;unfold NB at b;obtain⟨cs,q,c⟩:=k;split
  ·rename_i v hi;intro _;have:∀{l:List AV}{cs:List Value}(i:Nat)(v:AV),RVs κ F w l cs->l[i]? =some v->∃u,cs[i]? =some u/\ RV κ F w v u:=by
    intro l
    induction l with
    |nil=>intro cs i v _ hi;simp at hi
    |cons a l r=>
     intro cs i v c hi;unfold RVs at c;obtain⟨u,us,rfl,d,f⟩:=c;cases i with
     |zero=>simp at hi;subst hi;exact⟨u,by simp,d⟩
     |succ i=>simpa using r i v f (by simpa using hi)
   obtain⟨u,d,f⟩:=this i v c hi;refine jam (v:=u) (w':=w) ?_ (jat h f (NBs.at i v b hi));unfold execOp;simp only[m];refine jbk _ ?_;simp[Instr.extract,q,d]
  ·intro j;exact j.elim
 ·intro j;exact j.elim

theorem jrn{x:AV}{l:List AV}{v:Value}(b:aggC x=some l)(a:RV κ F w x v)(d:NB U x):∃cs:List Value,v=.agg cs.toArray/\ RVc κ F w l cs/\ NBs U l:=by
 unfold aggC at b;split at b
 ·cases b;unfold RV at a;unfold NB at d;obtain⟨cs,c,e⟩:=a;exact⟨cs,c,e,d⟩
 ·rename_i l0;cases b;have f:=jdm (x:=.dat (.agg l0)) rfl a d;unfold RV RD at a;obtain⟨cs,c,e⟩:=a;subst c;exact⟨cs,rfl,by simpa[Value.cells]using f.1,f.2⟩
 ·cases b
theorem jgh(l:List Value)(i n:Nat):l.toArray.extract i (i+n)=((l.drop i).take n).toArray:=by
 simp[List.take_drop]
theorem jkz(d:∀t x,ty t=some x->TyOK P t x)(h:ORel cx κ F w U σ){o:Oper}{ρ:Operand->Value}{e:Operand->AV}(C:∀x,RV κ F w (e x) (ρ x))(G:∀x,NB U (e x)){s:TypeId}{x:Operand}{f:Nat}(k:o.op=.field s x f):
  ja4 P cx κ F w U nm σ o ρ (spec ty Γ σ e nm o):=by
 have hs:spec ty Γ σ e nm o=jlv ty s (e x) f:=by unfold spec;simp only[k]
 rw[hs];unfold jlv;split
 ·rename_i size H bytes zero m;have r:=(d _ _ m).1;split
  ·rename_i g c;split
   ·rename_i T l B D;obtain⟨cs,n,p,q⟩:=jrn D (C x) (G x);have b:=d _ _ B;split
    ·rename_i i;split
     ·rename_i E;intro _;refine jam (v:=.agg ((cs.drop g.offset).take T.size).toArray) (w':=w) ?_ (jat h (jeo ((p.drop g.offset).take T.size)) (jca ((NBs.drop g.offset q).take T.size)));unfold execOp;simp only[k];refine jbk _ ?_;simp only[Instr.field,Sem.run_bind,run_underlying r,Result.andThen_ok,c,n,asAgg,Sem.run_pure,part,jbm b,i,if_true,jar b,jgh]
     ·intro a;exact a.elim
    ·rename_i i;split
     ·rename_i v y;intro _;obtain⟨u,z,I,A⟩:=RVc.at g.offset v p y;refine jam (v:=u) (w':=w) ?_ (jat h A (NBs.at _ v q y));unfold execOp;simp only[k];refine jbk _ ?_;have j:T.isAgg=false:=by simpa using i
      simp only[Instr.field,Sem.run_bind,run_underlying r,Result.andThen_ok,c,n,asAgg,Sem.run_pure,part,jbm b,j,Bool.false_eq_true,if_false,List.getElem?_toArray,z]
     ·intro a;exact a.elim
   ·intro a;exact a.elim
  ·intro a;exact a.elim
 ·intro a;exact a.elim

theorem jk0(c:∀t x,ty t=some x->TyOK P t x)(h:ORel cx κ F w U σ){o:Oper}{ρ:Operand->Value}{e:Operand->AV}(s:∀x,RV κ F w (e x) (ρ x))(I:∀x,NB U (e x)){t:TypeId}{x i:Operand}(y:o.op=.index t x i):
  ja4 P cx κ F w U nm σ o ρ (jnx ty t (e x) (e i)):=by
 unfold jnx;split
 ·rename_i len el size bytes zero _ k n g hi;have z:=(c _ _ g).1;have B:=jbx hi (s i);split
  ·rename_i E l hE G;obtain⟨cs,p,q,r⟩:=jrn G (s x) (I x);have b:=c _ _ hE;split
   ·rename_i d;split
    ·rename_i H;intro a;obtain⟨j,m⟩:=(show _/\ _ from a);have hc:0<=n/\ n<(len:Int):=⟨j,m⟩;refine jam (v:=.agg ((cs.drop (n.toNat*E.size)).take E.size).toArray) (w':=w) ?_ (jat h (jeo ((q.drop _).take E.size)) (jca ((NBs.drop _ r).take E.size)));unfold execOp;simp only[y];refine jbk _ ?_;simp only[Instr.index,B,asIntOf,Sem.run_bind,run_underlying z,Result.andThen_ok,p,Sem.run_pure,part,hc,and_self,jbm b,d,if_true,jar b,jgh]
    ·intro a;exact a.elim
   ·rename_i d;split
    ·rename_i v A;intro a;obtain⟨j,m⟩:=(show _/\ _ from a);have hc:0<=n/\ n<(len:Int):=⟨j,m⟩;obtain⟨u,C,J,D⟩:=RVc.at _ v q A;refine jam (v:=u) (w':=w) ?_ (jat h D (NBs.at _ v r A));unfold execOp;simp only[y];refine jbk _ ?_;have f:E.isAgg=false:=by simpa using d
     simp only[Instr.index,B,asIntOf,Sem.run_bind,run_underlying z,Result.andThen_ok,p,Sem.run_pure,part,hc,and_self,if_true,jbm b,f,Bool.false_eq_true,if_false,jar b,List.getElem?_toArray,C]
    ·intro a;exact a.elim
  ·intro a;exact a.elim
 ·intro a;exact a.elim
theorem jg8(a:∀t x,ty t=some x->TyOK P t x)(h:ORel cx κ F w U σ){o:Oper}{ρ:Operand->Value}{e:Operand->AV}(b:∀x,RV κ F w (e x) (ρ x))(g:∀x,NB U (e x)){t:TypeId}{x i:Operand}(c:o.op=.index t x i):
  ja4 P cx κ F w U nm σ o ρ (spec ty Γ σ e nm o):=by
 unfold spec;simp only[c];split
 ·rename_i size bytes z s k n f d hi;have l:=(a _ _ f).1;have q:=ji2 d (b x);have p:=jbx hi (b i);refine jay h rfl fun j=>?_;obtain⟨m,r⟩:=(show _/\ _ from j);unfold execOp;simp only[c];refine jbk _ ?_;have hlt:n.toNat<s.size:=by omega
  have hb:s[n.toNat]? =some (s.data.toList.getD n.toNat 0):=by
   rw[getElem?_pos s n.toNat hlt];congr 1;have:s.data.toList.getD n.toNat 0=s.data[n.toNat]'hlt:=by
    rw[List.getD_eq_getElem?_getD,List.getElem?_eq_getElem (by simpa using hlt)];simp
   rw[this];rfl
  simp only[Instr.index,q,p,asIntOf,Sem.run_bind,Sem.run_pure,Result.andThen_ok,run_underlying l,m,if_true,hb]
 ·exact jk0 a h b g c

theorem jpd(h:ORel cx κ F w U σ){o:Oper}{ρ:Operand->Value}{e:Operand->AV}(c:∀x,RV κ F w (e x) (ρ x)){t:TypeId}{x:Operand}(a:o.op=.unOp .not t x):
  ja4 P cx κ F w U nm σ o ρ (spec ty Γ σ e nm o):=by
 unfold spec;simp only[a];split
 ·rename_i b hb;have f:=jj0 hb (c x);refine ja5 h ?_;unfold execOp;simp only[a];refine jbk _ ?_;simp[f,Op.unary]
 ·intro d;exact d.elim

theorem jpe(h:ORel cx κ F w U σ){o:Oper}{ρ:Operand->Value}{e:Operand->AV}(b:∀x,RV κ F w (e x) (ρ x)){t:TypeId}{x:Operand}(a:o.op=.unOp .neg t x):
  ja4 P cx κ F w U nm σ o ρ (spec ty Γ σ e nm o):=by
 unfold spec;simp only[a];split
 ·rename_i k n hb;have d:=jbx hb (b x);refine jdz h ?_;unfold execOp;simp only[a];refine jbk _ ?_;simp[d,Op.unary,Op.intArith]
 ·intro c;exact c.elim

theorem jum{F:Nat->Prop}{w:World}:∀{l:List D}{us:List Value},(∀d∈l,∃b:UInt8,d=.sc (.int .u8 b.toNat))->RE F w 1 l us->us=l.map fun d=>Value.int .u8 (dU8 d).toNat
 |[],us,_,h=>by unfold RE at h;simpa using h
 |d::l,us,hd,h=>by
  obtain⟨u,i,rfl,j,hc,f⟩:=h.cons;obtain⟨b,rfl⟩:=hd d (List.mem_cons_self ..);have g:=jum (fun d c=>hd d (List.mem_cons_of_mem _ c)) f;unfold D.cells RC at hc;obtain⟨y,ys,rfl,_,e,a⟩:=hc;unfold RC at a;subst a;unfold RD at e;rw[e.1,g];simp[dU8]
theorem juk:∀(l:List UInt8),RE F w 1 (l.map fun b=>.sc (.int .u8 b.toNat)) (l.map fun b=>Value.int .u8 b.toNat)
 |[]=>by unfold RE;rfl
 |x::a=>by
  rw[List.map_cons,List.map_cons];unfold RE;refine⟨[Value.int .u8 x.toNat],a.map fun b=>Value.int .u8 b.toNat,rfl,rfl,?_,juk a⟩;show∃y,[Value.int .u8 x.toNat]=[y]/\ one y=true/\ RD F w (.sc (.int .u8 x.toNat)) y;refine⟨_,rfl,rfl,?_⟩;unfold RD;exact⟨rfl,rfl⟩
theorem joj(f:∀t x,ty t=some x->TyOK P t x)(h:ORel cx κ F w U σ)(C:¬U nm){o:Oper}{ρ:Operand->Value}{e:Operand->AV}(N:∀x,RV κ F w (e x) (ρ x)){s d:TypeId}{x:Operand}(u:o.op=.convert s d x):
  ja4 P cx κ F w U nm σ o ρ (jeu ty σ nm s d (e x)):=by
 unfold jeu;split
 ·rename_i el ss Z sz sq ds W Y X l rd hs hd J;split
  ·rename_i m;have y:=(f _ _ hs).1;have z:=(f _ _ hd).1;have A:=(f _ _ m).1;intro g;have g:∀d∈l,∃b:UInt8,d=.sc (.int .u8 b.toNat):=g;obtain⟨a,c,us,M,B,K,I,i⟩:=jhb h J (N x);have L:=jum g I;refine jam (v:=.string (jrb l)) (w':=w) ?_ (jat h (by unfold RV RD;exact⟨rfl,rfl⟩) (by unfold NB;trivial));unfold execOp;simp only[u];refine jbk _ ?_;rw[M,run_convert_bytes_string w s d el a l.length c y A z];cases a with
   |none=>
    have R:l=[]:=List.length_eq_zero_iff.1 (B rfl).1;subst R;simp only[Conv.bytesToString,Sem.run_pure];rfl
   |some q=>
    have G:(loadCells q l.length).run P w=.ok ((l.map fun d=>((dU8 d).toNat:Int)).map (Value.int .u8)).toArray w:=by
     have:=run_loadCells_list (P:=P) w q us (i q rfl);rw[K,Nat.mul_one]at this;rw[this,L,List.map_map];rfl
    rw[run_bytesToString w q l.length c _ G,List.foldl_map];have C:∀(l:List D)(s:ByteArray),l.foldl (fun r d=>r.push (UInt8.ofNat ((dU8 d).toNat:Int).toNat)) s=⟨s.data++(l.map dU8).toArray⟩:=by
     intro l
     induction l with
     |nil=>intro s;simp
     |cons d l V=>
      intro s;rw[List.foldl_cons,V];simp[ByteArray.push]
    rw[C];simp[jrb,ByteArray.empty,ByteArray.emptyWithCapacity]
    try rfl
  ·intro g;exact g.elim
 ·rename_i el _ _ _ _ hs hd;split
  ·rename_i str _ _ _ _ T m;have y:=(f _ _ hs).1;have z:=(f _ _ hd).1;have A:=(f _ _ m).1;intro g;have g:str.size<=4294967296:=g;have M:=ji2 T (N x);have E:=grownCap_ge w str.size 0 el;have H:=grownCap_le_maxLen w str.size 0 el (by unfold maxLen;omega);have S:(bytesRow str (grownCap w str.size 0 el)).size=grownCap w str.size 0 el:=by
    unfold bytesRow;simp only[Array.size_append,Array.size_map,Array.size_replicate];have:str.data.size=str.size:=rfl;omega
   have j:str.data.toList.length=str.size:=by rw[Array.length_toList];rfl
   have n:(str.data.toList.map fun b=>(D.sc (.int .u8 b.toNat))).length=str.size:=by rw[List.length_map];exact j
   have p:Own (w.drew.alloc (.cells (bytesRow str (grownCap w str.size 0 el)) el ((bytesRow str (grownCap w str.size 0 el)).size,(bytesRow str (grownCap w str.size 0 el)).size+1))) (el+4294967296) 1 (.slice (some ⟨w.heap.size,0,none⟩) str.size (grownCap w str.size 0 el)) str.size (str.data.toList.map fun b=>Value.int .u8 b.toNat):=by
    refine⟨by rw[List.length_map,Nat.mul_one];exact j,.inr ⟨w.heap.size,0,_,_,rfl,⟨_,_,heap_alloc_new w.drew _,.inr ⟨by omega,Nat.le_refl _⟩⟩,E,H,by omega,?_⟩⟩;unfold bytesRow;rw[List.drop_zero,Array.toList_append,Nat.mul_one,Array.toList_map];exact List.take_left' (by rw[List.length_map];exact j)
   have O:=jdx (cx:=cx) (κ:=κ) (σ:=σ) (nm:=nm) h C (v:=.slice none 0 0) (oo:=none) (by intro o u;cases u) (fun _=>rfl)
    (w':=w.drew.alloc (.cells (bytesRow str (grownCap w str.size 0 el)) el ((bytesRow str (grownCap w str.size 0 el)).size,(bytesRow str (grownCap w str.size 0 el)).size+1)))
    ⟨rfl,rfl,rfl,by simp,fun k Q _=>Go.RowKit.Below.heap_alloc w.drew _ k Q⟩ ⟨_,_,_,rfl⟩ (.inr rfl) (by rw[n];exact p) (juk str.data.toList) (by omega)
   refine jam (v:=.slice (some ⟨w.heap.size,0,none⟩) str.size (grownCap w str.size 0 el)) ?_ (jkv O (by unfold RV;exact⟨by simp,rfl⟩) (jb3 _ jbl));unfold execOp;simp only[u];refine jbk _ ?_;rw[M,run_bytes_of_string w s d el str y z A]
  ·intro g;exact g.elim
 ·intro g;exact g.elim

theorem jjx(a:∀t x,ty t=some x->TyOK P t x)(h:ORel cx κ F w U σ)(i:¬U nm){o:Oper}{ρ:Operand->Value}{e:Operand->AV}(c:∀x,RV κ F w (e x) (ρ x)){s d:TypeId}{x:Operand}(b:o.op=.convert s d x):
  ja4 P cx κ F w U nm σ o ρ (spec ty Γ σ e nm o):=by
 unfold spec;simp only[b];split
 ·rename_i hs hd j;have f:=(a _ _ hs).1;have g:=(a _ _ hd).1;have k:=jbx j (c x);refine jay h rfl fun _=>?_;unfold execOp;simp only[b];refine jbk _ ?_;simp only[convert,Sem.run_bind,run_underlying f,run_underlying g,Result.andThen_ok,k,Conv.intToInt,Sem.run_pure]
 ·exact joj a h i c b

theorem jil(h:ORel cx κ F w U σ){o:Oper}{ρ:Operand->Value}{e:Operand->AV}(y:∀x,RV κ F w (e x) (ρ x))(z:∀x,NB U (e x)){x:Operand}(u:o.op=.nilCheck x):
  ja4 P cx κ F w U nm σ o ρ (spec ty Γ σ e nm o):=by
 unfold spec;simp only[u];have q:=y x;have m:=z x;have r:∀a,ρ x=.pointer (some a)->(execOp ρ o).run P w=.ok (.value (ρ x)) w:=by
  intro a v;unfold execOp;simp[u,v]
 split
 ·rename_i ob i p;rw[p]at q m;intro _;have d:=q;unfold RV at d;obtain⟨b,_,s⟩:=d;exact jam (r _ s) (jat h q m)
 ·rename_i ob es k j p;rw[p]at q m;intro _;have d:=q;unfold RV at d;obtain⟨b,f,n,t,_,s⟩:=d;exact jam (r _ s) (jat h q m)
 ·rename_i ob g k j es i c p;rw[p]at q m;intro _;have d:=q;unfold RV at d;obtain⟨b,f,n,t,_,s⟩:=d;exact jam (r _ s) (jat h q m)
 ·rename_i l p;rw[p]at q m;intro _;have d:=q;unfold RV at d;obtain⟨b,B,us,s,_⟩:=d;exact jam (r _ s) (jat h q m)
 ·intro A;exact A.elim

theorem jpg(h:ORel cx κ F w U σ){o:Oper}{ρ:Operand->Value}{e:Operand->AV}(c:∀x,RV κ F w (e x) (ρ x)){x y:Operand}{i:Array TypeId}(d:o.op=.call {callee:=.builtin .max,args:= #[x,y],argTypes:=i}){k k':IntKind}{a b:Int}(f:jbj (e x)=some (k,a))(g:jbj (e y)=some (k',b)):
  ja4 P cx κ F w U nm σ o ρ (.det True [] (.dat (.sc (.int k (if b>a then b else a)))) []):=by
 have j:=jbx f (c x);have l:=jbx g (c y);refine jay h rfl fun _=>?_;unfold execOp;simp only[d,resolve,invoke,builtin,Sem.run_bind,Sem.run_pure,Result.andThen_ok,List.map_toArray,List.map_cons,List.map_nil,j,l,Builtin.max_,List.foldlM_cons,List.foldlM_nil,Builtin.max2]

theorem jog(h:ORel cx κ F w U σ){o:Oper}{ρ:Operand->Value}{e:Operand->AV}(d:∀x,RV κ F w (e x) (ρ x)){x y z:Operand}{m:Array TypeId}(f:o.op=.call {callee:=.builtin .max,args:= #[x,y,z],argTypes:=m}){k k' l:IntKind}{a b c:Int}(g:jbj (e x)=some (k,a))(i:jbj (e y)=some (k',b))(j:jbj (e z)=some (l,c)):
  ja4 P cx κ F w U nm σ o ρ (.det True [] (.dat (.sc (.int k (if c>(if b>a then b else a)then c else(if b>a then b else a))))) []):=by
 have n:=jbx g (d x);have p:=jbx i (d y);have q:=jbx j (d z);refine jay h rfl fun _=>?_;unfold execOp;simp only[f,resolve,invoke,builtin,Sem.run_bind,Sem.run_pure,Result.andThen_ok,List.map_toArray,List.map_cons,List.map_nil,n,p,q,Builtin.max_,List.foldlM_cons,List.foldlM_nil,Builtin.max2]

theorem jpf(h:ORel cx κ F w U σ){o:Oper}{ρ:Operand->Value}{e:Operand->AV}(c:∀x,RV κ F w (e x) (ρ x)){x y:Operand}{i:Array TypeId}(d:o.op=.call {callee:=.builtin .min,args:= #[x,y],argTypes:=i}){k k':IntKind}{a b:Int}(f:jbj (e x)=some (k,a))(g:jbj (e y)=some (k',b)):
  ja4 P cx κ F w U nm σ o ρ (.det True [] (.dat (.sc (.int k (if b<a then b else a)))) []):=by
 have j:=jbx f (c x);have l:=jbx g (c y);refine jay h rfl fun _=>?_;unfold execOp;simp only[d,resolve,invoke,builtin,Sem.run_bind,Sem.run_pure,Result.andThen_ok,List.map_toArray,List.map_cons,List.map_nil,j,l,Builtin.min_,List.foldlM_cons,List.foldlM_nil,Builtin.min2]

end
end Go.Ab
