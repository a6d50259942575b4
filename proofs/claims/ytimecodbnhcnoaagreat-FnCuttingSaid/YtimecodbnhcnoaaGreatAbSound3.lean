/- My own layer, sixth part: memory. -/
import Derived.Test.YtimecodbnhcnoaaGreatAbSound2
namespace Go.Ab
set_option linter.unusedVariables false
set_option linter.unusedSimpArgs false
section
variable{P:Program}{cx:Cx}{κ:Kap}{F:Nat->Prop}{w:World}{U:Nat->Prop}{nm:Nat}{σ:Objs}{ty:TypeId->Option TyE}{Γ:Nat->Option FnSpec}

theorem jnd(v:Value):v.oneCell'=one v:=by cases v<;>rfl

theorem RVc.length:∀{l:List AV}{us:List Value},RVc κ F w l us->us.length=l.length
 |[],us,h=>by unfold RVc at h;subst h;rfl
 |d::ds,us,h=>by
  unfold RVc at h;obtain⟨u,b,rfl,_,_,a⟩:=h;simp[RVc.length a]

theorem RVc.drop:∀(n:Nat){l:List AV}{us:List Value},RVc κ F w l us->RVc κ F w (l.drop n) (us.drop n)
 |0,l,us,h=>h
 |n+1,[],us,h=>by unfold RVc at h;subst h;simp only[List.drop_nil];unfold RVc;rfl
 |n+1,d::ds,us,h=>by
  unfold RVc at h;obtain⟨u,b,rfl,_,_,a⟩:=h;simpa using RVc.drop n a
theorem RVc.take:∀(n:Nat){l:List AV}{us:List Value},RVc κ F w l us->RVc κ F w (l.take n) (us.take n)
 |0,l,us,h=>by simp only[List.take_zero];unfold RVc;rfl
 |n+1,[],us,h=>by unfold RVc at h;subst h;simp only[List.take_nil];unfold RVc;rfl
 |n+1,d::ds,us,h=>by
  unfold RVc at h;obtain⟨u,e,rfl,a,b,c⟩:=h;simp only[List.take_succ_cons];unfold RVc;exact⟨u,_,rfl,a,b,RVc.take n c⟩
theorem RVc.app:∀{l l':List AV}{us a:List Value},RVc κ F w l us->RVc κ F w l' a->RVc κ F w (l++l') (us++a)
 |[],l',us,a,h,b=>by unfold RVc at h;subst h;exact b
 |d::ds,l',us,a,h,b=>by
  unfold RVc at h;obtain⟨u,g,rfl,c,e,f⟩:=h;simp only[List.cons_append];unfold RVc;exact⟨u,_,rfl,c,e,RVc.app f b⟩
theorem RVc.at:∀{l:List AV}{us:List Value}(i:Nat)(x:AV),RVc κ F w l us->l[i]? =some x->∃u,us[i]? =some u/\ one u=true/\ RV κ F w x u
 |[],_,i,x,_,hi=>by simp at hi
 |d::ds,us,0,x,h,hi=>by
  unfold RVc at h;obtain⟨u,a,rfl,b,c,e⟩:=h;simp at hi;subst hi;exact⟨u,by simp,b,c⟩
 |d::ds,us,i+1,x,h,hi=>by
  unfold RVc at h;obtain⟨u,a,rfl,b,c,e⟩:=h;simpa using RVc.at i x e (by simpa using hi)
theorem RVc.ones:∀{l:List AV}{us:List Value},RVc κ F w l us->∀u∈us,one u=true
 |[],us,h=>by unfold RVc at h;subst h;simp
 |d::ds,us,h=>by
  unfold RVc at h;obtain⟨u,c,rfl,a,e,b⟩:=h;intro v hv;rcases List.mem_cons.1 hv with rfl|hv
  ·exact a
  ·exact RVc.ones b v hv

theorem NBs.drop:∀(n:Nat){l:List AV},NBs U l->NBs U (l.drop n)
 |0,l,h=>h
 |n+1,[],h=>by simpa using h
 |n+1,d::ds,h=>by unfold NBs at h;simpa using NBs.drop n h.2
theorem NBs.take:∀(n:Nat){l:List AV},NBs U l->NBs U (l.take n)
 |0,l,h=>by simp only[List.take_zero];unfold NBs;trivial
 |n+1,[],h=>by simpa using h
 |n+1,d::ds,h=>by unfold NBs at h;simp only[List.take_succ_cons];unfold NBs;exact⟨h.1,NBs.take n h.2⟩
theorem NBs.app:∀{l l':List AV},NBs U l->NBs U l'->NBs U (l++l')
 |[],l',h,a=>a
 |d::ds,l',h,a=>by unfold NBs at h;simp only[List.cons_append];unfold NBs;exact⟨h.1,NBs.app h.2 a⟩
theorem NBs.at:∀{l:List AV}(i:Nat)(x:AV),NBs U l->l[i]? =some x->NB U x
 |[],i,x,_,hi=>by simp at hi
 |d::ds,0,x,h,hi=>by unfold NBs at h;simp at hi;subst hi;exact h.1
 |d::ds,i+1,x,h,hi=>by unfold NBs at h;exact NBs.at i x h.2 (by simpa using hi)

theorem RC.drop:∀(n:Nat){l:List D}{us:List Value},RC F w l us->RC F w (l.drop n) (us.drop n)
 |0,l,us,h=>h
 |n+1,[],us,h=>by unfold RC at h;subst h;simp only[List.drop_nil];unfold RC;rfl
 |n+1,d::ds,us,h=>by
  unfold RC at h;obtain⟨u,b,rfl,_,_,a⟩:=h;simpa using RC.drop n a
theorem RC.take:∀(n:Nat){l:List D}{us:List Value},RC F w l us->RC F w (l.take n) (us.take n)
 |0,l,us,h=>by simp only[List.take_zero];unfold RC;rfl
 |n+1,[],us,h=>by unfold RC at h;subst h;simp only[List.take_nil];unfold RC;rfl
 |n+1,d::ds,us,h=>by
  unfold RC at h;obtain⟨u,e,rfl,a,b,c⟩:=h;simp only[List.take_succ_cons];unfold RC;exact⟨u,_,rfl,a,b,RC.take n c⟩
theorem RC.app:∀{l l':List D}{us a:List Value},RC F w l us->RC F w l' a->RC F w (l++l') (us++a)
 |[],l',us,a,h,b=>by unfold RC at h;subst h;exact b
 |d::ds,l',us,a,h,b=>by
  unfold RC at h;obtain⟨u,g,rfl,c,e,f⟩:=h;simp only[List.cons_append];unfold RC;exact⟨u,_,rfl,c,e,RC.app f b⟩
theorem RC.at:∀{l:List D}{us:List Value}(i:Nat)(x:D),RC F w l us->l[i]? =some x->∃u,us[i]? =some u/\ one u=true/\ RD F w x u
 |[],_,i,x,_,hi=>by simp at hi
 |d::ds,us,0,x,h,hi=>by
  unfold RC at h;obtain⟨u,a,rfl,b,c,e⟩:=h;simp at hi;subst hi;exact⟨u,by simp,b,c⟩
 |d::ds,us,i+1,x,h,hi=>by
  unfold RC at h;obtain⟨u,a,rfl,b,c,e⟩:=h;simpa using RC.at i x e (by simpa using hi)
theorem RC.ones:∀{l:List D}{us:List Value},RC F w l us->∀u∈us,one u=true
 |[],us,h=>by unfold RC at h;subst h;simp
 |d::ds,us,h=>by
  unfold RC at h;obtain⟨u,c,rfl,a,e,b⟩:=h;intro v hv;rcases List.mem_cons.1 hv with rfl|hv
  ·exact a
  ·exact RC.ones b v hv
theorem RE.ones{es:Nat}:∀{l:List D}{us:List Value},RE F w es l us->∀u∈us,one u=true
 |[],us,h=>by unfold RE at h;subst h;simp
 |d::ds,us,h=>by
  obtain⟨u,c,rfl,e,a,b⟩:=h.cons;intro v hv;rcases List.mem_append.1 hv with hv|hv
  ·exact RC.ones a v hv
  ·exact RE.ones b v hv

theorem jb9{o:Oper}{ρ:Operand->Value}{t:TypeId}{x:Operand}(b:o.op=.load t x){a:Addr}(d:ρ x=.pointer (some a)){v:Value}(c:(loadVar t a).run P w=.ok v w):
  (execOp ρ o).run P w=.ok (.value v) w:=by
 unfold execOp;simp only[b];refine jbk _ ?_;simp only[Instr.loadAt,Instr.sureAddr,d,Sem.run_bind,Sem.run_pure,Result.andThen_ok,c]

theorem jbr{t:TypeId}{x:TyE}(h:TyOK P t x)(c:x.isAgg=true){b a:Nat}{us:List Value}(e:us.length=x.size)(hc:∀j u,us[j]? =some u->w.cell? ⟨b,a+j,none⟩=some u):
  (loadVar t ⟨b,a,none⟩).run P w=.ok (.agg us.toArray) w:=by
 have:=run_loadCells_list (P:=P) w ⟨b,a,none⟩ us (fun j v d=>by rw[Addr.add_lit];exact hc j v d);rw[e]at this;simp only[loadVar,Sem.run_bind,jbm h,c,Result.andThen_ok,if_true,jar h,this,Sem.run_pure]

theorem jbq{t:TypeId}{x:TyE}(h:TyOK P t x)(b:x.isAgg=false){a:Addr}{u:Value}(hc:w.cell? a=some u):
  (loadVar t a).run P w=.ok u w:=by
 simp only[loadVar,Sem.run_bind,jbm h,b,Result.andThen_ok,Bool.false_eq_true,if_false,run_load,hc]

theorem jpo{l:List AV}{us:List Value}(h:RVc κ F w l us):RV κ F w (.aggv l) (.agg us.toArray):=by unfold RV;exact⟨us,rfl,h⟩
theorem jm8{l:List D}{us:List Value}(h:RC F w l us):RV κ F w (.dat (.agg l)) (.agg us.toArray):=by unfold RV RD;exact⟨us,rfl,h⟩
theorem jo5:∀{l:List AV}{ds:List D}{us:List Value},toDs l=some ds->RVc κ F w l us->RC F w ds us
 |[],ds,us,h,a=>by simp only[toDs,Option.some.injEq]at h;subst h;unfold RVc at a;unfold RC;exact a
 |x::l,ds,us,h,a=>by
  unfold toDs at h;split at h
  ·rename_i d f b j;simp only[Option.some.injEq]at h;subst h;unfold RVc at a;obtain⟨u,c,rfl,g,e,i⟩:=a;unfold RC;refine⟨u,c,rfl,g,?_,jo5 j i⟩;cases x with
   |dat k=>simp only[AV.toD,Option.some.injEq]at b;subst b;unfold RV at e;exact e
   |_=>simp[AV.toD]at b
  ·cases h
theorem jeo{l:List AV}{us:List Value}(h:RVc κ F w l us):RV κ F w (jd3 l) (.agg us.toArray):=by
 unfold jd3;split
 ·rename_i ds hd;exact jm8 (jo5 hd h)
 ·exact jpo h
theorem jca{l:List AV}(h:NBs U l):NB U (jd3 l):=by
 unfold jd3;split
 ·unfold NB;trivial
 ·unfold NB;exact h
theorem jg2{b:Nat}{arr:Array Value}{a:TypeId}{fr:Nat×Nat}(h:w.heap[b]? =some (.cells arr a fr))(i:Nat):w.cell? ⟨b,i,none⟩=arr[i]?:=cell_of_row w b i arr a fr h

theorem jri{o:Nat}{e:TypeId}{es:Nat}{l:List D}(h:jcb κ F w o (.arr e es l)){b f n d:Nat}(i:(κ o).v=.slice (some ⟨b,f,none⟩) n d):
  ∃us,RE F w es l us/\ n=l.length/\ (∀j u,us[j]? =some u->w.cell? ⟨b,f+j,none⟩=some u):=by
 obtain⟨us,a,k,_⟩:=h;refine⟨us,k,?_,fun j u q=>?_⟩
 ·rcases a.2 with⟨c,_⟩|⟨g,r,m,p,c,_⟩
  ·rw[i]at c;simp at c
  ·rw[i]at c;simp at c;omega
 ·exact a.cells i j u q

theorem jaz{α:Type}{l:List α}{k:Nat}{d:α}(h:k<l.length):l[k]? =some (l.getD k d):=by
 rw[List.getElem?_eq_getElem h,List.getD_eq_getElem?_getD,List.getElem?_eq_getElem h];rfl

theorem joi(Q:∀t x,ty t=some x->TyOK P t x)(h:ORel cx κ F w U σ){o:Oper}{ρ:Operand->Value}{e:Operand->AV}(he:∀x,RV κ F w (e x) (ρ x)){t:TypeId}{x:Operand}(D:o.op=.load t x)
  (J:∀T ob es k j,ty t=some T->e x=.eref ob es k j->ja4 P cx κ F w U nm σ o ρ (jct σ T ob es k j)) (I:∀T ob g k j es i c,ty t=some T->e x=.rref ob g k j es i c->ja4 P cx κ F w U nm σ o ρ (jda σ T ob g k j es i c)):
  ja4 P cx κ F w U nm σ o ρ (spec ty Γ σ e nm o):=by
 have hs:spec ty Γ σ e nm o=jbe ty σ t (e x):=by unfold spec;simp only[D]
 rw[hs];unfold jbe;have z:=he x;cases M:ty t with
 |none=>intro m;exact m.elim
 |some T=>
  have q:=Q t T M;simp only[];split
  ·rename_i ob i p;rw[p]at z;unfold RV at z;obtain⟨b,O,B⟩:=z;split
   ·rename_i l y;obtain⟨b',arr,R,Y,S⟩:=h.ok ob _ y;rw[O]at R;simp at R;subst R;have W:=(h.nb ob _ y).2;have A:=S.length;split
    ·rename_i r;split
     ·rename_i ac;intro _;refine jam (jb9 D B (jbr q r (us:=(arr.toList.drop i).take T.size) ?_ ?_)) (jat h (jeo ((S.drop i).take T.size)) (jca ((NBs.drop i W).take T.size)))
      ·rw[List.length_take,List.length_drop];omega
      ·intro j u s;rw[jg2 Y];rw[List.getElem?_take]at s;split at s
       ·rw[List.getElem?_drop]at s;simpa using s
       ·cases s
     ·intro m;exact m.elim
    ·rename_i r;split
     ·rename_i v X;intro _;obtain⟨u,h1,h2,h3⟩:=RVc.at i v S X;exact jam (jb9 D B (jbq q (by simpa using r) (u:=u) (by rw[jg2 Y];simpa using h1))) (jat h h3 (NBs.at i v W X))
     ·intro m;exact m.elim
   ·intro m;exact m.elim
  ·rename_i ob es k j p;rw[p]at z;unfold RV at z;obtain⟨b,f,n,ab,O,B⟩:=z;split
   ·rename_i e' es' l y;split
    ·rename_i N;subst N;obtain⟨us,H,_,a⟩:=jri (h.ok ob _ y) O;split
     ·rename_i r;intro m;obtain⟨C,G⟩:=(show _/\ _ from m);obtain⟨K,Z⟩:=RE.at k _ H (jaz (d:=.sc undef) C);refine jam (jb9 D B (jbr q r (us:=(((us.drop (k*es)).take es).drop j).take T.size) ?_ ?_)) (jat h (jm8 ((K.drop j).take T.size)) (jez _))
      ·rw[List.length_take,List.length_drop,Z];omega
      ·intro i u hi;rw[Nat.add_assoc];refine a _ u ?_;rw[List.getElem?_take]at hi;split at hi
       ·rw[List.getElem?_drop,List.getElem?_take]at hi;split at hi
        ·rw[List.getElem?_drop]at hi;rw[Nat.add_assoc];exact hi
        ·cases hi
       ·cases hi
     ·rename_i r;intro m;obtain⟨C,G⟩:=(show _/\ _ from m);obtain⟨K,Z⟩:=RE.at k _ H (jaz (d:=.sc undef) C);have A:=K.length;obtain⟨u,L,u2,V⟩:=RC.at j _ K (jaz (d:=.sc undef) (by omega));refine jam (jb9 D B (jbq q (by simpa using r) (u:=u) (a _ u ?_))) (jat h (by unfold RV;exact V) (jez _));rw[List.getElem?_take_of_lt G,List.getElem?_drop]at L;exact L
    ·intro m;exact m.elim
   ·exact J T ob es k j M p
   ·intro m;exact m.elim
  ·rename_i ob g k j es i c p;exact I T ob g k j es i c M p
  ·rename_i ds p;rw[p]at z;unfold RV at z;obtain⟨b,ae,us,B,hF,a,E⟩:=z;have A:=E.length;split
   ·rename_i r;intro m;have ad:T.size<=ds.length:=m;refine jam (jb9 D B (jbr q r (us:=us.take T.size) ?_ ?_)) (jat h (jm8 (E.take T.size)) (jez _))
    ·rw[List.length_take];omega
    ·intro j u s;rw[List.getElem?_take]at s;split at s
     ·exact a j u s
     ·cases s
   ·rename_i r;split
    ·rename_i d aa;intro _;obtain⟨u,L,u2,V⟩:=RC.at 0 d E (by simp);refine jam (jb9 D B (jbq q (by simpa using r) (u:=u) (by simpa using a 0 u L))) (jat h (by unfold RV;exact V) (jez _))
    ·intro m;exact m.elim
  ·intro m;exact m.elim

theorem jg4(b i n:Nat):Addr.add ⟨b,i,none⟩ n=⟨b,i+n,none⟩:=Addr.add_lit b i n

theorem jl6(A:∀t x,ty t=some x->TyOK P t x)(h:ORel cx κ F w U σ){o:Oper}{ρ:Operand->Value}{e:Operand->AV}(J:∀x,RV κ F w (e x) (ρ x))(K:∀x,NB U (e x)){s:TypeId}{x:Operand}{f:Nat}(H:o.op=.fieldAddr s x f):
  ja4 P cx κ F w U nm σ o ρ (spec ty Γ σ e nm o):=by
 have hs:spec ty Γ σ e nm o=jdw ty s (e x) f:=by unfold spec;simp only[H]
 rw[hs];unfold jdw;cases m:jkh ty s f with
 |none=>intro C;exact C.elim
 |some r=>
  have v:∀b i,ρ x=.pointer (some ⟨b,i,none⟩)->(execOp ρ o).run P w=.ok (.value (.pointer (some ⟨b,i+r,none⟩))) w:=by
   intro b i q;unfold jkh at m;split at m
   ·rename_i size O bytes zero E;split at m
    ·rename_i N B;split at m
     ·rename_i T I;split at m
      ·cases m
      ·rename_i M;simp only[Option.some.injEq]at m;unfold execOp;simp only[H];refine jbk _ ?_;have L:=(A _ _ E).1;simp only[Instr.fieldAt,Sem.run_bind,run_underlying L,Result.andThen_ok,B,Instr.sureAddr,q,Sem.run_pure,fieldPlace,jar (A _ _ I),M,if_false,jg4,m]
     ·cases m
    ·cases m
   ·cases m
  simp only[];have l:=J x;have a:=K x;split
  ·rename_i ob i d;rw[d]at l a;unfold RV at l;obtain⟨b,z,q⟩:=l;intro _;refine jam (v _ _ q) (jat h ?_ ?_)
   ·unfold RV;exact⟨b,z,rfl⟩
   ·unfold NB at a ⊢;exact a
  ·rename_i ob es k j d;rw[d]at l a;unfold RV at l;obtain⟨b,f,n,y,z,q⟩:=l;intro _;refine jam (v _ _ q) (jat h ?_ ?_)
   ·unfold RV;exact⟨b,f,n,y,z,by simp only[Nat.add_assoc]⟩
   ·unfold NB at a ⊢;exact a
  ·rename_i ob g k j es i c d;rw[d]at l a;unfold RV at l;obtain⟨b,f,n,y,z,q⟩:=l;intro _;refine jam (v _ _ q) (jat h ?_ ?_)
   ·unfold RV;exact⟨b,f,n,y,z,by simp only[Nat.add_assoc]⟩
   ·unfold NB at a ⊢;exact a
  ·rename_i ds d;rw[d]at l;unfold RV at l;obtain⟨b,i,us,q,hF,p,D⟩:=l;intro _;refine jam (v _ _ q) (jat h ?_ (by unfold NB;trivial));unfold RV;refine⟨b,i+r,us.drop r,rfl,hF,fun j u G=>?_,D.drop r⟩;rw[List.getElem?_drop]at G;rw[Nat.add_assoc];exact p _ u G
  ·intro C;exact C.elim

theorem jbf(a:∀t x,ty t=some x->TyOK P t x){t e:TypeId}{E:TyE}(h:jbs ty t=some (e,E)):P.underlying t=some (.slice e)/\ TyOK P e E:=by
 unfold jbs at h;split at h
 ·rename_i b;split at h
  ·rename_i c hE;simp only[Option.some.injEq,Prod.mk.injEq]at h;obtain⟨rfl,rfl⟩:=h;exact⟨(a _ _ b).1,a _ _ hE⟩
  ·cases h
 ·cases h

theorem jl5(S:∀t x,ty t=some x->TyOK P t x)(h:ORel cx κ F w U σ){o:Oper}{ρ:Operand->Value}{e:Operand->AV}(Z:∀x,RV κ F w (e x) (ρ x))(hn:∀x,NB U (e x)){t:TypeId}{x i:Operand}(ho:o.op=.indexAddr t x i)
  (X:∀el E kk n ob g k j,jbs ty t=some (el,E)->jbj (e i)=some (kk,n)->e x=.row ob g k j->ja4 P cx κ F w U nm σ o ρ (jcz σ E ob g k j n)):
  ja4 P cx κ F w U nm σ o ρ (spec ty Γ σ e nm o):=by
 have hs:spec ty Γ σ e nm o=jcm ty σ t (e x) (e i):=by unfold spec;simp only[ho]
 rw[hs];unfold jcm;split
 ·rename_i el E k n O hi;obtain⟨hu,T⟩:=jbf S O;have vi:=jbx hi (Z i);have C:∀(b:Nat)(A len z:Nat),ρ x=.slice (some ⟨b,A,none⟩) len z->0<=n->n<len->(execOp ρ o).run P w=.ok (.value (.pointer (some ⟨b,A+n.toNat*E.size,none⟩))) w:=by
   intro b A len z J h0 Y;unfold execOp;simp only[ho];refine jbk _ ?_;have hc:0<=n/\ n<(len:Int):=⟨h0,Y⟩;simp only[Instr.indexAt,J,vi,asIntOf,Sem.run_bind,Sem.run_pure,Result.andThen_ok,run_underlying hu,hc,and_self,if_true,jar T,jg4]
  have B:=Z x;have p:=hn x;split
  ·rename_i es l y;rw[y]at B;unfold RV RD at B;obtain⟨a,z,J,Y,h2,h3,h4⟩:=B;split
   ·rename_i I;intro s;obtain⟨G,H⟩:=(show _/\ _ from s);have L:n.toNat<l.length:=by omega
    rcases h4 with rfl|⟨b,A,us,rfl,hF,ad,D,W⟩
    ·simp at L
    ·obtain⟨r1,r2⟩:=RE.at n.toNat _ W (jaz (d:=.sc undef) L);refine jam (C _ _ _ _ J G H) (jat h ?_ (by unfold NB;trivial));unfold RV;refine⟨b,_,_,rfl,hF,fun j u M=>?_,r1⟩;rw[List.getElem?_take]at M;split at M
     ·rw[List.getElem?_drop]at M;rw[Nat.add_assoc,<-I];exact D _ u M
     ·cases M
   ·intro s;exact s.elim
  ·rename_i ob y;rw[y]at B p;split
   ·rename_i e' es l Q;split
    ·rename_i I;intro s;obtain⟨G,H⟩:=(show _/\ _ from s);have L:n.toNat<l.length:=by omega
     have R:=h.ok ob _ Q;obtain⟨us,K,W,_⟩:=R;unfold RV at B;rcases K.2 with⟨N,g2⟩|⟨g,A,z,aa,N,_⟩
     ·omega
     ·refine jam (C g A l.length z (by rw[B.1,N]) G H) (jat h ?_ ?_)
      ·unfold RV;exact⟨g,_,_,_,N,by rw[I,Nat.add_zero]⟩
      ·unfold NB at p ⊢;exact p
    ·intro s;exact s.elim
   ·rename_i e' es mask l g' hole Q;split
    ·rename_i I;intro s;obtain⟨G,H⟩:=(show _/\ _ from s);have L:n.toNat<l.length:=by omega
     have R:TabOK F w e' es mask l (κ ob).v (κ g').r hole:=h.ok ob _ Q;obtain⟨us,K,_⟩:=R.mem;unfold RV at B;rcases K.2 with⟨N,g2⟩|⟨g,A,z,aa,N,_⟩
     ·omega
     ·refine jam (C g A l.length z (by rw[B.1,N]) G H) (jat h ?_ ?_)
      ·unfold RV;exact⟨g,_,_,_,N,by rw[I,Nat.add_zero]⟩
      ·unfold NB at p ⊢;exact p
    ·intro s;exact s.elim
   ·intro s;exact s.elim
  ·rename_i ob g k' j y;exact X el E k n ob g k' j O hi y
  ·rename_i ob g k' j es lo m y;rw[y]at B p;split
   ·rename_i I;intro s;obtain⟨G,H⟩:=(show _/\ _ from s);unfold RV at B;obtain⟨a,m',z,q1,q2,q3,q4,q5⟩:=B;rcases q4 with q4|⟨b,f,rfl⟩
    ·omega
    ·rw[if_neg (by omega),Option.map_some,Addr.add_lit]at q5;refine jam (C b (f+lo*es) m (z-lo) q5 G H) (jat h ?_ ?_)
     ·unfold RV;refine⟨b,f,_,_,q1,?_⟩;rw[<-I,Nat.add_zero,Nat.add_mul,Nat.add_assoc]
     ·unfold NB at p ⊢;exact p
   ·intro s;exact s.elim
  ·intro s;exact s.elim
 ·rename_i k n O hi;unfold jkm;split
  ·rename_i len el size bytes zero _ ac;split
   ·rename_i E hE;have hu:=(S _ _ ac).1;have T:=S _ _ hE;have vi:=jbx hi (Z i);have C:∀(b A:Nat),ρ x=.pointer (some ⟨b,A,none⟩)->0<=n->n<len->(execOp ρ o).run P w=.ok (.value (.pointer (some ⟨b,A+n.toNat*E.size,none⟩))) w:=by
     intro b A J h0 Y;unfold execOp;simp only[ho];refine jbk _ ?_;have hc:0<=n/\ n<(len:Int):=⟨h0,Y⟩;simp only[Instr.indexAt,Instr.sureAddr,J,vi,asIntOf,Sem.run_bind,Sem.run_pure,Result.andThen_ok,run_underlying hu,hc,and_self,if_true,jar T,jg4]
    have B:=Z x;have p:=hn x;split
    ·rename_i ob q y;rw[y]at B p;unfold RV at B;obtain⟨b,V,J⟩:=B;intro s;obtain⟨G,H⟩:=(show _/\ _ from s);refine jam (C _ _ J G H) (jat h ?_ ?_)
     ·unfold RV;exact⟨b,V,rfl⟩
     ·unfold NB at p ⊢;exact p
    ·rename_i ob es kk j y;rw[y]at B p;unfold RV at B;obtain⟨b,f,n',z,V,J⟩:=B;split
     ·rename_i hq;obtain⟨rfl,rfl⟩:=hq;intro s;obtain⟨G,H⟩:=(show _/\ _ from s);refine jam (C _ _ J G H) (jat h ?_ ?_)
      ·unfold RV;exact⟨b,f,n',z,V,by rw[Nat.add_mul];congr 3;omega⟩
      ·unfold NB at p ⊢;exact p
     ·intro s;obtain⟨G,H⟩:=(show _/\ _ from s);refine jam (C _ _ J G H) (jat h ?_ ?_)
      ·unfold RV;exact⟨b,f,n',z,V,by simp only[Nat.add_assoc]⟩
      ·unfold NB at p ⊢;exact p
    ·rename_i ob g kk j es q c y;rw[y]at B p;unfold RV at B;obtain⟨b,f,n',z,V,J⟩:=B;intro s;obtain⟨G,H⟩:=(show _/\ _ from s);refine jam (C _ _ J G H) (jat h ?_ ?_)
     ·unfold RV;exact⟨b,f,n',z,V,by simp only[Nat.add_assoc]⟩
     ·unfold NB at p ⊢;exact p
    ·rename_i ds y;rw[y]at B;unfold RV at B;obtain⟨b,q,us,J,hF,D,ab⟩:=B;intro s;obtain⟨G,H⟩:=(show _/\ _ from s);refine jam (C _ _ J G H) (jat h ?_ (by unfold NB;trivial));unfold RV;refine⟨b,q+n.toNat*E.size,us.drop (n.toNat*E.size),rfl,hF,fun j u M=>?_,ab.drop _⟩;rw[List.getElem?_drop]at M;rw[Nat.add_assoc];exact D _ u M
    ·intro s;exact s.elim
   ·intro s;exact s.elim
  ·intro s;exact s.elim
 ·intro s;exact s.elim

theorem jph(D:∀t x,ty t=some x->TyOK P t x)(h:ORel cx κ F w U σ){o:Oper}{ρ:Operand->Value}{e:Operand->AV}(Q:∀x,RV κ F w (e x) (ρ x)){x:Operand}{t:TypeId}(R:o.op=.call {callee:=.builtin .len,args:= #[x],argTypes:= #[t]})
  (C:∀ob g k j,(∃el N u z q,ty t=some ⟨.slice el,N,u,z,q⟩)->e x=.row ob g k j->ja4 P cx κ F w U nm σ o ρ (jfk σ ob g k j)):
  ja4 P cx κ F w U nm σ o ρ (je4 ty σ t (e x)):=by
 have E:∀v,(Builtin.len_ #[t] o.type #[ρ x]).run P w=.ok v w->(execOp ρ o).run P w=.ok (.value v) w:=by
  intro v T;unfold execOp;simp only[R,resolve,invoke,builtin,Sem.run_bind,Sem.run_pure,Result.andThen_ok,List.map_toArray,List.map_cons,List.map_nil,T]
 have d:=Q x;unfold je4;split
 ·rename_i N u z p;have K:=(D _ _ p).1;split
  ·rename_i s J;refine jay h rfl fun _=>E _ ?_;rw[ji2 J d];simp only[Builtin.len_,List.getElem?_toArray,List.getElem?_cons_zero,Sem.run_bind,run_underlying K,Result.andThen_ok,goInt,Sem.run_pure]
  ·intro B;exact B.elim
 ·rename_i N u z el p;have K:=(D _ _ p).1;have b:∀a n f,ρ x=.slice a n f->(execOp ρ o).run P w=.ok (.value (.int .i64 n)) w:=fun a n f L=>E _ (by
   rw[L];simp only[Builtin.len_,List.getElem?_toArray,List.getElem?_cons_zero,Sem.run_bind,run_underlying K,Result.andThen_ok,goInt,Sem.run_pure])
  split
  ·rename_i es l c;rw[c]at d;unfold RV RD at d;obtain⟨a,f,L,_⟩:=d;exact jay h rfl fun _=>b _ _ _ L
  ·rename_i c;rw[c]at d;unfold RV RD at d;exact jay h rfl fun _=>by simpa using b _ _ _ d.1
  ·rename_i ob c;rw[c]at d;unfold RV at d;split
   ·rename_i e' es l A;obtain⟨us,i,S,_⟩:=h.ok ob _ A;refine jay h rfl fun _=>?_;rcases i.2 with⟨y,H⟩|⟨g,M,f,G,y,_⟩
    ·rw[H];exact b _ _ _ (by rw[d.1,y])
    ·exact b _ _ _ (by rw[d.1,y])
   ·rename_i e' es mask l O hole A;have I:TabOK F w e' es mask l (κ ob).v (κ O).r hole:=h.ok ob _ A;obtain⟨us,i,_⟩:=I.mem;refine jay h rfl fun _=>?_;rcases i.2 with⟨y,H⟩|⟨g,M,f,G,y,_⟩
    ·rw[H];exact b _ _ _ (by rw[d.1,y])
    ·exact b _ _ _ (by rw[d.1,y])
   ·intro B;exact B.elim
  ·rename_i ob g k j c;exact C ob g k j ⟨_,_,_,_,_,p⟩ c
  ·rename_i ob g k j es lo m c;rw[c]at d;unfold RV at d;obtain⟨a,W,f,_,_,_,_,V⟩:=d;exact jay h rfl fun _=>b _ _ _ V
  ·intro B;exact B.elim
 ·intro B;exact B.elim

end
end Go.Ab
