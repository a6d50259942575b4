/- My own layer: tables: what their operations leave (2): reading. -/
import Derived.Test.YtimecodbnhcnoaaGreatAbTab
namespace Go.Ab
set_option linter.unusedVariables false
set_option linter.unusedSimpArgs false
section
variable{P:Program}{cx:Cx}{κ:Kap}{F:Nat->Prop}{w:World}{U:Nat->Prop}{nm:Nat}{σ:Objs}{ty:TypeId->Option TyE}{Γ:Nat->Option FnSpec}

theorem jej:∀{cs:List AV}{us:List Value},us.length=cs.length->(∀(j:Nat)(c:AV),cs[j]? =some c->∃x,us[j]? =some x/\ one x=true/\ RV κ F w c x)->RVc κ F w cs us
 |[],us,a,_=>by unfold RVc;exact List.eq_nil_of_length_eq_zero (by simpa using a)
 |c::cs,[],a,_=>by simp at a
 |c::cs,u::us,a,h=>by
  obtain⟨x,b,d,e⟩:=h 0 c (by simp);simp at b;subst b;unfold RVc;exact⟨u,us,rfl,d,e,jej (by simpa using a) fun j c f=>by simpa using h (j+1) c (by simpa using f)⟩
theorem jn8:∀{cs:List AV},(∀c∈cs,NB U c)->NBs U cs
 |[],_=>by unfold NBs;trivial
 |c::cs,h=>by unfold NBs;exact⟨h c (List.mem_cons_self ..),jn8 fun x a=>h x (List.mem_cons_of_mem _ a)⟩

theorem jdv{hole:Option (Nat×Nat)}{j n k i:Nat}(h:jav hole j n=true)(hi:i<n):hole≠some (k,j+i):=by
 intro e;subst e;simp only[jav,Bool.or_eq_true]at h;rcases h with h|h
 ·have:=by simpa[Nat.blt_eq]using h
  omega
 ·have:=Nat.le_of_ble_eq_true h;omega

theorem jhj{e:TypeId}{es:Nat}{u:Value}{m:Nat}{us:List Value}(a:Own w e es u m us){b f n c:Nat}(l:u=.slice (some ⟨b,f,none⟩) n c):
  n=m/\ ∀(j:Nat)(v:Value),us[j]? =some v->w.cell? ⟨b,f+j,none⟩=some v:=by
 subst l;refine⟨?_,fun j v k=>?_⟩
 ·rcases a.2 with⟨d,_⟩|⟨g,o,h,i,d,_⟩
  ·simp at d
  ·simp at d;omega
 ·exact a.cells rfl j v k

theorem jm4{e:TypeId}{es:Nat}{mask:List (Option TypeId)}{l:List D}{u:Value}{hole:Option (Nat×Nat)}{g:Nat}(q:TabOK F w e es mask l u (κ g).r hole){us:List Value}
  (hc:∀(k:Nat)(d:D)(j:Nat)(c:D),l[k]? =some d->d.cells[j]? =some c->∃x,us[k*es+j]? =some x/\ one x=true/\ match jao mask j with
   |none=>RD F w c x
   |some e'=>x=(κ g).r k j/\ (hole=some (k,j) \/∃es' rows,c=.sl es' rows/\ jb7 F w e' es' x rows)) (o:Nat) {k j:Nat} (p:k<l.length) (t:j<es) (s:(jao mask j).isSome=true->hole≠some (k,j)):
  ∃x,us[k*es+j]? =some x/\ one x=true/\ RV κ F w (match jao mask j with|some _=>.row o g k j|none=>.dat ((l.getD k (.sc undef)).cells.getD j (.sc undef))) x:=by
 have b:=jaz (d:=D.sc undef) p;have i:=q.cells k _ b;have f:=jaz (d:=D.sc undef) (l:=(l.getD k (.sc undef)).cells) (k:=j) (by omega);obtain⟨x,n,h,a⟩:=hc k _ j _ b f;refine⟨x,n,h,?_⟩;cases m:jao mask j with
 |none=>rw[m]at a;simp only[]at a ⊢;unfold RV;exact a
 |some e'=>
  rw[m]at a;simp only[]at a ⊢;unfold RV;exact⟨a.1,h⟩

theorem jjt(N:∀t x,ty t=some x->TyOK P t x)(h:ORel cx κ F w U σ){o:Oper}{ρ:Operand->Value}{e:Operand->AV}(he:∀x,RV κ F w (e x) (ρ x)){t:TypeId}{x:Operand}(R:o.op=.load t x){T:TyE}{ob es k j:Nat}(Z:ty t=some T)(I:e x=.eref ob es k j):
  ja4 P cx κ F w U nm σ o ρ (jct σ T ob es k j):=by
 have E:=N t T Z;have O:=he x;rw[I]at O;unfold RV at O;obtain⟨b,f,n,V,hk,S⟩:=O;unfold jct;split
 ·rename_i e' es' mask l g hole B;have M:TabOK F w e' es' mask l (κ ob).v (κ g).r hole:=h.ok ob _ B;obtain⟨us,C,D,hc⟩:=M.mem;obtain⟨_,a⟩:=jhj C hk;have z:=h.nb ob _ B;have A:∀j,NB U (match jao mask j with|some _=>AV.row ob g k j|none=>.dat ((l.getD k (.sc undef)).cells.getD j (.sc undef))):=fun j=>by
   split
   ·unfold NB;exact⟨z.1,z.2⟩
   ·unfold NB;trivial
  split
  ·rename_i H;subst H;split
   ·rename_i J;split
    ·rename_i K;intro d;obtain⟨m,s⟩:=(show _/\ _ from d);have aa:(k+1)*es<=l.length*es:=Nat.mul_le_mul_right _ m;have Q:(k+1)*es=k*es+es:=by rw[Nat.add_mul,Nat.one_mul]
     have L:RVc κ F w (jdy ob g k mask (l.getD k (.sc undef)) j T.size) ((us.drop (k*es+j)).take T.size):=by
      refine jej (by rw[List.length_take,List.length_drop,D];unfold jdy;rw[List.length_map,List.length_range];omega) fun i c hi=>?_;unfold jdy at hi;rw[List.getElem?_map]at hi;have q:i<T.size:=Classical.byContradiction fun hn=>by
       rw[List.getElem?_eq_none (by simpa using Nat.le_of_not_lt hn)]at hi;cases hi
      rw[List.getElem?_range q]at hi;simp only[Option.map_some,Option.some.injEq]at hi;subst hi;obtain⟨x,W,X,Y⟩:=jm4 M hc ob (j:=j+i) m (by omega) fun _=>jdv K q;refine⟨x,?_,X,Y⟩;rw[List.getElem?_take_of_lt q,List.getElem?_drop,<-W];congr 1;omega
     refine jam (jb9 R S (jbr E J (us:=(us.drop (k*es+j)).take T.size) ?_ ?_)) (jat h (jeo L) (jca (jn8 fun c y=>?_)))
     ·rw[List.length_take,List.length_drop,D];omega
     ·intro i u hi;rw[Nat.add_assoc];refine a _ u ?_;rw[List.getElem?_take]at hi;split at hi
      ·rw[List.getElem?_drop]at hi;exact hi
      ·cases hi
     ·unfold jdy at y;obtain⟨i,_,rfl⟩:=List.mem_map.1 y;exact A (j+i)
    ·intro d;exact d.elim
   ·rename_i J;have key:k<l.length->j<es->((jao mask j).isSome=true->hole≠some (k,j))->∀{rd:List Nat}{p:Prop},Out P o ρ w (SR cx κ F w U nm σ (.det p rd (match jao mask j with|some _=>.row ob g k j|none=>.dat ((l.getD k (.sc undef)).cells.getD j (.sc undef))) [])):=by
     intro m s p3 rd p;obtain⟨u,u1,u2,u3⟩:=jm4 M hc ob m s p3;exact jam (jb9 R S (jbq E (by simpa using J) (u:=u) (a _ u u1))) (jat h u3 (A j))
    split
    ·rename_i G;intro d;obtain⟨m,s⟩:=(show _/\ _ from d);have:=key m s (by rw[G];simp) (rd:=[ob]) (p:=k<l.length/\ j<es);rw[G]at this;exact this
    ·rename_i e2 G;split
     ·rename_i K;intro d;obtain⟨m,s⟩:=(show _/\ _ from d);have:=key m s (fun _=>by simpa using jdv (k:=k) (i:=0) K (by omega)) (rd:=[ob]) (p:=k<l.length/\ j<es);rw[G]at this;exact this
     ·intro d;exact d.elim
  ·intro d;exact d.elim
 ·intro d;exact d.elim

theorem jbp{o g:Nat}{t:TabV}(h:jb0 σ o g=some t):σ o=some (.tab t.e t.es t.mask t.l g t.hole):=by
 unfold jb0 at h;split at h
 ·rename_i e es mask l c hole a;split at h
  ·rename_i b;subst b;cases h;exact a
  ·cases h
 ·cases h

theorem jfj(h:ORel cx κ F w U σ){o g k j:Nat}{t:TabV}(y:jb0 σ o g=some t)(u:k<t.l.length)(x:(jao t.mask j).isSome=true)(s:jav t.hole j 1=true):
  ∃e',jao t.mask j=some e'/\ jb7 F w e' (ja0 t.l k j).1 ((κ g).r k j) (ja0 t.l k j).2/\ (t.l.getD k (.sc undef)).cells[j]? =some (.sl (ja0 t.l k j).1 (ja0 t.l k j).2)/\ jbv t.mask t.l.length t.hole k j:=by
 have a:=jbp y;have m:jbv t.mask t.l.length t.hole k j:=⟨u,x,by simpa using jdv (k:=k) (i:=0) s (by omega)⟩;have b:TabOK F w t.e t.es t.mask t.l (κ o).v (κ g).r t.hole:=h.ok o _ a;obtain⟨d,e',es',rows,n,p,f,q⟩:=b.row m;have hd:t.l.getD k (.sc undef)=d:=by rw[List.getD_eq_getElem?_getD,n];rfl
 have c:ja0 t.l k j=(es',rows):=by
  unfold ja0 rowD;rw[hd,List.getD_eq_getElem?_getD,f];rfl
 rw[c,hd];exact⟨e',p,q,f,m⟩

theorem jkw(h:ORel cx κ F w U σ){o:Oper}{ρ:Operand->Value}{e:Operand->AV}(u:∀x,RV κ F w (e x) (ρ x)){x:Operand}{t:TypeId}(y:o.op=.call {callee:=.builtin .len,args:= #[x],argTypes:= #[t]})
  {ob g k j:Nat} (p:∃el,P.underlying t=some (.slice el)) (m:e x=.row ob g k j):ja4 P cx κ F w U nm σ o ρ (jfk σ ob g k j):=by
 obtain⟨el,p⟩:=p;have q:∀v,(Builtin.len_ #[t] o.type #[ρ x]).run P w=.ok v w->(execOp ρ o).run P w=.ok (.value v) w:=by
  intro v A;unfold execOp;simp only[y,resolve,invoke,builtin,Sem.run_bind,Sem.run_pure,Result.andThen_ok,List.map_toArray,List.map_cons,List.map_nil,A]
 have b:∀a n c,ρ x=.slice a n c->(execOp ρ o).run P w=.ok (.value (.int .i64 n)) w:=fun a n c B=>q _ (by
  rw[B];simp only[Builtin.len_,List.getElem?_toArray,List.getElem?_cons_zero,Sem.run_bind,run_underlying p,Result.andThen_ok,goInt,Sem.run_pure])
 have i:=u x;rw[m]at i;unfold RV at i;unfold jfk;split
 ·rename_i E z;split
  ·rename_i hc;refine fun d=>(jay h rfl fun d=>?_) d;obtain⟨e',_,⟨us,f,_⟩,_⟩:=jfj h z d hc.2 hc.1;rcases f.2 with⟨l,s⟩|⟨D,C,c,r,l,_⟩
   ·rw[s];exact b _ _ _ (by rw[i.1,l])
   ·exact b _ _ _ (by rw[i.1,l])
  ·intro d;exact d.elim
 ·intro d;exact d.elim

theorem jik(r:∀t x,ty t=some x->TyOK P t x)(h:ORel cx κ F w U σ){o:Oper}{ρ:Operand->Value}{e:Operand->AV}(z:∀x,RV κ F w (e x) (ρ x))(C:∀x,NB U (e x)){t:TypeId}{x i:Operand}(D:o.op=.indexAddr t x i)
  {el:TypeId} {E:TyE} {kk:IntKind} {n:Int} {ob g k j:Nat} (p:jbs ty t=some (el,E)) (hi:jbj (e i)=some (kk,n)) (q:e x=.row ob g k j):ja4 P cx κ F w U nm σ o ρ (jcz σ E ob g k j n):=by
 obtain⟨H,v⟩:=jbf r p;have M:=jbx hi (z i);have u:∀(b:Nat)(a len c:Nat),ρ x=.slice (some ⟨b,a,none⟩) len c->0<=n->n<len->(execOp ρ o).run P w=.ok (.value (.pointer (some ⟨b,a+n.toNat*E.size,none⟩))) w:=by
  intro b a len c I h0 B;unfold execOp;simp only[D];refine jbk _ ?_;have hc:0<=n/\ n<(len:Int):=⟨h0,B⟩;simp only[Instr.indexAt,I,M,asIntOf,Sem.run_bind,Sem.run_pure,Result.andThen_ok,run_underlying H,hc,and_self,if_true,jar v,jg4]
 have s:=z x;have d:=C x;rw[q]at s d;unfold RV at s;unfold jcz;split
 ·rename_i Q G;split
  ·rename_i hc;intro l;obtain⟨J,O,K,L⟩:=(show _/\ _/\ _/\ _ from l);obtain⟨e',_,⟨us,f,_⟩,_⟩:=jfj h G J hc.2 hc.1;rcases f.2 with⟨m,N⟩|⟨y,a,c,A,m,_⟩
   ·omega
   ·refine jam (u y a _ c (by rw[s.1,m]) K L) (jat h ?_ ?_)
    ·unfold RV;exact⟨y,_,_,_,m,by rw[Nat.add_zero]⟩
    ·unfold NB at d ⊢;exact d
  ·intro l;exact l.elim
 ·intro l;exact l.elim

theorem jju(A:∀t x,ty t=some x->TyOK P t x)(h:ORel cx κ F w U σ){o:Oper}{ρ:Operand->Value}{e:Operand->AV}(R:∀x,RV κ F w (e x) (ρ x)){t:TypeId}{x:Operand}(I:o.op=.load t x){T:TyE}{ob g k j es i c:Nat}(Q:ty t=some T)(y:e x=.rref ob g k j es i c):
  ja4 P cx κ F w U nm σ o ρ (jda σ T ob g k j es i c):=by
 have s:=A t T Q;have B:=R x;rw[y]at B;unfold RV at B;obtain⟨b,f,n,O,G,K⟩:=B;unfold jda;split
 ·rename_i V J;split
  ·rename_i hc;split
   ·rename_i z;intro r;obtain⟨C,D,E,L⟩:=(show _/\ _/\ _/\ _ from r);obtain⟨e',_,⟨us,l,m,_⟩,_⟩:=jfj h J C hc.2 hc.1;rw[D]at l m;obtain⟨_,a⟩:=jhj l G;obtain⟨v,M⟩:=RE.at i _ m (jaz (d:=.sc undef) E);refine jam (jb9 I K (jbr s z (us:=(((us.drop (i*es)).take es).drop c).take T.size) ?_ ?_)) (jat h (jm8 ((v.drop c).take T.size)) (jez _))
    ·rw[List.length_take,List.length_drop,M];omega
    ·intro q u p;rw[Nat.add_assoc];refine a _ u ?_;rw[List.getElem?_take]at p;split at p
     ·rw[List.getElem?_drop,List.getElem?_take]at p;split at p
      ·rw[List.getElem?_drop]at p;rw[Nat.add_assoc];exact p
      ·cases p
     ·cases p
   ·rename_i z;intro r;obtain⟨C,D,E,L⟩:=(show _/\ _/\ _/\ _ from r);obtain⟨e',_,⟨us,l,m,_⟩,_⟩:=jfj h J C hc.2 hc.1;rw[D]at l m;obtain⟨_,a⟩:=jhj l G;obtain⟨v,M⟩:=RE.at i _ m (jaz (d:=.sc undef) E);have H:=v.length;obtain⟨u,N,W,S⟩:=RC.at c _ v (jaz (d:=.sc undef) (by omega));refine jam (jb9 I K (jbq s (by simpa using z) (u:=u) (a _ u ?_))) (jat h (by unfold RV;exact S) (jez _));rw[List.getElem?_take_of_lt L,List.getElem?_drop]at N;exact N
  ·intro r;exact r.elim
 ·intro r;exact r.elim

end
end Go.Ab
