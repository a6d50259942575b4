/- My own layer: tables: what their operations leave (3): writing. -/
import Derived.Test.YtimecodbnhcnoaaGreatAbTab2
namespace Go.Ab
set_option linter.unusedVariables false
set_option linter.unusedSimpArgs false
section
variable{P:Program}{cx:Cx}{κ:Kap}{F:Nat->Prop}{w:World}{U:Nat->Prop}{nm:Nat}{σ:Objs}{ty:TypeId->Option TyE}{Γ:Nat->Option FnSpec}

theorem jp0{e:TypeId}{es:Nat}{u:Value}{m:Nat}{us:List Value}(d:Own w e es u m us){b f n c:Nat}(x:u=.slice (some ⟨b,f,none⟩) n c){p:Nat}{vs:List Value}(v:p+vs.length<=m*es):
  ∃a eb fz,w.heap[b]? =some (.cells a eb fz)/\ FzOK e a.size fz/\ f+p+vs.length<=a.size/\ Own (w.setRow b (spl a.toList (f+p) vs).toArray) e es u m (spl us p vs):=by
 subst x;rcases d.2 with⟨h,_⟩|⟨g,y,o,a,h,⟨eb,fz,k,t⟩,l,q,r,s⟩
 ·simp at h
 ·simp at h;obtain⟨⟨rfl,rfl⟩,rfl,rfl⟩:=h;have z:n*es<=c*es:=Nat.mul_le_mul_right _ l;have i:f+c*es<=a.toList.length:=by rw[Array.length_toList];exact r
  have j:=d.1;refine⟨a,eb,fz,k,t,by omega,?_,.inr ⟨b,f,c,_,rfl,⟨_,_,setRow_heap w b a _ eb _ k,by rwa [show(List.toArray (spl a.toList (f+p) vs)).size=a.size by rw[List.size_toArray,jbh (by omega)];rfl]⟩,l,q,?_,?_⟩⟩
  ·rw[jbh (by omega),j]
  ·simp only[List.size_toArray];rw[jbh (by omega)];exact i
  ·rw[List.toList_toArray,jm6 (by omega),jm5 v (by rw[List.length_drop];omega),s]

theorem jt7{e:TypeId}{es:Nat}{u:Value}{l:List D}(h:jb7 F w e es u l){b f n r:Nat}(C:u=.slice (some ⟨b,f,none⟩) n r){i c:Nat}(hi:i<l.length){vs:List Value}(hc:c+vs.length<=es)(hF:¬F b){d:D}
  (hd:∀k,k.length=es->RC F w (l.getD i (.sc undef)).cells k->RC F w d.cells (spl k c vs)):
  ∃a eb fz,w.heap[b]? =some (.cells a eb fz)/\ FzOK e a.size fz/\ f+(i*es+c)+vs.length<=a.size/\ jb7 F (w.setRow b (spl a.toList (f+(i*es+c)) vs).toArray) e es u (l.set i d):=by
 obtain⟨us,g,q,o⟩:=h;have A:(i+1)*es<=l.length*es:=Nat.mul_le_mul_right _ hi;have B:(i+1)*es=i*es+es:=by rw[Nat.add_mul,Nat.one_mul]
 have E:=g.1;obtain⟨a,eb,fz,x,z,H,y⟩:=jp0 g C (p:=i*es+c) (vs:=vs) (by omega);refine⟨a,eb,fz,x,z,by omega,?_⟩;obtain⟨G,v⟩:=RE.at i _ q (jaz (d:=.sc undef) hi);have j:=RE.set i d _ q hi (hd _ v G) (by rw[jbh (by rw[List.length_take,List.length_drop];omega),v]);rw[jpc hc (by omega)]at j;have t:∀m,F m->(w.setRow b (spl a.toList (f+(i*es+c)) vs).toArray).heap[m]? =w.heap[m]?:=fun m s=>
  setRow_other w b m _ fun e'=>hF (e'▸s)
 exact⟨_,by rw[List.length_set];exact y,RE.mono (fun _ hb=>hb) t j,o⟩

theorem jjz{d x:D}{j n:Nat}(a:d.cells.length=n)(c:j<n)(b:x.cells=[x]):(jdn d j x).cells=d.cells.set j x:=by
 cases d with
 |agg cs=>rfl
 |sc v=>
  simp only[D.cells,List.length_cons,List.length_nil,Nat.zero_add]at a;have:j=0:=by omega
  subst this;simp only[jdn,D.cells,List.set_cons_zero];exact b
 |sl e l=>
  simp only[D.cells,List.length_cons,List.length_nil,Nat.zero_add]at a;have:j=0:=by omega
  subst this;simp only[jdn,D.cells,List.set_cons_zero];exact b

theorem TabOK.setRow{e:TypeId}{es:Nat}{mask:List (Option TypeId)}{l:List D}{u:Value}{r:Nat->Nat->Value}{hole:Option (Nat×Nat)}(h:TabOK F w e es mask l u r hole){k j:Nat}(E:jbv mask l.length hole k j){w':World}
  (hF:∀b,F b->w'.heap[b]? =w.heap[b]?) (hb:∀b,blk (r k j)≠some b->(∃o,w.heap[b]? =some o)->w'.heap[b]? =w.heap[b]?) {e':TypeId} (hm:jao mask j=some e') {es':Nat} {rows:List D} (ha:jb7 F w' e' es' (r k j) rows):
  TabOK F w' e es mask (l.set k (jdn (l.getD k (.sc undef)) j (.sl es' rows))) u r hole:=by
 obtain⟨us,⟨g1,J⟩,V,hc⟩:=h.mem;have T:=E.1;have m:=jaz (d:=D.sc undef) T;have S:j<mask.length:=Classical.byContradiction fun hn=>by
  have:=E.2.1;unfold jao at this;rw[List.getElem?_eq_none (Nat.le_of_not_lt hn)]at this;cases this
 have A:j<es:=Nat.lt_of_lt_of_le S h.mlen;have C:(jdn (l.getD k (.sc undef)) j (.sl es' rows)).cells=(l.getD k (.sc undef)).cells.set j (.sl es' rows):=jjz (h.cells k _ m) A rfl;have n:∀k' j',jbv mask l.length hole k' j'->(k',j')≠(k,j)->∀b,blk (r k' j')=some b->w'.heap[b]? =w.heap[b]?:=fun k' j' B s b v=>by
  refine hb b (h.apart k' j' k j B E s b v) ?_;obtain⟨_,_,_,_,_,_,_,M⟩:=h.row B;have:=jrh M v;exact⟨_,Array.getElem?_eq_getElem this⟩
 refine⟨h.pos,h.mlen,fun k' d a=>?_,⟨us,⟨by rw[List.length_set];exact g1,?_⟩,by rw[List.length_set];exact V,fun k' d j' c a hd=>?_⟩,by rw[List.length_set];exact h.apart,by rw[List.length_set];exact h.outer⟩
 ·by_cases i:k'=k
  ·subst i;rw[List.getElem?_set_self T]at a;cases a;rw[C,List.length_set];exact h.cells _ _ m
  ·rw[List.getElem?_set_ne (Ne.symm i)]at a;exact h.cells _ _ a
 ·rcases J with⟨J,g3⟩|⟨g,W,G,H,Z,k3,k4⟩
  ·exact .inl ⟨J,by rw[List.length_set];exact g3⟩
  ·refine .inr ⟨g,W,G,H,by rw[List.length_set];exact Z,?_,by rw[List.length_set];exact k4⟩;obtain⟨eb,fz,k5,k6⟩:=k3;exact⟨eb,fz,(hb g (fun X=>h.outer k j E g X (by rw[Z];rfl)) ⟨_,k5⟩).trans k5,k6⟩
 ·have old:∀d c,l[k']? =some d->d.cells[j']? =some c->((k',j')≠(k,j))->∃x,us[k'*es+j']? =some x/\ one x=true/\ match jao mask j' with
   |none=>RD F w' c x
   |some e'=>x=r k' j'/\ (hole=some (k',j') \/∃es' rows,c=.sl es' rows/\ jb7 F w' e' es' x rows):=by
   intro d c a hd s;obtain⟨x,K,L,f⟩:=hc k' d j' c a hd;refine⟨x,K,L,?_⟩;cases q:jao mask j' with
   |none=>rw[q]at f;exact RD.mono (fun _ hb=>hb) hF f
   |some X=>
    rw[q]at f;simp only[]at f ⊢;obtain⟨Y,f⟩:=f;refine⟨Y,?_⟩;by_cases R:hole=some (k',j')
    ·exact .inl R
    ·rcases f with f|⟨I,t,O,N⟩
     ·exact absurd f R
     ·refine .inr ⟨I,t,O,jb7.mono (fun _ hb=>hb) hF (fun b y=>?_) N⟩;rw[Y]at y;exact n k' j' ⟨(List.getElem?_eq_some_iff.1 a).1,by rw[q];rfl,R⟩ s b y
  by_cases i:k'=k
  ·subst i;rw[List.getElem?_set_self T]at a;cases a;rw[C]at hd;by_cases p:j'=j
   ·subst p;have z:j'<(l.getD k' (.sc undef)).cells.length:=by rw[h.cells _ _ m];exact A
    rw[List.getElem?_set_self z]at hd;cases hd;have Q:=jaz (d:=D.sc undef) z;obtain⟨x,K,L,f⟩:=hc k' _ j' _ m Q;refine⟨x,K,L,?_⟩;rw[hm]at f ⊢;simp only[]at f ⊢;exact⟨f.1,.inr ⟨es',rows,rfl,by rw[f.1];exact ha⟩⟩
   ·rw[List.getElem?_set_ne (Ne.symm p)]at hd;exact old _ _ m hd (by simp[p])
  ·rw[List.getElem?_set_ne (Ne.symm i)]at a;exact old _ _ a hd (by simp[i])

theorem jii(ad:∀t x,ty t=some x->TyOK P t x)(h:ORel cx κ F w U σ){o:Oper}{ρ:Operand->Value}{e:Operand->AV}(he:∀x,RV κ F w (e x) (ρ x))(hn:∀x,NB U (e x)){t:TypeId}{a x:Operand}(ho:o.op=.store t a x)
  {T:TyE} {cs:List AV} {ds:List D} {ob g k j es i c:Nat} (hT:ty t=some T) (X:(e x).cells=some cs) (I:cs.length=T.size) (Y:toDs cs=some ds) (Z:e a=.rref ob g k j es i c):ja4 P cx κ F w U nm σ o ρ (jch ty σ ob g k j es i c ds):=by
 have af:=ad t T hT;obtain⟨hc,aj⟩:=jdm X (he x) (hn x);have J:(ρ x).cells.size=cs.length:=by rw[<-Array.length_toList];exact hc.length
 have W:=jfh Y;subst W;have C:=jf2 hc;rw[List.length_map]at J I;have S:=he a;rw[Z]at S;unfold RV at S;obtain⟨b,f,n,ah,Q,hρ⟩:=S;unfold jch;split
 ·rename_i q ht;split
  ·rename_i E hE;split
   ·rename_i V;obtain⟨hh,ai⟩:=V;have hm:(jao q.mask j).isSome=true:=by
     cases hm:jao q.mask j with
     |none=>rw[hm]at hE;cases hE
     |some _=>rfl
    have G:=jbp ht;have key:∀(d:D),k<q.l.length->(ja0 q.l k j).1=es->i<(ja0 q.l k j).2.length->c+ds.length<=es->
      (∀y,y.length=es->RC F w ((ja0 q.l k j).2.getD i (.sc undef)).cells y->RC F w d.cells (spl y c (ρ x).cells.toList))->
      ∀{p:Prop}{rd:List Nat},Out P o ρ w (SR cx κ F w U nm σ (.det p rd .und [(ob,some (.tab q.e q.es q.mask (q.l.set k (jdn (q.l.getD k (.sc undef)) j (.sl es ((ja0 q.l k j).2.set i d)))) g q.hole))])):=by
     intro d M N O p4 hd p rd;obtain⟨e',aa,H,_,K⟩:=jfj h ht M hm hh;rw[N]at H;have A:=h.free ob _ G b (.inr ⟨k,j,K,by rw[Q];rfl⟩);have ac:TabOK F w q.e q.es q.mask q.l (κ ob).v (κ g).r q.hole:=h.ok ob _ G;have ae:(ρ x).cells.toList.length=ds.length:=by rw[Array.length_toList,J]
     obtain⟨R,_,fz,c1,cz,c2,c3⟩:=jt7 H Q O (vs:=(ρ x).cells.toList) (by rw[ae];exact p4) A.1 hd;have B:∀z,z≠b->(w.setRow b (spl R.toList (f+(i*es+c)) (ρ x).cells.toList).toArray).heap[z]? =w.heap[z]?:=fun z m=>setRow_other w b z _ m;refine jfo (jes af ho hρ c1 (fun _ hj=>cz.not hj) (by rw[J,I]) (by rw[Array.length_toList]at c2;exact c2) C.ones) (jpb (jf0 h G rfl rfl rfl (by simp) (fun z _ ab=>B z fun e'=>ab (.inr ⟨k,j,K,by rw[Q,e'];rfl⟩)) (fun z m=>?_) ?_ (h.nb ob _ G).2))
     ·rcases m with m|⟨k',j',L,m⟩
      ·exact .inl m
      ·rw[List.length_set]at L;exact .inr ⟨k',j',L,m⟩
     ·show TabOK F _ q.e q.es q.mask _ (κ ob).v (κ g).r q.hole;refine ac.setRow K (fun z m=>B z fun e'=>A.1 (e'▸m)) (fun z m _=>B z fun e'=>m (by rw[Q,e'];rfl)) aa c3
    split
    ·rename_i hg;intro s;obtain⟨M,N,O,p4⟩:=(show _/\ _/\ _/\ _ from s);exact key (.agg _) M N O p4 fun y _ K=>RC.spl K C
    ·rename_i hg;split
     ·rename_i d;split
      ·rename_i h1;subst h1;intro s;obtain⟨M,N,O,rfl⟩:=(show _/\ _/\ _/\ _ from s);unfold RC at C;obtain⟨u,ak,g1,g2,g3,g4⟩:=C;unfold RC at g4;subst g4;refine key d M N O (by simp) fun y hl _=>?_;rw[g1];have:spl y 0 [u]=[u]:=by
        unfold spl;rw[List.take_zero,List.nil_append];simp only[List.length_cons,List.length_nil,Nat.zero_add];rw[List.drop_eq_nil_of_le (by omega)];rfl
       rw[this];exact jnb g2 g3
      ·intro s;exact s.elim
     ·intro s;exact s.elim
   ·intro s;exact s.elim
  ·intro s;exact s.elim
 ·intro s;exact s.elim

end
end Go.Ab
