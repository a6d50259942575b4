/- My own layer, seventh part: stores, appends, literals. -/
import Derived.Test.YtimecodbnhcnoaaGreatAbSound3
namespace Go.Ab
set_option linter.unusedVariables false
set_option linter.unusedSimpArgs false
section
variable{P:Program}{cx:Cx}{κ:Kap}{F:Nat->Prop}{w:World}{U:Nat->Prop}{nm:Nat}{σ:Objs}{ty:TypeId->Option TyE}{Γ:Nat->Option FnSpec}

theorem jbh{α:Type}{l xs:List α}{i:Nat}(h:i+xs.length<=l.length):(spl l i xs).length=l.length:=by
 simp only[spl,List.length_append,List.length_take,List.length_drop];omega

theorem jc9{α:Type}{l xs:List α}{i:Nat}(h:i+xs.length<=l.length)(n:Nat):(spl l i xs)[n]? =if n<i then l[n]? else if n<i+xs.length then xs[n-i]? else l[n]?:=by
 unfold spl;have e:(l.take i).length=i:=by rw[List.length_take];omega
 by_cases a:n<i
 ·rw[if_pos a,List.append_assoc,List.getElem?_append_left (by omega),List.getElem?_take_of_lt a]
 ·rw[if_neg a];by_cases b:n<i+xs.length
  ·rw[if_pos b,List.append_assoc,List.getElem?_append_right (by omega),e,List.getElem?_append_left (by omega)]
  ·rw[if_neg b,List.getElem?_append_right (by rw[List.length_append,e];omega),List.getElem?_drop];congr 1;rw[List.length_append,e];omega

theorem jm5{α:Type}{l xs:List α}{i n:Nat}(h:i+xs.length<=n)(b:n<=l.length):(spl l i xs).take n=spl (l.take n) i xs:=by
 apply List.ext_getElem?;intro m;rw[jc9 (by rw[List.length_take];omega)];by_cases a:m<n
 ·rw[List.getElem?_take_of_lt a,jc9 (by omega),List.getElem?_take_of_lt a]
 ·rw[List.getElem?_eq_none (by rw[List.length_take];omega),if_neg (by omega),if_neg (by omega),List.getElem?_eq_none (by rw[List.length_take];omega)]

theorem jm6{α:Type}{l xs:List α}{f i:Nat}(h:f+i+xs.length<=l.length):(spl l (f+i) xs).drop f=spl (l.drop f) i xs:=by
 apply List.ext_getElem?;intro m;rw[jc9 (by rw[List.length_drop];omega),List.getElem?_drop,jc9 (by omega),List.getElem?_drop];by_cases a:m<i
 ·rw[if_pos (show f+m<f+i by omega),if_pos a]
 ·rw[if_neg (show¬f+m<f+i by omega),if_neg a];by_cases b:m<i+xs.length
  ·rw[if_pos (show f+m<f+i+xs.length by omega),if_pos b,show f+m-(f+i)=m-i by omega]
  ·rw[if_neg (show¬f+m<f+i+xs.length by omega),if_neg b]
theorem jpc{α:Type}{l xs:List α}{a es j:Nat}(h:j+xs.length<=es)(k:a+es<=l.length):
  l.take a++spl ((l.drop a).take es) j xs++l.drop (a+es)=spl l (a+j) xs:=by
 have b:(spl ((l.drop a).take es) j xs).length=es:=by rw[jbh (by rw[List.length_take,List.length_drop];omega),List.length_take,List.length_drop];omega
 have e:l.take a++spl ((l.drop a).take es) j xs++l.drop (a+es)=spl l a (spl ((l.drop a).take es) j xs):=by unfold spl;rw[<-spl,b]
 rw[e];apply List.ext_getElem?;intro n;rw[jc9 (l:=l) (i:=a) (by rw[b];exact k),jc9 (l:=l) (i:=a+j) (xs:=xs) (by omega),b];by_cases c:n<a
 ·rw[if_pos c,if_pos (by omega)]
 ·rw[if_neg c];by_cases d:n<a+es
  ·rw[if_pos d,jc9 (l:=(l.drop a).take es) (by rw[List.length_take,List.length_drop];omega)];by_cases f:n-a<j
   ·rw[if_pos f,if_pos (by omega),List.getElem?_take_of_lt (by omega),List.getElem?_drop];congr 1;omega
   ·rw[if_neg f];by_cases g:n-a<j+xs.length
    ·rw[if_pos g,if_neg (by omega),if_pos (by omega)];congr 1;omega
    ·rw[if_neg g,if_neg (by omega),if_neg (by omega),List.getElem?_take_of_lt (by omega),List.getElem?_drop];congr 1;omega
  ·rw[if_neg d,if_neg (by omega),if_neg (by omega)]

theorem RVc.spl{l xs:List AV}{us vs:List Value}{i:Nat}(h:RVc κ F w l us)(a:RVc κ F w xs vs):RVc κ F w (Ab.spl l i xs) (Ab.spl us i vs):=by
 unfold Ab.spl;rw[a.length];exact((h.take i).app a).app (h.drop _)
theorem RC.spl{l xs:List D}{us vs:List Value}{i:Nat}(h:RC F w l us)(a:RC F w xs vs):RC F w (Ab.spl l i xs) (Ab.spl us i vs):=by
 unfold Ab.spl;rw[a.length];exact((h.take i).app a).app (h.drop _)
theorem NBs.spl{l xs:List AV}{i:Nat}(h:NBs U l)(a:NBs U xs):NBs U (Ab.spl l i xs):=by
 unfold Ab.spl;exact((h.take i).app a).app (h.drop _)

theorem jfh:∀{l:List AV}{ds:List D},toDs l=some ds->l=ds.map .dat
 |[],ds,h=>by simp[toDs]at h;subst h;rfl
 |x::l,ds,h=>by
  unfold toDs at h;split at h
  ·rename_i d b hd a;simp only[Option.some.injEq]at h;subst h;have:=jfh a;cases x<;>simp[AV.toD]at hd
   subst hd;simp[this]
  ·cases h

theorem jf2:∀{l:List D}{us:List Value},RVc κ F w (l.map .dat) us->RC F w l us
 |[],us,h=>by simp only[List.map_nil]at h;unfold RVc at h;unfold RC;exact h
 |d::ds,us,h=>by
  simp only[List.map_cons]at h;unfold RVc at h;obtain⟨u,a,c,e,b,f⟩:=h;unfold RV at b;unfold RC;exact⟨u,a,c,e,b,jf2 f⟩

theorem jnb{d:D}{v:Value}(b:one v=true)(h:RD F w d v):RC F w d.cells [v]:=by
 have a:∀l,d≠.agg l:=by
  rintro l rfl;unfold RD at h;obtain⟨cs,rfl,_⟩:=h;simp[one]at b
 have e:d.cells=[d]:=by cases d<;>first|rfl|exact absurd rfl (a _)
 rw[e];unfold RC;exact⟨v,[],rfl,b,h,by unfold RC;rfl⟩

theorem jes{o:Oper}{ρ:Operand->Value}{t:TypeId}{T:TyE}(h:TyOK P t T){a x:Operand}(m:o.op=.store t a x){b i:Nat}(l:ρ a=.pointer (some ⟨b,i,none⟩))
  {c:Array Value} {d:TypeId} {fz:Nat×Nat} (hb:w.heap[b]? =some (.cells c d fz)) (p:∀j,j<c.size->(decide (fz.1<=j)&&decide (j<fz.2))=false) (g:(ρ x).cells.size=T.size) (e:i+(ρ x).cells.size<=c.size) (k:∀u∈(ρ x).cells.toList,one u=true):
  (execOp ρ o).run P w=.ok .skip (w.setRow b (spl c.toList i (ρ x).cells.toList).toArray):=by
 unfold execOp;simp only[m];refine js1 _ ?_;have f:=jcf P b i d fz (ρ x).cells.toList 0 c w hb p (by simpa using e) (fun v n=>by rw[jnd];exact k v n);simp only[Nat.add_zero]at f;simp only[Instr.storeAt,Instr.sureAddr,l,Sem.run_bind,Sem.run_pure,Result.andThen_ok,storeVar,jar h,g,ne_eq,not_true_eq_false,if_false,f,spl]

theorem jpb{p:Prop}{rd:List Nat}{o:Nat}{x:Obj'}{w':World}(h:Aft cx κ F w U κ F w' (Un U nm) (upd σ o (some x))):
  SR cx κ F w U nm σ (.det p rd .und [(o,some x)]) undef w':=
 ⟨.und,_,κ,F,⟨rfl,rfl⟩,h,by unfold RV;rfl,by unfold NB;trivial⟩

theorem jl3(ai:∀t x,ty t=some x->TyOK P t x)(h:ORel cx κ F w U σ){o:Oper}{ρ:Operand->Value}{e:Operand->AV}(he:∀x,RV κ F w (e x) (ρ x))(hn:∀x,NB U (e x)){t:TypeId}{a x:Operand}(ho:o.op=.store t a x)
  (Z:∀T cs ob es k j,ty t=some T->(e x).cells=some cs->cs.length=T.size->e a=.eref ob es k j->ja4 P cx κ F w U nm σ o ρ (jcd ty σ nm ob es k j cs))
  (Y:∀T cs ds ob g k j es i c,ty t=some T->(e x).cells=some cs->cs.length=T.size->toDs cs=some ds->e a=.rref ob g k j es i c->ja4 P cx κ F w U nm σ o ρ (jch ty σ ob g k j es i c ds)):
  ja4 P cx κ F w U nm σ o ρ (spec ty Γ σ e nm o):=by
 have hs:spec ty Γ σ e nm o=jb2 ty σ nm t (e a) (e x):=by unfold spec;simp only[ho]
 rw[hs];unfold jb2;split
 ·rename_i T cs hT M;have aa:=ai t T hT;obtain⟨hc,R⟩:=jdm M (he x) (hn x);have B:(ρ x).cells.size=cs.length:=by rw[<-Array.length_toList];exact hc.length
  split
  ·rename_i z;have Q:=he a;split
   ·rename_i ob i A;rw[A]at Q;unfold RV at Q;obtain⟨b,I,hρ⟩:=Q;split
    ·rename_i l s;split
     ·rename_i aj;intro _;obtain⟨y,arr,k1,k2,k3⟩:=h.ok ob _ s;rw[I]at k1;simp at k1;subst k1;have ao:arr.size=l.length:=by rw[<-Array.length_toList];exact k3.length
      have L:∀y,F y->(w.setRow b (spl arr.toList i (ρ x).cells.toList).toArray).heap[y]? =w.heap[y]?:=fun y K=>
       setRow_other w b y _ fun e'=>(h.free ob _ s b (.inl (by rw[I];rfl))).1 (e'▸K)
      have V:=(h.nb ob _ s).2;refine jfo (jes aa ho hρ k2 (by simp) (by rw[B,z]) (by rw[B];omega) hc.ones) (jpb (jf0 h s rfl rfl rfl (by simp) (fun y _ O=>setRow_other w b y _ fun e'=>O (.inl (by rw[I,e'];rfl))) (fun _ h=>h) ?_ (NBs.spl V R)));exact⟨b,_,I,setRow_heap w b arr _ _ _ k2,by
       exact RVc.mono (fun _ _=>rfl) (fun _ hb=>hb) L (NBs.spl V R) (k3.spl hc)⟩
     ·intro q;exact q.elim
    ·intro q;exact q.elim
   ·rename_i ob es k j A;rw[A]at Q;unfold RV at Q;obtain⟨b,f,n,ak,I,hρ⟩:=Q;split
    ·rename_i e' es' l ds s N;have ad:=jfh N;subst ad;have af:=jf2 hc;split
     ·rename_i ah;subst ah;split
      ·rename_i E hE;split
       ·rename_i am;obtain⟨us,W,J,X⟩:=h.ok ob _ s;have au:=J.length;have ac:∃r m eb fz,w.heap[b]? =some (.cells r eb fz)/\ FzOK e' r.size fz/\ l.length<=m/\ m<=maxLen/\ f+m*es<=r.size/\ (r.toList.drop f).take (l.length*es)=us/\ (κ ob).v=.slice (some ⟨b,f,none⟩) l.length m:=by
         rcases W.2 with⟨H,_⟩|⟨g,ax,m,r,H,⟨eb,fz,g2,gz⟩,g3,g4,g5,g6⟩
         ·rw[I]at H;simp at H
         ·have ab:=H;rw[I]at H;simp at H;obtain⟨⟨rfl,rfl⟩,_,rfl⟩:=H;exact⟨r,_,eb,fz,g2,gz,g3,g4,g5,g6,ab⟩
        obtain⟨r,m,eb,fz,c1,cz,c2,c3,c4,c5,c6⟩:=ac;have key:∀(d:D),k<l.length->j+ds.length<=es->RC F w d.cells (spl ((us.drop (k*es)).take es) j (ρ x).cells.toList)->
          ∀{p:Prop}{rd:List Nat},Out P o ρ w (SR cx κ F w U nm σ (.det p rd .und [(ob,some (.arr e' es (l.set k d)))])):=by
         intro d S hj hd p rd;have ap:(k+1)*es<=l.length*es:=Nat.mul_le_mul_right _ S;have aq:l.length*es<=m*es:=Nat.mul_le_mul_right _ c2;have ar:(k+1)*es=k*es+es:=by rw[Nat.add_mul,Nat.one_mul]
         have C:(ρ x).cells.toList.length=ds.length:=by rw[Array.length_toList,B,List.length_map]
         have ae:f+m*es<=r.toList.length:=by rw[Array.length_toList];exact c4
         have aw:(ρ x).cells.size=ds.length:=by rw[B,List.length_map]
         have L:∀y,F y->(w.setRow b (spl r.toList (f+(k*es+j)) (ρ x).cells.toList).toArray).heap[y]? =w.heap[y]?:=fun y K=>
          setRow_other w b y _ fun e'=>(h.free ob _ s b (.inl (by rw[I];rfl))).1 (e'▸K)
         refine jfo (jes aa ho hρ c1 (fun _ hj=>cz.not hj) (by rw[B,z]) (by omega) hc.ones) (jpb (jf0 h s rfl rfl rfl (by simp) (fun y _ O=>setRow_other w b y _ fun e'=>O (.inl (by rw[I,e'];rfl))) (fun _ h=>h) ?_ trivial));have G:=RE.set k d _ J S hd (by rw[jbh (by rw[List.length_take,List.length_drop,C];omega),List.length_take,List.length_drop];omega);rw[jpc (by rw[C];exact hj) (by omega)]at G;refine⟨_,⟨?_,.inr ⟨b,f,m,_,?_,⟨_,_,setRow_heap w b r _ eb _ c1,by rwa [show(List.toArray (spl r.toList (f+(k*es+j)) (ρ x).cells.toList)).size=r.size by rw[List.size_toArray,jbh (by rw[C];omega)];rfl]⟩,?_,c3,?_,?_⟩⟩,RE.mono (fun _ hb=>hb) L G,X⟩
         ·rw[G.length]
         ·rw[List.length_set];exact c6
         ·rw[List.length_set];exact c2
         ·simp only[List.size_toArray];rw[jbh (by rw[C];omega)];exact ae
         ·rw[List.toList_toArray,List.length_set,jm6 (by rw[C];omega),jm5 (by rw[C];omega) (by rw[List.length_drop];omega),c5]
        split
        ·rename_i hg;intro q;obtain⟨p1,p2⟩:=(show _/\ _ from q);obtain⟨r1,r2⟩:=RE.at k _ J (jaz (d:=.sc undef) p1);exact key (.agg _) p1 p2 (RC.spl r1 af)
        ·rename_i hg;split
         ·rename_i d;split
          ·rename_i h1;subst h1;intro q;obtain⟨p1,rfl⟩:=(show _/\ _ from q);simp only[List.map_cons,List.map_nil]at hc B;unfold RVc at hc;obtain⟨u,ay,H,g2,g3,g4⟩:=hc;unfold RVc at g4;subst g4;unfold RV at g3;obtain⟨r1,r2⟩:=RE.at k _ J (jaz (d:=.sc undef) p1);refine key d p1 (by simp) ?_;rw[H];have:spl ((us.drop (k*1)).take 1) 0 [u]=[u]:=by
            unfold spl;rw[List.take_zero,List.nil_append];simp only[List.length_cons,List.length_nil,Nat.zero_add];rw[List.drop_eq_nil_of_le (by omega)];rfl
           rw[this];exact jnb g2 g3
          ·intro q;exact q.elim
         ·intro q;exact q.elim
       ·intro q;exact q.elim
      ·intro q;exact q.elim
     ·intro q;exact q.elim
    ·exact Z T cs ob es k j hT M z A
    ·intro q;exact q.elim
   ·rename_i ob g k j es i c A;split
    ·rename_i ds N;exact Y T cs ds ob g k j es i c hT M z N A
    ·intro q;exact q.elim
   ·intro q;exact q.elim
  ·intro q;exact q.elim
 ·intro q;exact q.elim

end
end Go.Ab
