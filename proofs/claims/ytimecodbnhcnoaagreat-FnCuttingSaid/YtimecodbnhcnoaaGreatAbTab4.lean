/- My own layer: tables: what their operations leave (4): cells from somewhere; stores. -/
import Derived.Test.YtimecodbnhcnoaaGreatAbTab3
namespace Go.Ab
set_option linter.unusedVariables false
set_option linter.unusedSimpArgs false

structure TabC(κ:Kap)(σ:Objs)(F:Nat->Prop)(w:World)(mask:List (Option TypeId))(es:Nat)(l:List D)(us:List Value)(hole:Option (Nat×Nat))(src:Nat->Nat->Option Sc):Prop where
 len:us.length=l.length*es
 cells:∀(k:Nat)(d:D),l[k]? =some d->d.cells.length=es
 cell:∀(k:Nat)(d:D)(j:Nat)(c:D),l[k]? =some d->d.cells[j]? =some c->∃x,us[k*es+j]? =some x/\ one x=true/\ match jao mask j with
  |none=>RD F w c x
  |some e'=>hole=some (k,j) \/((∃es' rows,c=.sl es' rows/\ jb7 F w e' es' x rows)/\ ∀b,blk x=some b->∃s,src k j=some s/\ jd6 κ σ s b)

section
variable{P:Program}{cx:Cx}{κ:Kap}{F:Nat->Prop}{w:World}{U:Nat->Prop}{nm:Nat}{σ:Objs}{ty:TypeId->Option TyE}{Γ:Nat->Option FnSpec}
variable{mask:List (Option TypeId)}{es:Nat}{l:List D}{us:List Value}{hole:Option (Nat×Nat)}{src:Nat->Nat->Option Sc}

theorem jj7{j:Nat}(h:(jao mask j).isSome=true):j<mask.length:=Classical.byContradiction fun a=>by
 unfold jao at h;rw[List.getElem?_eq_none (Nat.le_of_not_lt a)]at h;cases h

theorem TabC.row(hC:TabC κ σ F w mask es l us hole src)(h:mask.length<=es){k j:Nat}(v:jbv mask l.length hole k j):∃d c x e' es' rows,l[k]? =some d/\ d.cells[j]? =some c/\ us[k*es+j]? =some x/\ jao mask j=some e'/\ c=.sl es' rows/\ jb7 F w e' es' x rows/\
  ∀b,blk x=some b->∃s,src k j=some s/\ jd6 κ σ s b:=by
 obtain⟨r,i,t⟩:=v;have g:=jaz (d:=D.sc undef) r;have u:j<es:=Nat.lt_of_lt_of_le (jj7 i) h;have f:j<(l.getD k (.sc undef)).cells.length:=by rw[hC.cells k _ g];exact u
 have e:=jaz (d:=D.sc undef) f;obtain⟨x,n,y,a⟩:=hC.cell k _ j _ g e;obtain⟨e',m⟩:=Option.isSome_iff_exists.1 i;rw[m]at a;simp only[]at a;rcases a with a|⟨⟨es',rows,o,p⟩,q⟩
 ·exact absurd a t
 ·exact⟨_,_,x,e',es',rows,g,e,n,m,o,p,q⟩

theorem TabC.src_blk(hC:TabC κ σ F w mask es l us hole src)(a:mask.length<=es){k j b:Nat}(g:jbv mask l.length hole k j)(hb:blk (us.getD (k*es+j) undef)=some b):∃s,src k j=some s/\ jd6 κ σ s b:=by
 obtain⟨d,c,x,e',es',rows,h,i,e,m,n,o,f⟩:=hC.row a g;rw[List.getD_eq_getElem?_getD,e]at hb;exact f b hb

theorem TabC.tab(h:ORel cx κ F w U σ)(hC:TabC κ σ F w mask es l us hole src)(m:0<es)(f:mask.length<=es){w':World}(hF:∀b,F b->w'.heap[b]? =w.heap[b]?)
  (hS:∀k j s b,jbv mask l.length hole k j->src k j=some s->jd6 κ σ s b->w'.heap[b]? =w.heap[b]?) {e:TypeId} {u:Value} (i:Own w' e es u l.length us)
  (inj:∀k j k' j' s,jbv mask l.length hole k j->jbv mask l.length hole k' j'->src k j=some s->src k' j'=some s->(k,j)=(k',j'))
  (g:∀b,blk u=some b->w.heap.size<=b \/∃o,jd6 κ σ (.obj o) b/\ ∀k j,jbv mask l.length hole k j->src k j≠some (.obj o)):
  TabOK F w' e es mask l u (fun k j=>us.getD (k*es+j) undef) hole:=by
 refine TabOK.fresh h m f hC.cells i (fun k d j c q hd=>?_) src (fun k j A b hb=>hC.src_blk f A hb) inj g;obtain⟨x,y,z,a⟩:=hC.cell k d j c q hd;refine⟨x,y,z,?_⟩;cases p:jao mask j with
 |none=>rw[p]at a;exact RD.mono (fun _ hb=>hb) hF a
 |some e'=>
  rw[p]at a;simp only[]at a ⊢;by_cases n:hole=some (k,j)
  ·exact .inl n
  ·rcases a with a|⟨⟨es',rows,r,t⟩,v⟩
   ·exact absurd a n
   ·refine .inr ⟨es',rows,r,jb7.mono (fun _ hb=>hb) hF (fun b hb=>?_) t⟩;obtain⟨s,B,C⟩:=v b hb;exact hS k j s b ⟨(List.getElem?_eq_some_iff.1 q).1,by rw[p];rfl,n⟩ B C

def ownN:AV->Option Nat
 | .own n=>some n
 |_=>none
theorem jfn{x:AV}{n:Nat}(h:ownN x=some n):x=.own n:=by
 cases x with
 |own o=>simp only[ownN,Option.some.injEq]at h;rw[h]
 |_=>cases h
theorem jj4:∀{cs:List AV}{i i' n:Nat},(cs.filterMap ownN).Nodup->cs[i]? =some (.own n)->cs[i']? =some (.own n)->i=i'
 |[],i,i',n,_,h,_=>by simp at h
 |x::cs,i,i',n,hd,h,a=>by
  have mem:∀{q:Nat},cs[q]? =some (AV.own n)->n∈cs.filterMap ownN:=fun d=>List.mem_filterMap.2 ⟨_,List.mem_of_getElem? d,rfl⟩;rw[List.filterMap_cons]at hd;cases i with
  |zero=>
   simp only[List.getElem?_cons_zero,Option.some.injEq]at h;subst h;simp only[ownN,List.nodup_cons]at hd;cases i' with
   |zero=>rfl
   |succ i'=>exact absurd (mem (by simpa using a)) hd.1
  |succ i=>
   cases i' with
   |zero=>
    simp only[List.getElem?_cons_zero,Option.some.injEq]at a;subst a;simp only[ownN,List.nodup_cons]at hd;exact absurd (mem (by simpa using h)) hd.1
   |succ i'=>
    have b:(cs.filterMap ownN).Nodup:=by
     cases c:ownN x with
     |none=>rw[c]at hd;exact hd
     |some m=>rw[c]at hd;exact(List.nodup_cons.1 hd).2
    have:=jj4 (i:=i) (i':=i') (n:=n) b (by simpa using h) (by simpa using a);rw[this]

def jek(ty:TypeId->Option TyE)(σ:Objs)(o g:Nat)(mask:List (Option TypeId))(hole:Option (Nat×Nat))(d:D)(a:List Nat)(j:Nat)(x:AV)(c:D):Prop:=
 match jao mask j with
 |none=>x=.dat c
 |some e'=>(∃n es rows,x=.own n/\ σ n=some (.arr e' es rows)/\ c=.sl es rows) \/(∃k',x=.row o g k' j/\ k'∈a/\ c=d.cells.getD j (.sc undef)/\ jav hole j 1=true) \/
   (x=.dat (.sc (.slice none 0 0))/\ ∃E,ty e'=some E/\ 0<E.size/\ c=.sl E.size []) \/
   (∃k' es lo n,x=.vw o g k' j es lo n/\ k'∈a/\ c=.sl es (((rowD d j).2.take (lo+n)).drop lo)/\ jav hole j 1=true/\ (rowD d j).1=es)

theorem jek.mono{o g:Nat}{d:D}{m a:List Nat}{j:Nat}{x:AV}{c:D}(hs:∀k∈m,k∈a)(h:jek ty σ o g mask hole d m j x c):jek ty σ o g mask hole d a j x c:=by
 unfold jek at*
 split
 ·rename_i i;rw[i]at h;exact h
 ·rename_i e' i;rw[i]at h;rcases h with h|⟨k',b,e,f⟩|h|⟨k',es,lo,n,b,e,f⟩
  ·exact .inl h
  ·exact .inr (.inl ⟨k',b,hs _ e,f⟩)
  ·exact .inr (.inr (.inl h))
  ·exact .inr (.inr (.inr ⟨k',es,lo,n,b,hs _ e,f⟩))

theorem jc8{o g:Nat}{d:D}:∀{cs:List AV}{j:Nat}{ds:List D}{ns b:List Nat},jev ty σ o g mask hole d j cs=some (ds,ns,b)->ds.length=cs.length/\ ns=cs.filterMap ownN/\
  ∀(i:Nat)(x:AV),cs[i]? =some x->∃c,ds[i]? =some c/\ jek ty σ o g mask hole d b (j+i) x c
 |[],j,ds,ns,b,h=>by
  simp only[jev,Option.some.injEq,Prod.mk.injEq]at h;obtain⟨rfl,rfl,rfl⟩:=h;exact⟨rfl,rfl,by simp⟩
 |x::cs,j,ds,ns,b,h=>by
  unfold jev at h;split at h
  ·cases h
  ·rename_i r v u G;obtain⟨L,M,N⟩:=jc8 G;have a:∀(c:D)(m:List Nat)(q:List Nat),(ds=c::r/\ ns=m++v/\ b=q++u)->(x::cs).filterMap ownN=m++cs.filterMap ownN->jek ty σ o g mask hole d b j x c->
     ds.length=(x::cs).length/\ ns=(x::cs).filterMap ownN/\ ∀(i:Nat)(y:AV),(x::cs)[i]? =some y->∃c,ds[i]? =some c/\ jek ty σ o g mask hole d b (j+i) y c:=by
    rintro c m q ⟨rfl,rfl,rfl⟩ H K;refine⟨by simp[L],by rw[H,M],fun i y hi=>?_⟩;cases i with
    |zero=>
     simp only[List.getElem?_cons_zero,Option.some.injEq]at hi;subst hi;exact⟨c,by simp,K⟩
    |succ i=>
     obtain⟨z,B,C⟩:=N i y (by simpa using hi);refine⟨z,by simpa using B,?_⟩;rw[show j+(i+1)=j+1+i from by omega];exact C.mono fun k I=>List.mem_append_right _ I
   split at h
   ·rename_i e;split at h
    ·rename_i d';simp only[Option.some.injEq,Prod.mk.injEq]at h;obtain⟨rfl,rfl,rfl⟩:=h;exact a d' [] [] ⟨rfl,rfl,rfl⟩ rfl (by unfold jek;rw[e])
    ·cases h
   ·rename_i e' e;split at h
    ·rename_i n;split at h
     ·rename_i O f rows J;split at h
      ·rename_i s;subst s;simp only[Option.some.injEq,Prod.mk.injEq]at h;obtain⟨rfl,rfl,rfl⟩:=h;exact a (.sl f rows) [n] [] ⟨rfl,rfl,rfl⟩ rfl (by unfold jek;rw[e];exact .inl ⟨n,f,rows,rfl,J,rfl⟩)
      ·cases h
     ·cases h
    ·rename_i o' A k' j';split at h
     ·rename_i hc;obtain⟨rfl,rfl,rfl,t⟩:=hc;simp only[Option.some.injEq,Prod.mk.injEq]at h;obtain⟨rfl,rfl,rfl⟩:=h;exact a _ [] [k'] ⟨rfl,rfl,rfl⟩ rfl (by unfold jek;rw[e];exact .inr (.inl ⟨k',rfl,by simp,rfl,t⟩))
     ·cases h
    ·rename_i o' A k' j' es' lo n;split at h
     ·rename_i hc;obtain⟨rfl,rfl,rfl,t,s⟩:=hc;simp only[Option.some.injEq,Prod.mk.injEq]at h;obtain⟨rfl,rfl,rfl⟩:=h;exact a _ [] [k'] ⟨rfl,rfl,rfl⟩ rfl (by unfold jek;rw[e];exact .inr (.inr (.inr ⟨k',_,lo,n,rfl,by simp,rfl,t,s⟩)))
     ·cases h
    ·split at h
     ·rename_i E hE;split at h
      ·rename_i p;simp only[Option.some.injEq,Prod.mk.injEq]at h;obtain⟨rfl,rfl,rfl⟩:=h;exact a _ [] [] ⟨rfl,rfl,rfl⟩ rfl (by unfold jek;rw[e];exact .inr (.inr (.inl ⟨rfl,E,hE,p,rfl⟩)))
      ·cases h
     ·cases h
    ·cases h

theorem jgw(h:ORel cx κ F w U σ){o g k:Nat}{d:D}{W:List Nat}{j:Nat}{x:AV}{c:D}{u:Value}(K:jek ty σ o g mask hole d W j x c)
  (p:W=[] \/∃e es l,σ o=some (.tab e es mask l g hole)/\ d=l.getD k (.sc undef)/\ k<l.length/\ ∀k'∈W,k'=k) (s:RV κ F w x u):
  match jao mask j with
  |none=>RD F w c u
  |some e'=>(∃es' rows,c=.sl es' rows/\ jb7 F w e' es' u rows)/\ ∀b,blk u=some b->jd6 κ σ (match ownN x with|some n=>.obj n|none=>.row o k j) b:=by
 unfold jek at K;split at K
 ·subst K;unfold RV at s;exact s
 ·rename_i e' J;rcases K with⟨n,es',rows,rfl,Z,rfl⟩|⟨k',rfl,q,rfl,O⟩|⟨rfl,E,hE,G,rfl⟩|⟨k',es',lo,n,rfl,q,rfl,O,N⟩
  ·unfold RV at s;have:=h.ok n _ Z;refine⟨⟨es',rows,rfl,?_⟩,fun b hb=>?_⟩
   ·rw[s.1];exact this
   ·simp only[ownN];exact⟨_,Z,by rw[<-s.1];exact hb⟩
  ·rcases p with p|⟨e,es,l,t,rfl,Q,A⟩
   ·rw[p]at q;cases q
   ·have:=A k' q;subst this;unfold RV at s;have V:TabOK F w e es mask l (κ o).v (κ g).r hole:=h.ok o _ t;have H:jbv mask l.length hole k' j:=⟨Q,by rw[J];rfl,by simpa using jdv (k:=k') (i:=0) O (by omega)⟩;obtain⟨d',e2,y,f,L,B,M,I⟩:=V.row H;rw[J]at B;cases B;have hd:l.getD k' (.sc undef)=d':=by rw[List.getD_eq_getElem?_getD,L];rfl
    refine⟨⟨y,f,?_,?_⟩,fun b hb=>?_⟩
    ·rw[hd,List.getD_eq_getElem?_getD,M];rfl
    ·rw[s.1];exact I
    ·simp only[ownN];exact⟨e,es,mask,l,g,hole,t,H,by rw[<-s.1];exact hb⟩
  ·unfold RV RD at s;rw[s.1];exact⟨⟨E.size,[],rfl,[],Own.nil w e' E.size,by unfold RE;rfl,G⟩,fun b hb=>by simp[blk]at hb⟩
  ·rcases p with p|⟨e,es,l,t,rfl,Q,A⟩
   ·rw[p]at q;cases q
   ·have:=A k' q;subst this;unfold RV at s;obtain⟨a,m,aa,z,ab,R,ac,hv⟩:=s;have V:TabOK F w e es mask l (κ o).v (κ g).r hole:=h.ok o _ t;have H:jbv mask l.length hole k' j:=⟨Q,by rw[J];rfl,by simpa using jdv (k:=k') (i:=0) O (by omega)⟩;obtain⟨d',e2,y,f,L,B,M,us,I,g5,g6⟩:=V.row H;rw[J]at B;cases B;have hd:l.getD k' (.sc undef)=d':=by rw[List.getD_eq_getElem?_getD,L];rfl
    have T:rowD (l.getD k' (.sc undef)) j=(y,f):=by unfold rowD;rw[hd,List.getD_eq_getElem?_getD,M];rfl
    rw[T]at N ⊢;simp only[]at N ⊢;subst N;have S:m=f.length:=by
     rcases I.2 with⟨q1,q2⟩|⟨_,_,_,_,q1,_⟩
     ·rw[z]at q1;simp only[Value.slice.injEq]at q1;omega
     ·rw[z]at q1;simp only[Value.slice.injEq]at q1;omega
    subst S;obtain⟨X,Y⟩:=I.cut z (Nat.le_add_right lo n) R;rw[Nat.add_sub_cancel_left]at X Y;have C:((f.take (lo+n)).drop lo).length=n:=by rw[List.length_drop,List.length_take];omega
    refine⟨⟨y,_,rfl,_,by rw[C,hv];exact X,?_,g6⟩,fun b hb=>?_⟩
    ·exact(g5.take (lo+n)).drop lo
    ·simp only[ownN];refine⟨e,es,mask,l,g,hole,t,H,?_⟩;rw[<-hb,hv,<-jbu _ ⟨_,_,_,z⟩,<-jbu _ ⟨_,_,_,rfl⟩];exact Y.symm

end
end Go.Ab
