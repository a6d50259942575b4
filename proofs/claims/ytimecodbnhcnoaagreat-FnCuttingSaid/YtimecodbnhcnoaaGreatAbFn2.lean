/- My own layer, thirteenth part: the contract from the triple. -/
import Derived.Test.YtimecodbnhcnoaaGreatAbFn
namespace Go.Ab
set_option linter.unusedVariables false
set_option linter.unusedSimpArgs false
section
variable{P:Program}{J:Inv}{cx:Cx}{κ:Kap}{F:Nat->Prop}{w:World}{U:Nat->Prop}{nm:Nat}{σ:Objs}{ty:TypeId->Option TyE}{Γ:Nat->Option FnSpec}

theorem RVs.getD:∀{l:List AV}{us:List Value},RVs κ F w l us->us.length=l.length/\ ∀t,t<l.length->RV κ F w (l.getD t .und) (us.getD t undef)
 |[],us,h=>by unfold RVs at h;subst h;simp
 |x::l,us,h=>by
  unfold RVs at h;obtain⟨u,f,rfl,c,d⟩:=h;obtain⟨a,b⟩:=RVs.getD d;refine⟨by simp[a],fun t e=>?_⟩;cases t with
  |zero=>simpa using c
  |succ t=>simpa using b t (by simpa using e)

mutual
theorem jvc:∀(p:Pt)(d:D)(k:Nat),NB (· <k+p.n) (ptAV p d k)
 | .rd,d,k=>by unfold ptAV NB;trivial
 | .zr,d,k=>by unfold ptAV NB;trivial
 | .sl,d,k=>by unfold ptAV NB Pt.n;omega
 | .bx,d,k=>by unfold ptAV NB Pt.n;omega
 | .bo m,d,k=>by unfold ptAV NB Pt.n;omega
 | .ag l,.agg ds,k=>by unfold ptAV NB Pt.n;exact jhx l ds k
 | .ag l,.sc _,k=>by unfold ptAV NB;trivial
 | .ag l,.sl _ _,k=>by unfold ptAV NB;trivial
 | .fn f l,.agg ds,k=>by unfold ptAV NB Pt.n;exact jhx l ds k
 | .fn f l,.sc _,k=>by unfold ptAV NB;trivial
 | .fn f l,.sl _ _,k=>by unfold ptAV NB;trivial
theorem jhx:∀(ls:List Pt)(ds:List D)(k:Nat),NBs (· <k+Pt.ns ls) (ja1 ls ds k)
 |[],ds,k=>by unfold ja1 NBs;trivial
 |p::ls,d::ds,k=>by
  unfold ja1 NBs Pt.ns;exact⟨NB.mono (fun o a=>by omega) (jvc p d k),NBs.mono (fun o a=>by omega) (jhx ls ds (k+p.n))⟩
 |p::ls,[],k=>by
  unfold ja1 NBs Pt.ns;exact⟨by unfold NB;trivial,NBs.mono (fun o a=>by omega) (jhx ls [] k)⟩
end

theorem NBs.getD{l:List AV}(h:NBs U l)(t:Nat):NB U (l.getD t .und):=by
 rw[List.getD_eq_getElem?_getD];cases a:l[t]? with
 |none=>simp only[Option.getD_none];unfold NB;trivial
 |some x=>exact NBs.at t x h a

theorem jtu(aM:∀t x,ty t=some x->TyOK P t x){f:Nat}{fn:Func}{c:Code}(S:FnSpec)(N:Nat)(hc:∀args w,(callFunc f args).run P w=.ok (.enter f args) w)(hf:P.funcs[f]? =some fn)(hb:fn.body=some c)
  (hN:Pt.ns S.lend<=N) (K:Nat) (rs:List ResultVar) (aL:fn.results.toList=rs) (n:Nat) (T:fn.ntmps=n) (aw:∀ds obs,S.pre ds obs->obs.length<=N/\ K<=obs.length)
  (h:∀ds obs cx,S.pre ds obs->cx.L=K->cx.J=J->Ok P cx c (Fin ty rs K (S.post ds obs)) ⟨ja1 S.lend ds 0++List.replicate (n-(ja1 S.lend ds 0).length) .und,jhr obs,N⟩):FnOK P J f S:=by
 refine⟨hc,fun vs w F ds obs κ ad ah hF hJ R=>?_⟩;refine calls_of_wp hf hb ?_;subst T
 let cx:Cx:=⟨fun b=>b<w.heap.size/\ ¬Lent κ obs b,fun b=>F b \/w.heap.size<=b \/Lent κ obs b,w.heap.size,K,κ,J⟩
 have aN:RVs κ F w (ja1 S.lend ds 0) vs:=ah;obtain⟨aB,aC⟩:=aN.getD;have Y:∀j x,obs[j]? =some x->∀b,Blk κ j (x.regen j) b->Lent κ obs b:=fun j x d b hb=>⟨j,x,d,hb⟩;obtain⟨aK,aJ⟩:=aw ds obs ad;have hlo:∀o x,jhr obs o=some x->∃y,obs[o]? =some y/\ x=y.regen o:=fun o x G=>by
  obtain⟨y,B,rfl⟩:=Option.map_eq_some_iff.1 G;exact⟨y,B,rfl⟩
 have aj:ORel cx κ F w (· <N) (jhr obs):=by
  refine⟨fun o x G=>?_,fun o x G=>?_,fun o x G b hb=>?_,fun o x o' x' G aP Z b hb=>?_,fun b hb=>⟨.inl hb,hF b hb⟩,fun b hb=>hb.1,fun b hb=>.inr (.inl hb),Nat.le_refl _,hJ,fun j d=>⟨Nat.lt_of_lt_of_le (Nat.lt_of_lt_of_le d aJ) aK,rfl⟩⟩
  ·obtain⟨y,B,rfl⟩:=hlo o x G;exact(R.ok o y B).1
  ·obtain⟨y,B,rfl⟩:=hlo o x G;have p:o<N:=by have:=(List.getElem?_eq_some_iff.1 B).1;omega
   exact⟨p,NBl.nbo0 (U:=(· <N)) p (fun j d=>by show j<N;omega) (R.ok o y B).2⟩
  ·obtain⟨y,B,rfl⟩:=hlo o x G;have I:=R.blk o y B b hb;exact⟨I.2,fun hK=>hK.2 (Y o y B b hb),.inr (.inr (Y o y B b hb))⟩
  ·obtain⟨y,B,rfl⟩:=hlo o x G;obtain⟨y',aQ,rfl⟩:=hlo o' x' aP;exact R.apart o y o' y' B aQ Z b hb
 have az:Rel cx κ F ⟨ja1 S.lend ds 0++List.replicate (fn.ntmps-(ja1 S.lend ds 0).length) .und,jhr obs,N⟩ {tmps:=vs.toArray++Array.replicate (fn.ntmps-vs.toArray.size) undef,defers:=[]} w:=by
  refine⟨⟨?_,rfl,fun t=>?_,fun t=>?_⟩,aj⟩
  ·simp[aB]
  ·have e1:(vs.toArray++Array.replicate (fn.ntmps-vs.toArray.size) undef).getD t undef=(vs++List.replicate (fn.ntmps-vs.length) undef).getD t undef:=by
    rw[Array.getD_eq_getD_getElem?,List.getD_eq_getElem?_getD,<-Array.getElem?_toList];simp
   rw[e1];by_cases ht:t<vs.length
   ·have e2:(vs++List.replicate (fn.ntmps-vs.length) undef).getD t undef=vs.getD t undef:=by
     rw[List.getD_eq_getElem?_getD,List.getElem?_append_left ht,<-List.getD_eq_getElem?_getD]
    have e3:(ja1 S.lend ds 0++List.replicate (fn.ntmps-(ja1 S.lend ds 0).length) AV.und).getD t .und=(ja1 S.lend ds 0).getD t .und:=by
     rw[List.getD_eq_getElem?_getD,List.getElem?_append_left (by omega),<-List.getD_eq_getElem?_getD]
    rw[e2,e3];exact aC t (by omega)
   ·have e2:(vs++List.replicate (fn.ntmps-vs.length) undef).getD t undef=undef:=by
     rw[List.getD_eq_getElem?_getD,List.getElem?_append_right (by omega),List.getElem?_replicate];split<;>rfl
    have e3:(ja1 S.lend ds 0++List.replicate (fn.ntmps-(ja1 S.lend ds 0).length) AV.und).getD t .und=.und:=by
     rw[List.getD_eq_getElem?_getD,List.getElem?_append_right (by omega),List.getElem?_replicate];split<;>rfl
    rw[e2,e3];unfold RV;rfl
  ·rw[List.getD_eq_getElem?_getD];by_cases ht:t<(ja1 S.lend ds 0).length
   ·rw[List.getElem?_append_left ht,<-List.getD_eq_getElem?_getD];exact NBs.getD (NBs.mono (fun o V=>by simp only at V ⊢;omega) (jhx S.lend ds 0)) t
   ·rw[List.getElem?_append_right (by omega),List.getElem?_replicate];split<;>(simp only[Option.getD_some,Option.getD_none];unfold NB;trivial)
 refine wp_mono (h ds obs cx ad rfl rfl κ F _ w az) ?_;rintro e a' w' ⟨κ',F',k,⟨A,v,r,ns,new,obs',aA,ac,ak,au,ai,aF,aH,aE,ar⟩,am,aO,q⟩;obtain⟨aI,aG⟩:=jdb au;obtain⟨ay,ax⟩:=jga ai;rw[List.length_range]at ay;obtain⟨u,af,hu⟩:=jtg aM (show RelU cx κ' F' (· <k.nx) k.env k.ob a' w' from⟨q.env,q.orel⟩) aL aA;have a:=q.orel;have ao:∀j,j<K->(κ' j).v=(κ j).v:=fun j d=>(a.lt j d).2;have E:∀(j:Nat)(x:Obj'),obs'[j]? =some x->∃y,j<K/\ k.ob j=some y/\ x=(y.ren (ixN (List.range K++ns))).regen 0:=fun j x d=>by
  have p:=(List.getElem?_eq_some_iff.1 d).1;have I:(List.range K)[j]? =some j:=by rw[List.getElem?_range (by omega)]
  obtain⟨y,B,g⟩:=ax j j I;rw[d]at B;cases B;exact⟨y,by omega,g,rfl⟩
 have D:∀(j:Nat)(x:Obj'),new[j]? =some x->∃n y,ns[j]? =some n/\ k.ob n=some y/\ x=(y.ren (ixN ns)).regen 0:=fun j x d=>by
  have p:=(List.getElem?_eq_some_iff.1 d).1;have I:ns[j]? =some (ns[j]'(by omega)):=List.getElem?_eq_getElem (by omega);obtain⟨y,B,g⟩:=aG j _ I;rw[d]at B;cases B;exact⟨_,y,I,g,rfl⟩
 have aD:∀j,j<K->∃x,k.ob j=some x:=fun j d=>by
  obtain⟨y,_,g⟩:=ax j j (by rw[List.getElem?_range d]);exact⟨y,g⟩
 have X:∀o x,k.ob o=some x->∀b,Blk κ' o x b->Lent κ obs b \/w.heap.size<=b:=by
  intro o x G b hb;obtain⟨I,h2,h3⟩:=a.free o x G b hb;rcases h3 with h3|h3|h3
  ·exact absurd (am b h3) I
  ·exact .inr h3
  ·exact .inl h3
 let F2:Nat->Prop:=fun b=>F' b \/∃o es l x,k.ob o=some x/\ x.sl=some (es,l)/\ o∉ns/\ K<=o/\ Blk κ' o x b
 let κ2:Kap:=fun j=>tk κ' k.ob (ns.getD j 0)
 have C:∀(j o:Nat),ns[j]? =some o->κ2 j=tk κ' k.ob o:=fun j o d=>by
  show tk κ' k.ob (ns.getD j 0)=tk κ' k.ob o;rw[List.getD_eq_getElem?_getD,d];rfl
 let κl:Kap:=fun j=>if j<K then tk κ' k.ob j else κ2 (j-K)
 have O:∀j,j<K->κl j=tk κ' k.ob j:=fun j d=>if_pos d;have ap:∀j,K<=j->κl j=κ2 (j-K):=fun j d=>if_neg (by omega);have ae:Ret S ds obs κ F w u w' r new obs' κ2 κl F2:=by
  refine⟨ak,fun b hb=>.inl (am b hb),fun b hb=>?_,fun b hb=>?_,aO.mono (fun b hb=>.inr hb),?_,?_,fun i x j y hi d b hb s=>?_,?_,?_,fun i _=>by rw[ay,ap _ (by omega),Nat.add_sub_cancel_left],fun j d=>?_⟩
  ·rcases hb with hb|⟨o,es,l,x,V,ab,W,aa,Q⟩
   ·rcases(a.fG b hb).1 with h3|h3|h3
    ·exact .inl h3
    ·exact .inr (.inr h3)
    ·exact .inr (.inl h3)
   ·exact .inr (X o _ V b Q)
  ·rcases hb with hb|⟨o,es,l,x,V,ab,W,aa,Q⟩
   ·exact(a.fG b hb).2
   ·exact jcx a V Q
  ·exact Exp.rv a (fun b hb=>.inl hb) (fun o es l x V ab W aa b hb=>.inr ⟨o,es,l,x,V,ab,W,aa,hb⟩) (fun j o d=>by rw[C j o d,tk_v]) ac hu
  ·have:=Exp.nb ac
   rwa [<-aI]at this
  ·obtain⟨y',p,g,rfl⟩:=E i x hi;obtain⟨n,z,T,H,rfl⟩:=D j y d;have hb:=hb.named g (O i p);have s:=s.named H (C j n T);have aR:=aH n (List.mem_of_getElem? T);exact a.apart i y' n z g H (by omega) b hb s
  ·refine⟨fun j x d=>?_,fun j x d b hb=>?_,fun i x j y hi d Z b hb s=>?_⟩
   ·obtain⟨n,y,T,g,rfl⟩:=D j x d;have G:=aE _ (List.mem_of_getElem? d);exact⟨jcb.named g G (C j n T) (fun o V=>by rw[C _ o (jlh (by omega)),tk_v]) (fun b hb=>.inl hb) (a.ok n y g),G⟩
   ·obtain⟨n,y,T,g,rfl⟩:=D j x d;have hb:=hb.named g (C j n T);refine⟨X n y g b hb,fun M=>?_⟩;rcases M with M|⟨o,es,l,z,V,ab,W,aa,Q⟩
    ·exact(a.free n y g b hb).1 M
    ·exact a.apart n y o _ g V (fun e2=>W (e2▸List.mem_of_getElem? T)) b hb Q
   ·obtain⟨n,x',T,g,rfl⟩:=D i x hi;obtain⟨m,y',hm,H,rfl⟩:=D j y d;have hb:=hb.named g (C i n T);have s:=s.named H (C j m hm);refine a.apart n x' m y' g H (fun e2=>Z ?_) b hb s;have I:=(List.getElem?_eq_some_iff.1 T).1;have h2:=(List.getElem?_eq_some_iff.1 hm).1;exact(List.getElem_inj (h₀:=I) (h₁:=h2) aF).1 (by rw[(List.getElem?_eq_some_iff.1 T).2,(List.getElem?_eq_some_iff.1 hm).2];exact e2)
  ·refine⟨fun j x d=>?_,fun j x d b hb=>?_,fun i x j y hi d Z b hb s=>?_⟩
   ·obtain⟨y,p,g,rfl⟩:=E j x d;have G:=ar _ (List.mem_of_getElem? d);exact⟨jcb.named g G (O j p) (fun o V=>by
     have I:=jlh (ns:=List.range K++ns) (o:=o) (by rw[List.length_append,List.length_range];omega);rcases Nat.lt_or_ge (ixN (List.range K++ns) o) K with hlo|hlo
     ·rw[List.getElem?_append_left (by rw[List.length_range];exact hlo),List.getElem?_range hlo]at I;rw[O _ hlo,Option.some.inj I,tk_v]
     ·rw[List.getElem?_append_right (by rw[List.length_range];exact hlo),List.length_range]at I;rw[ap _ hlo,C _ o I,tk_v]) (fun b hb=>.inl hb) (a.ok j y g),G⟩
   ·obtain⟨y,p,g,rfl⟩:=E j x d;have hb:=hb.named g (O j p);refine⟨X j y g b hb,fun M=>?_⟩;rcases M with M|⟨o,es,l,z,V,ab,W,aa,Q⟩
    ·exact(a.free j y g b hb).1 M
    ·exact a.apart j y o _ g V (by omega) b hb Q
   ·obtain⟨x',p,g,rfl⟩:=E i x hi;obtain⟨y',aq,H,rfl⟩:=E j y d;exact a.apart i x' j y' g H Z b (hb.named g (O i p)) (s.named H (O j aq))
  ·rw[O j (by omega),tk_v,ao j (by omega)]
 cases e with
 |normal=>exact⟨q.env.dfr,u,af,u,rfl,r,new,obs',κ2,κl,F2,ae⟩
 |ret=>exact⟨q.env.dfr,u,af,u,rfl,r,new,obs',κ2,κl,F2,ae⟩
 |exit id=>exact A.elim
 |goto l=>exact A.elim
 |panic ch=>exact A.elim
 |outgrown=>exact A.elim

end
end Go.Ab
