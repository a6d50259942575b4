/- My own layer, eighteenth part: a region that draws its order is walked once, in the text's order. -/
import Derived.Test.YtimecodbnhcnoaaGreatAbDraw3
namespace Go.Ab
set_option linter.unusedVariables false
set_option linter.unusedSimpArgs false
section
variable{P:Program}{cx:Cx}{κ:Kap}{F:Nat->Prop}{w:World}{nm:Nat}{σ:Objs}{ty:TypeId->Option TyE}{Γ:Nat->Option FnSpec}{ops:Array Oper}{M:Nat->List Nat}{base:Nat}

theorem Spec.T_mono{K a:AV->jbd->Prop}(h:∀av δ,K av δ->a av δ){s:Spec}(hs:s.T K):s.T a:=by
 rw[Spec.T_iff]at*
 exact⟨hs.1,fun av δ b=>h _ _ (hs.2 av δ b)⟩

theorem jr6{i:Nat}{o:Oper}{env:List AV}{a:Option Tmp}{v:AV}(h:∀d,a=some d->d∉o.looksAt ops)(b:OkM ty Γ ops M i o (putA env a v) σ):OkM ty Γ ops M i o env σ:=by
 unfold OkM at*
 simp only[jk8 h,jlf h,jlg h,jqj h]at b;exact b

theorem jo4{i j:Nat}{o r:Oper}{env:List AV}{f:Array Bool}(hi:ops[i]? =some o)(V:ops[j]? =some r)(s:i≠j)(H:jea ops i j=false/\ jea ops j i=false)
  (k:jiv ty Γ M ops i=true) (z:f.getD i false=false) (A:f.getD j false=false) (hN:NBE (Ul base f) env σ) (L:OkM ty Γ ops M i o env σ) (N:OkM ty Γ ops M j r env σ) {av u:AV} {δ ε:jbd}
  (X:(jb1 ty Γ ops σ env (base+16*i) o).pre) (hR:(jb1 ty Γ ops σ env (base+16*i) o).R av δ) (O:(jb1 ty Γ ops σ env (base+16*j) r).pre) (G:(jb1 ty Γ ops σ env (base+16*j) r).R u ε)
  (Y:Tame (Ul base f) (base+16*i) (fun n=>mutB ty Γ o=true/\ n∈jbt σ (jau env) o) av δ)
  (E:Tame (Ul base f) (base+16*j) (fun n=>mutB ty Γ r=true/\ n∈jbt σ (jau env) r) u ε):app δ (app ε σ)=app ε (app δ σ):=by
 funext n;by_cases hd:∃p∈δ,p.1=n
 ·by_cases S:∃q∈ε,q.1=n
  ·have hs:app δ σ n=σ n/\ app ε σ n=σ n:=by
    obtain⟨p,Q,rfl⟩:=hd;obtain⟨q,D,heq⟩:=S;rcases Y.key p Q with U|⟨K,t⟩
    ·exfalso;rcases E.key q D with m|⟨l,g⟩
     ·have a:=U.1;have b:=U.2;have c:=m.1;have d:=m.2
      omega
     ·exact jdj z U (heq▸jeq hN r q.1 g)
    ·rcases E.key q D with m|⟨l,g⟩
     ·exact absurd (jeq hN o p.1 t) (jdj A (heq▸m))
     ·rw[heq]at g;have hU:=jeq hN o p.1 t;have fi:¬Rng (base+16*i) p.1:=fun h=>jdj z h hU;have W:¬Rng (base+16*j) p.1:=fun h=>jdj A h hU;rcases jj5 L K t with v|⟨I,B⟩<;>rcases jj5 N l g with x|⟨J,C⟩
      ·exfalso;unfold jiv at k;rw[hi]at k;simp only[Option.any_some,K,Bool.not_true,Bool.false_or]at k;have:=jks (Γ:=Γ) V l (jqc x v) (Ne.symm s) H.1;rw[this]at k;cases k
      ·exact absurd v (C i o hi K s H.2)
      ·exact absurd x (B j r V l (Ne.symm s) H.1)
      ·exact⟨jkb X hR I fi,jkb O G J W⟩
   rw[jg3 δ _ σ n (.inl hd),jg3 ε _ σ n (.inl S),hs.1,hs.2]
  ·have T:∀q∈ε,q.1≠n:=fun q h e=>S ⟨q,h,e⟩;rw[jly ε _ _ T];exact jg3 δ _ _ _ (.inl hd)
 ·have y:∀p∈δ,p.1≠n:=fun p h e=>hd ⟨p,h,e⟩;rw[jly δ _ _ y];exact jg3 ε _ _ _ (.inr (jly δ _ _ y).symm)

theorem jbb{a:Array Bool}{i:Nat}(h:a.getD i true=false):a.getD i false=false:=by
 rw[Array.getD_eq_getD_getElem?]at*
 cases c:a[i]? with
 |none=>rfl
 |some b=>rw[c]at h;simpa using h

theorem jdk{a:Array Bool}{i:Nat}(h:a.getD i true=false):i<a.size:=by
 rw[Array.getD_eq_getD_getElem?]at h;rcases Nat.lt_or_ge i a.size with h'|h'
 ·exact h'
 ·rw[Array.getElem?_eq_none h']at h;simp at h

theorem joy(hl:Live Γ)(J:∀k,jiv ty Γ M ops k=true){K:List AV->Objs->Prop}{i:Nat}{G:Oper}(hi:ops[i]? =some G):
  ∀(c:Nat)(a:Array Bool)(env:List AV)(σ:Objs),
   (∀j v,ops[j]? =some v->j≠i->a.getD j true=false->(∀e∈v.after,Region.binds .any e=true->e.on≠i)->G.apart ops v=true)->
   jfe ops a->i∈Region.ready .any ops a->TA ty Γ ops M base i env σ (anyA ty Γ ops M base K c (a.setIfInBounds i true))->anyA ty Γ ops M base K (c+1) a env σ:=by
 intro c
 induction c with
 |zero=>
  intro a env σ _ I C H;intro hN;refine⟨fun h=>(by rw[h]at C;cases C),fun j hj=>?_⟩;by_cases b:j=i
  ·subst b;exact H
  ·exfalso;unfold TA at H;simp only[hi]at H;obtain⟨hp,hK⟩:=Spec.T_iff.1 H.2;obtain⟨⟨av,δ,hR⟩,ht⟩:=jo7 (nm:=base+16*i) (ty:=ty) (ops:=ops) hl hN (o:=G) hp;have hs:=jdk (mem_ready.1 C).1;have p:=hK av δ hR (by rw[<-jo3 (base:=base) hs];exact hN.put (ht av δ hR));have:=ready_mono hj b;rw[p.1]at this;cases this
 |succ c ih=>
  intro a env σ u I C H;intro hN;refine⟨fun h=>(by rw[h]at C;cases C),fun j hj=>?_⟩;by_cases b:j=i
  ·subst b;exact H
  obtain⟨f,v,l,s⟩:=mem_ready.1 hj;have m:=(mem_ready.1 C).1;obtain⟨_,am,E,t⟩:=mem_ready.1 C;rw[hi]at E;cases E;have X:∀e∈v.after,Region.binds .any e=true->e.on≠i:=fun e S hb heq=>by
   have p:=s e S hb;rw[heq,jbb m]at p;cases p
  have ai:∀e∈G.after,Region.binds .any e=true->e.on≠j:=fun e S hb heq=>by
   have p:=t e S hb;rw[heq,jbb f]at p;cases p
  have z:jea ops i j=false/\ jea ops j i=false:=jou I hi l (jbb m) (jbb f) s t;obtain⟨a1,a2,a3⟩:=Oper.apart_spec (u j v l b f X);have aj:=jdk m;have ak:=jdk f;have U:=jbb m;have V:=jbb f;have H0:=H;unfold TA at H0;simp only[hi]at H0;obtain⟨x,ae⟩:=H0;obtain⟨A,ab⟩:=Spec.T_iff.1 ae;obtain⟨⟨aa,δ0,ad⟩,O⟩:=jo7 (nm:=base+16*i) (ty:=ty) (ops:=ops) hl hN (o:=G) A;have g:∀av δ,(jb1 ty Γ ops σ env (base+16*i) G).R av δ->OkM ty Γ ops M j v env σ/\
    (jb1 ty Γ ops σ env (base+16*j) v).T fun n δ'=>anyA ty Γ ops M base K c ((a.setIfInBounds i true).setIfInBounds j true) (putA (putA env G.dst av) v.dst n) (app δ' (app δ σ)):=by
   intro av δ hR;have ac:NBE (Ul base (a.setIfInBounds i true)) (putA env G.dst av) (app δ σ):=by rw[<-jo3 (base:=base) aj];exact hN.put (O av δ hR)
   have p:=(ab av δ hR ac).2 j (ready_mono hj b);unfold TA at p;simp only[l]at p;obtain⟨q,y⟩:=p;have D:=jr6 a1 q;obtain⟨N,L⟩:=jul (nmj:=base+16*j) hi l (Ne.symm b) z (J i) U rfl hN x (.inl D) A hR (O av δ hR);refine⟨N.1 D,?_⟩;rw[jln a1,L]at y;exact y
  obtain⟨q,Q⟩:=g aa δ0 ad;obtain⟨B,_⟩:=Spec.T_iff.1 Q;obtain⟨_,Y⟩:=jo7 (nm:=base+16*j) (ty:=ty) (ops:=ops) hl hN (o:=v) B;unfold TA;simp only[l];refine⟨q,Spec.T_iff.2 ⟨B,fun n δ' r=>?_⟩⟩;refine ih (a.setIfInBounds j true) _ _ ?_ (jjd I fun o ho e S hb=>by rw[l]at ho;cases ho;exact s e S hb) (ready_mono C (Ne.symm b)) ?_
  ·intro k ok hk af Z ah;refine u k ok hk af ?_ ah;by_cases W:j=k
   ·subst W;exact f
   ·rw[getD_set_ne true W]at Z;exact Z
  ·unfold TA;simp only[hi];obtain⟨N,L⟩:=jul (nmj:=base+16*i) l hi b ⟨z.2,z.1⟩ (J j) V rfl hN q (.inr x) B r (Y n δ' r);refine⟨jtm a3 (N.2 x),?_⟩;rw[jln a3,L];refine Spec.T_iff.2 ⟨A,fun av δ hR=>?_⟩;obtain⟨_,y⟩:=g av δ hR;have:=(Spec.T_iff.1 y).2 n δ' r;rw[Array.setIfInBounds_comm _ _ b,jpz env n av (fun d hd h=>a2 d h hd),jo4 hi l (Ne.symm b) z (J i) U V hN x q A hR B r (O av δ hR) (Y n δ' r)];exact this

theorem jn3(m:Live Γ)(d:∀k,jiv ty Γ M ops k=true){K:List AV->Objs->Nat->Prop}:∀(l:List Oper)(k:Nat)(a:Array Bool)(env:List AV)(σ:Objs),(∀j,l[j]? =ops[k+j]?)->k+l.length=ops.size->
  jfe ops a->Region.lexFrom .any ops l.length k a=true->runD ty Γ ops M K l k (base+16*k) env σ->anyA ty Γ ops M base (fun env σ=>K env σ (base+16*ops.size)) l.length a env σ
 |[],k,a,env,σ,_,g,b,hB,h=>fun _=>⟨by simpa[Region.lexFrom]using hB,by simp at g;subst g;exact h⟩
 |o::l,k,a,env,σ,f,g,b,hB,h=>by
  have h0:ops[k]? =some o:=by simpa using(f 0).symm
  simp only[List.length_cons,Region.lexFrom,Bool.and_eq_true]at hB;obtain⟨⟨p,s⟩,i⟩:=hB;refine joy m d h0 l.length a env σ (Region.free_spec h0 s) b (by simpa using p) ?_;unfold TA;simp only[h0];refine⟨h.1,Spec.T_mono (fun av δ hK=>?_) h.2⟩;exact jn3 m d l (k+1) _ _ _ (fun j=>by have:=f (j+1);simpa[Nat.add_assoc,Nat.add_comm 1 j]using this) (by simp only[List.length_cons]at g;omega) (jjd b fun o' n e r hb=>by obtain⟨_,t,q,c⟩:=mem_ready.1 (show k∈Region.ready .any ops a by simpa using p);rw[q]at n;cases n;exact c e r hb) i (by rw[show base+16*(k+1)=base+16*k+16 by omega];exact hK)

theorem RelU.nbe{U:Nat->Prop}{env:List AV}{a:Act}(h:RelU cx κ F U env σ a w):NBE U env σ:=⟨h.env.nb,h.orel.nb⟩

theorem RelU.un{U U':Nat->Prop}{env:List AV}{a:Act}(h:RelU cx κ F U env σ a w)(b:∀n,U n->U' n):RelU cx κ F U' env σ a w:=
 ⟨⟨h.env.size,h.env.dfr,h.env.rv,fun t=>NB.mono b (h.env.nb t)⟩,h.orel.un b⟩

theorem jox(z:∀t x,ty t=some x->TyOK P t x)(I:∀f S,Γ f=some S->FnOK P cx.J f S){K:List AV->Objs->Prop}{Q:Exit->Act->World->Prop}:
  ∀(d:Nat)(c:Array Bool)(κ:Kap)(F:Nat->Prop)(env:List AV)(σ:Objs)(a:Act)(w:World),RelU cx κ F (Ul base c) env σ a w->c.size=ops.size->anyA ty Γ ops M base K d c env σ->
   (∀κ' F' e σ' a' w',K e σ'->(∀b,F b->F' b)->Wy cx F w w'->RelU cx κ' F' (· <base+16*ops.size) e σ' a' w'->Q .normal a' w')->wpAny P .any ops Q d c a w:=by
 have k:∀(c:Array Bool)(κ:Kap)(F:Nat->Prop)(env:List AV)(σ:Objs)(a:Act)(w:World),RelU cx κ F (Ul base c) env σ a w->c.size=ops.size->RelU cx κ F (· <base+16*ops.size) env σ a w:=by
  intro c κ F env σ a w g hs;refine g.un ?_;rintro n (h|⟨i,hi,h⟩)
  ·show n<_;omega
  ·have:i<c.size:=by
    rcases Nat.lt_or_ge i c.size with h'|h'
    ·exact h'
    ·rw[Array.getD_eq_getD_getElem?,Array.getElem?_eq_none h']at hi;simp at hi
   have:=h.2;show n<_;omega
 intro d
 induction d with
 |zero=>
  intro c κ F env σ a w g hs h s;obtain⟨u,y⟩:=h g.nbe;exact⟨u,s κ F env σ a w y (fun _ h=>h) (Wx.refl _ _) (k c κ F env σ a w g hs)⟩
 |succ d L=>
  intro c κ F env σ a w g hs h s;obtain⟨u,y⟩:=h g.nbe;refine⟨fun h0=>s κ F env σ a w (u h0) (fun _ h=>h) (Wx.refl _ _) (k c κ F env σ a w g hs),fun i hi=>?_⟩;have r:=y i hi;have q:=(mem_ready.1 hi).1;unfold TA at r;unfold wpOp;cases m:ops[i]? with
  |none=>simp only[m]at r
  |some o=>
   simp only[m]at r ⊢;have:=jem (nm:=base+16*i) (ops:=ops) (next:=wpAny P .any ops Q d (c.setIfInBounds i true)) (Q:=Q) z I g (fun j T=>jdj (jbb q) ⟨by omega,by omega⟩) r.2 ?_
   ·split
    ·rename_i A;rw[if_pos A]at this;exact .inl this
    ·rename_i A;rw[if_neg A]at this;exact this
   ·intro av δ v κ' F' w' hK hF hW p;rw[jo3 (base:=base) (jdk q)]at p;refine L _ κ' F' _ _ _ w' p (by simpa using hs) hK ?_;intro O B l R C N D E G H;exact s O B l R C N D (fun b hb=>E b (hF b hb)) (hW.trans G (fun b hb=>hb.imp (hF b) id)) H

theorem jqt(h:lexM ty Γ M ops=true)(k:Nat):jiv ty Γ M ops k=true:=by
 rcases Nat.lt_or_ge k ops.size with hk|hk
 ·exact(List.all_eq_true.1 h) k (List.mem_range.2 hk)
 ·unfold jiv;rw[Array.getElem?_eq_none hk];rfl

theorem jru{F:Nat->Prop}{k:Nat}:Wy cx F w {w with drawn:=k}:=(Wx.refl _ w).trans ⟨rfl,rfl,rfl,Nat.le_refl _,fun _ _=>rfl⟩ fun _ h=>h

theorem RelU.drawn{U:Nat->Prop}{env:List AV}{a:Act}{k:Nat}(h:RelU cx κ F U env σ a w):RelU cx κ F U env σ a {w with drawn:=k}:=by
 refine⟨⟨h.env.size,h.env.dfr,fun t=>RV.mono (w:=w) (w':={w with drawn:=k}) (κ:=κ) (fun _ _=>rfl) (fun _ h=>h) (fun _ _=>rfl) (h.env.nb t) (h.env.rv t),h.env.nb⟩,?_⟩;refine⟨fun o x b=>jcb.mono (w:=w) (w':={w with drawn:=k}) (κ:=κ) (fun _ _=>rfl) (fun _ h=>h) (fun _ _=>rfl) (h.orel.nb o x b).1 (h.orel.nb o x b).2 ?_ (h.orel.ok o x b),h.orel.nb,h.orel.free,h.orel.apart,h.orel.fG,h.orel.kB,h.orel.gB,h.orel.bs,h.orel.inv.mono (fun _ h=>h) (fun _ _=>rfl),h.orel.lt⟩;intro _ _;rfl

theorem juh(s:P.follows .mixedOrders=true)(g:∀t x,ty t=some x->TyOK P t x)(v:∀f S,Γ f=some S->FnOK P cx.J f S)(r:Live Γ){Q:Exit->St->Prop}{env:List AV}{σ:Objs}{nx:Nat}{id:Nat}{l:List Oper}(M:Nat->List Nat)
  (hB:Region.lexB .any l.toArray=true) (q:lexM ty Γ M l.toArray=true) (h:runD ty Γ l.toArray M (fun env σ m=>Q .normal ⟨env,σ,m⟩) l 0 nx env σ):Ok P cx (.region id l.toArray true) Q ⟨env,σ,nx⟩:=by
 intro κ F a w j;refine wp_region_any s ?_;simp only[Region.lexB,Bool.and_eq_true]at hB;have d:=jn3 (base:=nx) r (jqt q) l 0 (Array.replicate l.toArray.size false) env σ (by simp) (by simp) jms (by simpa using hB.2) (by simpa using h);have hU:∀n,n<nx->Ul nx (Array.replicate l.toArray.size false) n:=fun n u=>.inl u;have e:RelU cx κ F (· <nx) env σ a w:=⟨j.env,j.orel⟩;refine jox g v _ _ κ F env σ a _ ((e.un hU).drawn) (by simp) (by simpa using d) ?_;intro κ' F' c σ' a' w' k o p i;exact⟨κ',F',⟨c,σ',_⟩,k,o,jru.trans p (fun b hb=>hb),⟨i.env,i.orel⟩⟩

end
end Go.Ab
