/- My own layer, fourteenth part: to know less of a state: to forget slots, to rename objects, to freeze arrays, to take a nil slice for an empty array of one's own. -/
import Derived.Test.YtimecodbnhcnoaaGreatAbFn2
namespace Go.Ab
set_option linter.unusedVariables false
set_option linter.unusedSimpArgs false

def Wk(cx:Cx)(s s':St):Prop:=∀κ F a w,Rel cx κ F s a w->∃κ' F',(∀b,F b->F' b)/\ Rel cx κ' F' s' a w

theorem Wk.refl{cx:Cx}(s:St):Wk cx s s:=fun κ F _ _ h=>⟨κ,F,fun _ h=>h,h⟩
theorem Wk.trans{cx:Cx}{a b c:St}(h:Wk cx a b)(d:Wk cx b c):Wk cx a c:=fun κ F x w e=>
 let ⟨κ1,F1,h1,h2⟩:=h κ F x w e
 let ⟨κ2,F2,h3,h4⟩:=d κ1 F1 x w h2
 ⟨κ2,F2,fun b hb=>h3 b (h1 b hb),h4⟩

theorem jai{P:Program}{cx:Cx}{c:Code}{Q:Exit->St->Prop}{s s':St}(h:Wk cx s s')(b:Ok P cx c Q s'):Ok P cx c Q s:=by
 intro κ F a w g;obtain⟨κ',F',d,e⟩:=h κ F a w g;exact wp_mono (b κ' F' a w e) fun _ _ _ f=>Post.lift d (Wx.refl _ _) f

theorem jl1{P:Program}{cx:Cx}{c:Code}{Q:Exit->St->Prop}{st:St}(I:Nat->St->Prop)(f:Nat)(h₀:∃s,Wk cx st s/\ I f s)
  (b:∀n s,I n s->Ok P cx c (Then (fun s'=>∃d a,d<n/\ Wk cx s' a/\ I d a) Q) s):Ok P cx (.loop c) Q st:=by
 refine jug (fun n s=>∃s',Wk cx s s'/\ I n s') f h₀ ?_;rintro n s ⟨s',k,l⟩;refine jai k (Ok.mono (b n s' l) ?_);intro e m h;cases e with
 |normal=>
  obtain⟨d,a,g,i,j⟩:=h;exact⟨d,g,a,i,j⟩
 |_=>exact h

mutual
def VLe(L:Nat)(σ:Objs)(ren:List (Nat×Nat))(nils:List Nat):AV->AV->Prop
 | .dat d,y=>y=.unk \/(∃d',y=.dat d'/\ DLe d d') \/(d=.sc jmh/\ ∃o,y=.own o/\ o∈nils)
 | .own o,y=>y=.unk \/(∃o',y=.own o'/\ (o',o)∈ren) \/(∃es l,slO σ o=some (es,l)/\ o∉ren.map Prod.snd/\ L<=o/\ y=.dat (.sl es l))
 | .ref o i,y=>y=.unk \/∃o',y=.ref o' i/\ (o',o)∈ren
 | .eref o es k j,y=>y=.unk \/∃o',y=.eref o' es k j/\ (o',o)∈ren
 | .row o g k j,y=>y=.unk \/∃o',y=.row o' o' k j/\ (o',o)∈ren/\ ∃t,jb0 σ o g=some t
 | .rref o g k j es i c,y=>y=.unk \/∃o',y=.rref o' o' k j es i c/\ (o',o)∈ren/\ ∃t,jb0 σ o g=some t
 | .vw o g k j es lo n,y=>y=.unk \/∃o',y=.vw o' o' k j es lo n/\ (o',o)∈ren/\ ∃t,jb0 σ o g=some t
 | .fp l,y=>y=.unk \/y=.fp l
 | .aggv l,y=>y=.unk \/(∃l',y=.aggv l'/\ VLes L σ ren nils l l') \/(∃ds,y=.dat (.agg ds)/\ VLed L σ ren nils l ds)
 | .tup l,y=>y=.unk \/∃l',y=.tup l'/\ VLes L σ ren nils l l'
 | .fn f l,y=>y=.unk \/∃l',y=.fn f l'/\ VLes L σ ren nils l l'
 | .und,y=>y=.unk \/y=.und
 | .unk,y=>y=.unk
def VLes(L:Nat)(σ:Objs)(ren:List (Nat×Nat))(nils:List Nat):List AV->List AV->Prop
 |[],l'=>l'=[]
 |x::l,l'=>∃y r,l'=y::r/\ VLe L σ ren nils x y/\ VLes L σ ren nils l r
def VLed(L:Nat)(σ:Objs)(ren:List (Nat×Nat))(nils:List Nat):List AV->List D->Prop
 |[],l'=>l'=[]
 |x::l,l'=>∃y r,l'=y::r/\ VLe L σ ren nils x (.dat y)/\ VLed L σ ren nils l r
end

def OLe(L:Nat)(σ:Objs)(ren:List (Nat×Nat))(nils:List Nat)(fr:List Nat)(n o:Nat):Obj'->Obj'->Prop
 | .box T l,y=>(∃l',y=.box T l'/\ VLes L σ ren nils l l') \/(l=[.dat (.sc (.pointer none)),.dat (.sc jmh)]/\ (∃E,y=.bld T E [] n)/\ o∉fr)
 | .bld T E l _,y=>y=.bld T E l n/\ o∉fr
 | .mp t l,y=>y=.mp t l
 | .arr e es l,y=>y=.arr e es l \/(l=[]/\ ∃mask,y=.tab e es mask [] n none/\ mask.length<=es)
 | .tab e es mask l _ hole,y=>(y=.tab e es mask l n hole/\ o∉fr) \/(hole=none/\ y=.arr e es l/\ o∈fr)

def obs(l:List (Nat×Obj')):Objs:=fun n=>match l with
 |[]=>none
 |(k,x)::r=>bif Nat.beq n k then some x else obs r n

theorem jgx:∀{l:List (Nat×Obj')}{n:Nat}{x:Obj'},obs l n=some x->(n,x)∈l
 |[],n,x,h=>by unfold obs at h;cases h
 |(k,y)::r,n,x,h=>by
  unfold obs at h;cases hb:Nat.beq n k with
  |true=>
   rw[hb]at h;simp only[cond_true,Option.some.injEq]at h;have:=Nat.eq_of_beq_eq_true hb;subst this;subst h;exact List.mem_cons_self ..
  |false=>
   rw[hb]at h;exact List.mem_cons_of_mem _ (jgx h)

def jb4(κ:Kap)(σ:Objs)(ren:List (Nat×Nat)):Kap:=fun n=>match ren.lookup n with
 |some o=>tk κ σ o
 |none=>kv jmh

section
variable{cx:Cx}{κ:Kap}{F:Nat->Prop}{w:World}{U:Nat->Prop}{σ:Objs}

theorem jci{ren:List (Nat×Nat)}(c:(ren.map Prod.fst).Nodup){n o:Nat}(h:(n,o)∈ren):jb4 κ σ ren n=tk κ σ o:=by
 unfold jb4;have:ren.lookup n=some o:=by
  induction ren with
  |nil=>cases h
  |cons p r f=>
   obtain⟨a,b⟩:=p;simp only[List.map_cons,List.nodup_cons]at c;rcases List.mem_cons.1 h with h|h
   ·cases h;simp[List.lookup]
   ·have d:n≠a:=fun e=>c.1 (e▸List.mem_map.2 ⟨(n,o),h,rfl⟩);have hb:(n==a)=false:=by simpa using d
    simp only[List.lookup,hb];exact f c.2 h
 rw[this]

theorem je2{ren:List (Nat×Nat)}{n:Nat}(h:n∉ren.map Prod.fst):jb4 κ σ ren n=kv jmh:=by
 unfold jb4;have:ren.lookup n=none:=by
  induction ren with
  |nil=>rfl
  |cons p r c=>
   obtain⟨a,b⟩:=p;simp only[List.map_cons,List.mem_cons,not_or]at h;have hb:(n==a)=false:=by simpa using h.1
   simp only[List.lookup,hb];exact c h.2
 rw[this]

def Ffrz(cx:Cx)(κ:Kap)(F:Nat->Prop)(σ:Objs)(ren:List (Nat×Nat))(fr:List Nat):Nat->Prop:=fun b=>F b \/(∃o es l x,σ o=some x/\ x.sl=some (es,l)/\ o∉ren.map Prod.snd/\ cx.L<=o/\ Blk κ o x b) \/
 ∃o∈fr,∃e es mask l g k j,σ o=some (.tab e es mask l g none)/\ jbv mask l.length none k j/\ blk ((κ g).r k j)=some b

structure RenOK(cx:Cx)(ren:List (Nat×Nat))(nils:List Nat):Prop where
 new:(ren.map Prod.fst).Nodup
 old:(ren.map Prod.snd).Nodup
 nil:∀n∈nils,n∉ren.map Prod.fst
 lent:∀j,j<cx.L->(j,j)∈ren

theorem tk_r{o g:Nat}{t:TabV}(h:jb0 σ o g=some t):(tk κ σ o).r=(κ g).r:=by
 unfold tk;rw[jbp h]

mutual
theorem VLe.rv{ren:List (Nat×Nat)}{nils fr:List Nat}(h:ORel cx κ F w U σ)(q:RenOK cx ren nils):∀{x y:AV}{v:Value},VLe cx.L σ ren nils x y->RV κ F w x v->RV (jb4 κ σ ren) (Ffrz cx κ F σ ren fr) w y v
 | .dat d,y,v,e,a=>by
  unfold VLe at e;rcases e with rfl|⟨d',rfl,hd⟩|⟨rfl,o,rfl,m⟩
  ·unfold RV;trivial
  ·unfold RV at a ⊢;exact RD.le hd (RD.mono (fun b hb=>.inl hb) (fun _ _=>rfl) a)
  ·unfold RV RD at a;unfold RV;rw[je2 (q.nil o m),a.1];exact⟨rfl,rfl⟩
 | .own o,y,v,e,a=>by
  unfold VLe at e;rcases e with rfl|⟨o',rfl,m⟩|⟨es,l,r,p,z,rfl⟩
  ·unfold RV;trivial
  ·unfold RV at a ⊢;rw[jci q.new m,tk_v];exact a
  ·unfold RV at a ⊢;rw[a.1];obtain⟨x,e,hs⟩:=jen r;exact jr0 h (fun b hb=>.inl hb) e hs (fun b hb=>.inr (.inl ⟨o,es,l,x,e,hs,p,z,hb⟩))
 | .ref o i,y,v,e,a=>by
  unfold VLe at e;rcases e with rfl|⟨o',rfl,m⟩
  ·unfold RV;trivial
  ·unfold RV at a ⊢;rw[jci q.new m,tk_v];exact a
 | .eref o es k j,y,v,e,a=>by
  unfold VLe at e;rcases e with rfl|⟨o',rfl,m⟩
  ·unfold RV;trivial
  ·unfold RV at a ⊢;rw[jci q.new m,tk_v];exact a
 | .row o g k j,y,v,e,a=>by
  unfold VLe at e;rcases e with rfl|⟨o',rfl,m,t,u⟩
  ·unfold RV;trivial
  ·unfold RV at a ⊢;rw[jci q.new m,tk_r u];exact a
 | .rref o g k j es i c,y,v,e,a=>by
  unfold VLe at e;rcases e with rfl|⟨o',rfl,m,t,u⟩
  ·unfold RV;trivial
  ·unfold RV at a ⊢;rw[jci q.new m,tk_r u];exact a
 | .vw o g k j es lo n,y,v,e,a=>by
  unfold VLe at e;rcases e with rfl|⟨o',rfl,m,t,u⟩
  ·unfold RV;trivial
  ·unfold RV at a ⊢;rw[jci q.new m,tk_r u];exact a
 | .fp l,y,v,e,a=>by
  unfold VLe at e;rcases e with rfl|rfl
  ·unfold RV;trivial
  ·have p:RV κ (Ffrz cx κ F σ ren fr) w (.fp l) v:=RV.mono (U:=fun _=>True) (fun _ _=>rfl) (fun b hb=>Or.inl hb) (fun _ _=>rfl) (by unfold NB;trivial) a;unfold RV at p ⊢;exact p
 | .aggv l,y,v,e,a=>by
  unfold VLe at e;rcases e with rfl|⟨l',rfl,s⟩|⟨ds,rfl,s⟩
  ·unfold RV;trivial
  ·unfold RV at a ⊢;obtain⟨cs,r,p⟩:=a;exact⟨cs,r,VLes.rvc h q s p⟩
  ·unfold RV at a;unfold RV RD;obtain⟨cs,r,p⟩:=a;exact⟨cs,r,VLed.rv h q s p⟩
 | .tup l,y,v,e,a=>by
  unfold VLe at e;rcases e with rfl|⟨l',rfl,s⟩
  ·unfold RV;trivial
  ·unfold RV at a ⊢;obtain⟨cs,r,p⟩:=a;exact⟨cs,r,VLes.rvs h q s p⟩
 | .fn f l,y,v,e,a=>by
  unfold VLe at e;rcases e with rfl|⟨l',rfl,s⟩
  ·unfold RV;trivial
  ·unfold RV at a ⊢;obtain⟨cs,r,p⟩:=a;exact⟨cs,r,VLes.rvs h q s p⟩
 | .und,y,v,e,a=>by
  unfold VLe at e;rcases e with rfl|rfl
  ·unfold RV;trivial
  ·unfold RV at a ⊢;exact a
 | .unk,y,v,e,a=>by unfold VLe at e;subst e;unfold RV;trivial
theorem VLes.rvs{ren:List (Nat×Nat)}{nils fr:List Nat}(h:ORel cx κ F w U σ)(d:RenOK cx ren nils):∀{l l':List AV}{us:List Value},VLes cx.L σ ren nils l l'->RVs κ F w l us->RVs (jb4 κ σ ren) (Ffrz cx κ F σ ren fr) w l' us
 |[],l',us,b,a=>by unfold VLes at b;subst b;unfold RVs at a ⊢;exact a
 |x::l,l',us,b,a=>by
  unfold VLes at b;obtain⟨y,r,rfl,i,j⟩:=b;unfold RVs at a ⊢;obtain⟨u,c,e,f,g⟩:=a;exact⟨u,c,e,VLe.rv h d i f,VLes.rvs h d j g⟩
theorem VLes.rvc{ren:List (Nat×Nat)}{nils fr:List Nat}(h:ORel cx κ F w U σ)(e:RenOK cx ren nils):∀{l l':List AV}{us:List Value},VLes cx.L σ ren nils l l'->RVc κ F w l us->RVc (jb4 κ σ ren) (Ffrz cx κ F σ ren fr) w l' us
 |[],l',us,b,a=>by unfold VLes at b;subst b;unfold RVc at a ⊢;exact a
 |x::l,l',us,b,a=>by
  unfold VLes at b;obtain⟨y,r,rfl,j,k⟩:=b;unfold RVc at a ⊢;obtain⟨u,d,f,c,g,i⟩:=a;exact⟨u,d,f,c,VLe.rv h e j g,VLes.rvc h e k i⟩
theorem VLed.rv{ren:List (Nat×Nat)}{nils fr:List Nat}(h:ORel cx κ F w U σ)(e:RenOK cx ren nils):∀{l:List AV}{ds:List D}{us:List Value},VLed cx.L σ ren nils l ds->RVc κ F w l us->RC (Ffrz cx κ F σ ren fr) w ds us
 |[],ds,us,b,a=>by unfold VLed at b;subst b;unfold RVc at a;unfold RC;exact a
 |x::l,ds,us,b,a=>by
  unfold VLed at b;obtain⟨y,r,rfl,j,k⟩:=b;unfold RVc at a;obtain⟨u,d,f,c,g,i⟩:=a;have:=VLe.rv (fr:=fr) h e j g;unfold RV at this;unfold RC;exact⟨u,d,f,c,this,VLed.rv h e k i⟩
end

mutual
theorem VLe.nb{L:Nat}{ren:List (Nat×Nat)}{nils:List Nat}{U':Nat->Prop}(e:∀p∈ren,U' p.1)(m:∀n∈nils,U' n):∀{x y:AV},VLe L σ ren nils x y->NB U' y
 | .dat d,y,a=>by
  unfold VLe at a;rcases a with rfl|⟨d',rfl,hd⟩|⟨rfl,o,rfl,b⟩
  ·unfold NB;trivial
  ·unfold NB;trivial
  ·unfold NB;exact m o b
 | .own o,y,a=>by
  unfold VLe at a;rcases a with rfl|⟨o',rfl,b⟩|⟨es,l,_,_,_,rfl⟩
  ·unfold NB;trivial
  ·unfold NB;exact e _ b
  ·unfold NB;trivial
 | .ref o i,y,a=>by
  unfold VLe at a;rcases a with rfl|⟨o',rfl,b⟩
  ·unfold NB;trivial
  ·unfold NB;exact e _ b
 | .eref o es k j,y,a=>by
  unfold VLe at a;rcases a with rfl|⟨o',rfl,b⟩
  ·unfold NB;trivial
  ·unfold NB;exact e _ b
 | .row o g k j,y,a=>by
  unfold VLe at a;rcases a with rfl|⟨o',rfl,b,_⟩
  ·unfold NB;trivial
  ·unfold NB;exact⟨e _ b,e _ b⟩
 | .rref o g k j es i c,y,a=>by
  unfold VLe at a;rcases a with rfl|⟨o',rfl,b,_⟩
  ·unfold NB;trivial
  ·unfold NB;exact⟨e _ b,e _ b⟩
 | .vw o g k j es lo n,y,a=>by
  unfold VLe at a;rcases a with rfl|⟨o',rfl,b,_⟩
  ·unfold NB;trivial
  ·unfold NB;exact⟨e _ b,e _ b⟩
 | .fp l,y,a=>by
  unfold VLe at a;rcases a with rfl|rfl<;>(unfold NB;trivial)
 | .aggv l,y,a=>by
  unfold VLe at a;rcases a with rfl|⟨l',rfl,h⟩|⟨ds,rfl,h⟩
  ·unfold NB;trivial
  ·unfold NB;exact VLes.nb e m h
  ·unfold NB;trivial
 | .tup l,y,a=>by
  unfold VLe at a;rcases a with rfl|⟨l',rfl,h⟩
  ·unfold NB;trivial
  ·unfold NB;exact VLes.nb e m h
 | .fn f l,y,a=>by
  unfold VLe at a;rcases a with rfl|⟨l',rfl,h⟩
  ·unfold NB;trivial
  ·unfold NB;exact VLes.nb e m h
 | .und,y,a=>by
  unfold VLe at a;rcases a with rfl|rfl<;>(unfold NB;trivial)
 | .unk,y,a=>by unfold VLe at a;subst a;unfold NB;trivial
theorem VLes.nb{L:Nat}{ren:List (Nat×Nat)}{nils:List Nat}{U':Nat->Prop}(b:∀p∈ren,U' p.1)(c:∀n∈nils,U' n):∀{l l':List AV},VLes L σ ren nils l l'->NBs U' l'
 |[],l',a=>by unfold VLes at a;subst a;unfold NBs;trivial
 |x::l,l',a=>by
  unfold VLes at a;obtain⟨y,r,rfl,d,e⟩:=a;unfold NBs;exact⟨VLe.nb b c d,VLes.nb b c e⟩
end

theorem VLes.getD{L:Nat}{ren:List (Nat×Nat)}{nils:List Nat}:∀{l l':List AV},VLes L σ ren nils l l'->l'.length=l.length/\ ∀t,VLe L σ ren nils (l.getD t .und) (l'.getD t .und)
 |[],l',a=>by unfold VLes at a;subst a;exact⟨rfl,fun t=>by simp only[List.getD_nil];unfold VLe;exact .inr rfl⟩
 |x::l,l',a=>by
  unfold VLes at a;obtain⟨y,r,rfl,b,c⟩:=a;obtain⟨d,e⟩:=VLes.getD c;refine⟨by simp[d],fun t=>?_⟩;cases t with
  |zero=>simpa using b
  |succ t=>simpa using e t

theorem TabOK.empty{e:TypeId}{es:Nat}{mask:List (Option TypeId)}{u:Value}{r:Nat->Nat->Value}(b:0<es)(c:mask.length<=es)(a:Own w e es u 0 []):TabOK F w e es mask [] u r none:=
 ⟨b,c,by simp,⟨[],a,by simp,by simp⟩,fun k j k' j' h=>absurd h.1 (by simp),fun k j h=>absurd h.1 (by simp)⟩

theorem Blk.of_new{n o b:Nat}{x y:Obj'}{ren:List (Nat×Nat)}{nils fr:List Nat}{L:Nat}(p:σ o=some x)(a:OLe L σ ren nils fr n o x y)(f:jb4 κ σ ren n=tk κ σ o)(h:Blk (jb4 κ σ ren) n y b):Blk κ o x b/\ (o∈fr->blk (κ o).v=some b):=by
 rcases h with h|h
 ·rw[f,tk_v]at h;exact⟨.inl h,fun _=>h⟩
 ·cases x with
  |box T l=>
   rcases a with⟨l',rfl,_⟩|⟨_,⟨E,rfl⟩,_⟩
   ·exact h.elim
   ·have h:blk ((jb4 κ σ ren n).r 0 0)=some b:=h;rw[f]at h;unfold tk at h;rw[p]at h;simp[blk]at h
  |bld T E l g=>
   obtain⟨rfl,m⟩:=a;have h:blk ((jb4 κ σ ren n).r 0 0)=some b:=h;rw[f]at h;unfold tk at h;rw[p]at h;exact⟨.inr h,fun d=>absurd d m⟩
  |mp t l=>
   have a:y=.mp t l:=a;subst a;exact h.elim
  |arr e es l=>
   rcases a with a|⟨_,mask,a,_⟩
   ·subst a;exact h.elim
   ·subst a;obtain⟨k,j,i,_⟩:=h;exact absurd i.1 (by simp)
  |tab e es mask l g hole=>
   rcases a with⟨a,c⟩|⟨_,a,c⟩
   ·subst a;obtain⟨k,j,i,d⟩:=h;rw[f,tk_r (t:=⟨e,es,mask,l,hole⟩) (g:=g) (by unfold jb0;rw[p];simp)]at d;exact⟨.inr ⟨k,j,i,d⟩,fun m=>absurd m c⟩
   ·subst a;exact h.elim

theorem jvi{env Q:List AV}{nx H:Nat}(ren:List (Nat×Nat))(nils fr:List Nat)(os:List (Nat×Obj'))(J:RenOK cx ren nils)(ab:VLes cx.L σ ren nils env Q)
  (Z:∀p∈os,(∃o x,(p.1,o)∈ren/\ σ o=some x/\ OLe cx.L σ ren nils fr p.1 o x p.2) \/(p.1∈nils/\ ∃e es,0<es/\ (p.2=.arr e es [] \/∃mask,p.2=.tab e es mask [] p.1 none/\ mask.length<=es))) (I:∀p∈ren,p.1<H) (h2:∀n∈nils,n<H)
  :
  Wk cx ⟨env,σ,nx⟩ ⟨Q,obs os,H⟩:=by
 intro κ F a w ad;obtain⟨he,m⟩:=ad;obtain⟨hl,hg⟩:=ab.getD;have B:∀{n V o:Nat},(n,o)∈ren->(V,o)∈ren->n=V:=by
  intro n V o s Y;have:∀{l:List (Nat×Nat)},(l.map Prod.snd).Nodup->(n,o)∈l->(V,o)∈l->n=V:=by
   intro l
   induction l with
   |nil=>intro _ h _;cases h
   |cons p l ih=>
    intro O h h';simp only[List.map_cons,List.nodup_cons]at O;rcases List.mem_cons.1 h with h|h
    ·rcases List.mem_cons.1 h' with h'|h'
     ·rw[<-h]at h';cases h';rfl
     ·exact absurd (by rw[<-h];exact List.mem_map.2 ⟨(V,o),h',rfl⟩) O.1
    ·rcases List.mem_cons.1 h' with h'|h'
     ·exact absurd (by rw[<-h'];exact List.mem_map.2 ⟨(n,o),h,rfl⟩) O.1
     ·exact ih O.2 h h'
  exact this J.old s Y
 have D:∀n y,obs os n=some y->∀b,Blk (jb4 κ σ ren) n y b->∃o x,(n,o)∈ren/\ σ o=some x/\ Blk κ o x b/\ (o∈fr->blk (κ o).v=some b):=by
  intro n y P b hb;rcases Z _ (jgx P)with⟨o,x,s,z,c⟩|⟨hn,e,es,K,d⟩
  ·obtain⟨g1,g2⟩:=Blk.of_new z c (jci J.new s) hb;exact⟨o,x,s,z,g1,g2⟩
  ·exfalso;rcases hb with hb|hb
   ·rw[je2 (J.nil n hn)]at hb;simp[jmh,blk]at hb
   ·rcases d with d|⟨mask,d,_⟩
    ·simp only[]at d;subst d;exact hb.elim
    ·simp only[]at d;subst d;obtain⟨k,j,I,_⟩:=hb;exact absurd I.1 (by simp)
 refine⟨jb4 κ σ ren,Ffrz cx κ F σ ren fr,fun b hb=>.inl hb,⟨⟨?_,he.dfr,fun t=>?_,fun t=>?_⟩,⟨fun n y P=>?_,fun n y P=>?_,fun n y P b hb=>?_,fun n y V y' P d ah b hb C=>?_,fun b hb=>?_,m.kB,m.gB,m.bs,m.inv.mono (fun b hb=>.inl hb) (fun _ _=>rfl),fun j hj=>?_⟩⟩⟩
 ·rw[he.size];exact hl.symm
 ·exact VLe.rv m J (hg t) (he.rv t)
 ·exact VLe.nb (U':=(· <H)) I h2 (hg t)
 ·rcases Z _ (jgx P)with⟨o,x,s,z,c⟩|⟨hn,e,es,K,d⟩
  ·have G:=m.ok o x z;have R:=jci (κ:=κ) (σ:=σ) J.new s;cases x with
   |box T l=>
    obtain⟨b,arr,q,A,i⟩:=G;rcases c with⟨l',c,X⟩|⟨rfl,⟨E,c⟩,_⟩
    ·have c:y=.box T l':=c;subst c;exact⟨b,arr,by rw[R,tk_v];exact q,A,VLes.rvc m J X i⟩
    ·have c:y=.bld T E [] n:=c;subst c;have W:jb4 κ σ ren n=⟨(κ o).v,fun _ _=>.slice none 0 0⟩:=by rw[R];unfold tk;rw[z]
     show jl2 w T E (jb4 κ σ ren n).v ((jb4 κ σ ren n).r 0 0) [];rw[W];unfold RVc at i;obtain⟨u,us,e1,_,e2,i⟩:=i;unfold RVc at i;obtain⟨u2,am,rfl,_,e3,i⟩:=i;unfold RVc at i;subst i;unfold RV RD at e2 e3;have aa:arr= #[.pointer none,.slice none 0 0]:=by
      apply Array.ext';rw[e1,e2.1,e3.1];rfl
     subst aa;exact⟨b,_,q,A,.inl rfl,World.ownsRow_nil w 0 E 1,by simp[blk]⟩
   |bld T E l g=>
    obtain⟨c,_⟩:=(show y=.bld T E l n/\ _ from c);subst c;have W:jb4 κ σ ren n=⟨(κ o).v,(κ g).r⟩:=by rw[R];unfold tk;rw[z]
    show jl2 w T E (jb4 κ σ ren n).v ((jb4 κ σ ren n).r 0 0) l;rw[W];exact G
   |mp t l=>
    have c:y=.mp t l:=c;subst c;show jia w (jb4 κ σ ren n).v l;rw[R,tk_v];exact G
   |arr e es l=>
    obtain⟨us,q,A,i⟩:=G;rcases c with c|⟨rfl,mask,c,N⟩
    ·simp only[]at c;subst c;exact⟨us,by rw[R,tk_v];exact q,RE.mono (fun b hb=>.inl hb) (fun _ _=>rfl) A,i⟩
    ·simp only[]at c;subst c;refine TabOK.empty i N ?_;rw[R,tk_v];unfold RE at A;rw[A]at q;exact q
   |tab e es mask l g hole=>
    have ht:TabOK F w e es mask l (κ o).v (κ g).r hole:=G;rcases c with⟨c,M⟩|⟨rfl,c,M⟩
    ·simp only[]at c;subst c;show TabOK _ w e es mask l (jb4 κ σ ren n).v (jb4 κ σ ren n).r hole;rw[R,tk_v,tk_r (t:=⟨e,es,mask,l,hole⟩) (g:=g) (by unfold jb0;rw[z];simp)];exact ht.mono (fun b hb=>.inl hb) (fun _ _=>rfl) (fun _ _=>rfl) (fun _ _ _ _ _=>rfl)
    ·simp only[]at c;subst c;obtain⟨us,ac,aj⟩:=ht.re (F':=Ffrz cx κ F σ ren fr) (fun b hb=>.inl hb) fun k j ai b hb=>.inr (.inr ⟨o,M,e,es,mask,l,g,k,j,z,ai,hb⟩);exact⟨us,by rw[R,tk_v];exact ac,aj,ht.pos⟩
  ·have S:(jb4 κ σ ren n).v=.slice none 0 0:=by rw[je2 (J.nil n hn)];rfl
   rcases d with d|⟨mask,d,N⟩
   ·simp only[]at d;subst d;refine⟨[],?_,by unfold RE;rfl,K⟩;rw[S];exact Own.nil w e es
   ·simp only[]at d;subst d;refine TabOK.empty K N ?_;rw[S];exact Own.nil w e es
 ·rcases Z _ (jgx P)with⟨o,x,s,z,c⟩|⟨hn,e,es,K,d⟩
  ·refine⟨I _ s,?_⟩;cases x with
   |box T l=>
    rcases c with⟨l',e',X⟩|⟨_,⟨E,e'⟩,_⟩
    ·subst e';exact VLes.nb (U':=(· <H)) I h2 X
    ·have e':y=.bld T E [] n:=e';subst e';exact I _ s
   |bld T E l g=>
    obtain⟨e',_⟩:=(show y=.bld T E l n/\ _ from c);subst e';exact I _ s
   |mp t l=>
    have e':y=.mp t l:=c;subst e';trivial
   |arr e es l=>
    rcases c with c|⟨_,mask,c,_⟩
    ·simp only[]at c;subst c;trivial
    ·simp only[]at c;subst c;exact I _ s
   |tab e es mask l g hole=>
    rcases c with⟨c,_⟩|⟨_,c,_⟩
    ·simp only[]at c;subst c;exact I _ s
    ·simp only[]at c;subst c;trivial
  ·refine⟨h2 n hn,?_⟩;rcases d with d|⟨mask,d,N⟩
   ·simp only[]at d;subst d;trivial
   ·simp only[]at d;subst d;exact h2 n hn
 ·obtain⟨o,x,s,z,C,M⟩:=D n y P b hb;obtain⟨g1,g2,g3⟩:=m.free o x z b C;refine⟨fun hF=>?_,g2,g3⟩;rcases hF with hF|⟨o',es,l,x',q,_,A,i,k4⟩|⟨o',k0,e,es,mask,l,g,k,j,q,A,i⟩
  ·exact g1 hF
  ·exact m.apart o x o' x' z q (fun e'=>A (e'▸List.mem_map_of_mem (f:=Prod.snd) s)) b C k4
  ·by_cases e':o=o'
   ·subst e';have ht:TabOK F w e es mask l (κ o).v (κ g).r none:=m.ok o _ q;exact ht.outer k j A b i (M k0)
   ·exact m.apart o x o' _ z q e' b C (.inr ⟨k,j,A,i⟩)
 ·obtain⟨o,x,s,z,ae,_⟩:=D n y P b hb;obtain⟨o',x',Y,ak,af,_⟩:=D V y' d b C;exact m.apart o x o' x' z ak (fun e'=>ah (by subst e';exact B s Y)) b ae af
 ·rcases hb with hb|⟨o,es,l,x,q,_,A,i,k4⟩|⟨o,k0,e,es,mask,l,g,k,j,q,A,i⟩
  ·exact m.fG b hb
  ·exact⟨(m.free o _ q b k4).2.2,jcx m q k4⟩
  ·have hB:Blk κ o (.tab e es mask l g none) b:=.inr ⟨k,j,A,i⟩;exact⟨(m.free o _ q b hB).2.2,jcx m q hB⟩
 ·refine⟨I _ (J.lent j hj),?_⟩;rw[jci J.new (J.lent j hj)];rw[tk_v];exact(m.lt j hj).2

end
end Go.Ab
