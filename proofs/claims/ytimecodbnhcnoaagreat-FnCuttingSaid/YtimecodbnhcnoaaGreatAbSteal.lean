/- My own layer: a row is taken out of its table: it is an array of one's own, the table has a hole. -/
import Derived.Test.YtimecodbnhcnoaaGreatAbEx3
namespace Go.Ab
set_option linter.unusedVariables false
set_option linter.unusedSimpArgs false

def SLe(nx o g k j:Nat)(x y:AV):Prop:=y=x \/(x=.row o g k j/\ y=.own nx)

section
variable{cx:Cx}

theorem jpk{κ:Kap}{F:Nat->Prop}{w:World}{nx o g k j:Nat}{x y:AV}{v:Value}(h:SLe nx o g k j x y)(b:NB (· <nx) x)(a:RV κ F w x v):RV (kapN κ nx (kv ((κ g).r k j))) F w y v/\ NB (· <nx+16) y:=by
 have d:∀o,o<nx->kapN κ nx (kv ((κ g).r k j)) o=κ o:=fun o c=>by
  have:o≠nx:=by omega
  simp[kapN,this]
 rcases h with rfl|⟨rfl,rfl⟩
 ·exact⟨RV.mono (U:=(· <nx)) d (fun _ h=>h) (fun _ _=>rfl) b a,NB.mono (fun o c=>by show o<nx+16;have:o<nx:=c;omega) b⟩
 ·unfold RV at a;refine⟨?_,by unfold NB;show nx<nx+16;omega⟩;unfold RV;simp only[kapN,if_true];exact a

theorem jn6{env K:List AV}{σ σ':Objs}{nx o g k j:Nat}{e':TypeId}{es':Nat}{rows:List D}{t:TabV}(ht:jb0 σ o g=some t)(hh:t.hole=none)(hk:k<t.l.length)(hm:jao t.mask j=some e')(hr:ja0 t.l k j=(es',rows))
  (hl:K.length=env.length) (R:∀s,SLe nx o g k j (env.getD s .und) (K.getD s .und))
  (hσ:∀n y,σ' n=some y->(n=nx/\ y=.arr e' es' rows) \/(n≠nx/\ n=o/\ y=.tab t.e t.es t.mask t.l g (some (k,j))) \/
   (n≠nx/\ n≠o/\ (σ n=some y \/∃T l l',σ n=some (.box T l)/\ y=.box T l'/\ l'.length=l.length/\ ∀i,SLe nx o g k j (l.getD i .und) (l'.getD i .und)))):
  Wk cx ⟨env,σ,nx⟩ ⟨K,σ',nx+16⟩:=by
 intro κ F a w ak;obtain⟨he,z⟩:=ak;have z:ORel cx κ F w (· <nx) σ:=z;have E:=jbp ht;rw[hh]at E;have aw:(jao t.mask j).isSome=true:=by rw[hm];rfl
 have S:=z.nb o _ E;have ai:o<nx:=S.1;have ac:g<nx:=S.2;obtain⟨e2,ah,Q,ap,q⟩:=jfj z ht hk aw (by rw[hh];rfl);rw[hm]at ah;cases ah;rw[hr]at Q;rw[hh]at q
 let κ':Kap:=kapN κ nx (kv ((κ g).r k j))
 have O:∀n,n<nx->κ' n=κ n:=fun n hn=>by
  have:n≠nx:=by omega
  simp[κ',kapN,this]
 have am:κ' nx=kv ((κ g).r k j):=by simp[κ',kapN]
 have p:TabOK F w t.e t.es t.mask t.l (κ o).v (κ g).r none:=z.ok o _ E;have C:∀k' j',jbv t.mask t.l.length (some (k,j)) k' j'->jbv t.mask t.l.length none k' j'/\ (k',j')≠(k,j):=fun k' j' h=>⟨⟨h.1,h.2.1,by simp⟩,fun e=>h.2.2 (by rw[e])⟩;have H:∀n y,σ' n=some y->∀b,Blk κ' n y b->(n=nx/\ blk ((κ g).r k j)=some b) \/(n=o/\ n≠nx/\ (blk (κ o).v=some b \/∃k' j',jbv t.mask t.l.length none k' j'/\ (k',j')≠(k,j)/\ blk ((κ g).r k' j')=some b)) \/(n≠nx/\ n≠o/\ ∃x,σ n=some x/\ Blk κ n x b):=by
  intro n y N b hb;rcases hσ n y N with⟨rfl,rfl⟩|⟨f,rfl,rfl⟩|⟨f,L,A⟩
  ·rcases hb with hb|hb
   ·rw[am]at hb;exact .inl ⟨rfl,hb⟩
   ·exact hb.elim
  ·refine .inr (.inl ⟨rfl,f,?_⟩);rcases hb with hb|⟨k',j',ax,hb⟩
   ·rw[O n ai]at hb;exact .inl hb
   ·rw[O g ac]at hb;obtain⟨q1,V⟩:=C k' j' ax;exact .inr ⟨k',j',q1,V,hb⟩
  ·refine .inr (.inr ⟨f,L,?_⟩);rcases A with A|⟨T,l,l',A,rfl,_,_⟩
   ·have I:=z.nb n y A;exact⟨y,A,hb.kap (U:=(· <nx)) O I.1 I.2⟩
   ·refine⟨_,A,?_⟩;have I:=z.nb n _ A;rcases hb with hb|hb
    ·rw[O n I.1]at hb;exact .inl hb
    ·exact hb.elim
 have X:∀n y,σ' n=some y->∀b,Blk κ' n y b->∃J x,σ J=some x/\ Blk κ J x b:=by
  intro n y N b hb;rcases H n y N b hb with⟨_,f⟩|⟨_,_,f⟩|⟨_,_,x,f,L⟩
  ·exact⟨o,_,E,.inr ⟨k,j,q,f⟩⟩
  ·refine⟨o,_,E,?_⟩;rcases f with f|⟨k',j',q1,_,V⟩
   ·exact .inl f
   ·exact .inr ⟨k',j',q1,V⟩
  ·exact⟨n,x,f,L⟩
 refine⟨κ',F,fun _ hb=>hb,⟨⟨by rw[he.size];exact hl.symm,he.dfr,fun s=>(jpk (R s) (he.nb s) (he.rv s)).1,fun s=>(jpk (R s) (he.nb s) (he.rv s)).2⟩,⟨fun n y N=>?_,fun n y N=>?_,fun n y N b hb=>?_,fun n y J y' N ab M b hb W=>?_,z.fG,z.kB,z.gB,z.bs,z.inv,fun j' ar=>?_⟩⟩⟩
 ·rcases hσ n y N with⟨rfl,rfl⟩|⟨f,rfl,rfl⟩|⟨f,L,A⟩
  ·show jb7 F w e' es' (κ' n).v rows;rw[am];exact Q
  ·show TabOK F w t.e t.es t.mask t.l (κ' n).v (κ' g).r (some (k,j));rw[O n ai,O g ac];obtain⟨us,aj,ay,hc⟩:=p.mem;refine⟨p.pos,p.mlen,p.cells,⟨us,aj,ay,fun k' d j' c au hd=>?_⟩,fun k1 j1 k2 j2 q1 V M=>p.apart k1 j1 k2 j2 (C _ _ q1).1 (C _ _ V).1 M,fun k1 j1 q1=>p.outer k1 j1 (C _ _ q1).1⟩;obtain⟨x,x1,x2,x3⟩:=hc k' d j' c au hd;refine⟨x,x1,x2,?_⟩;cases af:jao t.mask j' with
   |none=>rw[af]at x3;exact x3
   |some e2=>
    rw[af]at x3;simp only[]at x3 ⊢;rcases x3 with⟨x4,x3|x3⟩
    ·cases x3
    ·exact⟨x4,.inr x3⟩
  ·rcases A with A|⟨T,l,l',A,rfl,ae,Y⟩
   ·have I:=z.nb n y A;exact jcb.mono (U:=(· <nx)) O (fun _ hb=>hb) (fun _ _=>rfl) I.1 I.2 (fun _ _=>rfl) (z.ok n y A)
   ·obtain⟨b,arr,k1,k2,k3⟩:=z.ok n _ A;have I:=z.nb n _ A;have aa:NBs (· <nx) l:=I.2;have ad:=k3.length;refine⟨b,arr,by rw[O n I.1];exact k1,k2,jej (by rw[ad,ae]) fun i c hi=>?_⟩;have aq:=(List.getElem?_eq_some_iff.1 hi).1;have B:i<l.length:=by omega
    obtain⟨u,u1,u2,u3⟩:=RVc.at i _ k3 (List.getElem?_eq_getElem B);have hs:=Y i;rw[List.getD_eq_getElem?_getD,List.getD_eq_getElem?_getD,hi,List.getElem?_eq_getElem B]at hs;exact⟨u,u1,u2,(jpk hs (NBs.at i _ aa (List.getElem?_eq_getElem B)) u3).1⟩
 ·rcases hσ n y N with⟨rfl,rfl⟩|⟨f,rfl,rfl⟩|⟨f,L,A⟩
  ·exact⟨by show n<n+16;omega,trivial⟩
  ·exact⟨by show n<nx+16;omega,by show g<nx+16;omega⟩
  ·rcases A with A|⟨T,l,l',A,rfl,ae,Y⟩
   ·have I:=z.nb n y A;refine⟨by show n<nx+16;have:n<nx:=I.1;omega,NBo.mono (fun m hm=>by show m<nx+16;have:m<nx:=hm;omega) I.2⟩
   ·have I:=z.nb n _ A;refine⟨by show n<nx+16;have:n<nx:=I.1;omega,jn8 fun c hc=>?_⟩;obtain⟨i,hi⟩:=List.getElem?_of_mem hc;have aq:=(List.getElem?_eq_some_iff.1 hi).1;have B:i<l.length:=by omega
    have hs:=Y i;rw[List.getD_eq_getElem?_getD,List.getD_eq_getElem?_getD,hi,List.getElem?_eq_getElem B]at hs;have aa:NBs (· <nx) l:=I.2;have hx:=NBs.at i _ aa (List.getElem?_eq_getElem B);simp only[Option.getD_some]at hs;rcases hs with hs|⟨_,hs⟩
    ·rw[hs];exact NB.mono (fun m hm=>by show m<nx+16;have:m<nx:=hm;omega) hx
    ·rw[hs];unfold NB;show nx<nx+16;omega
 ·obtain⟨J,x,f,L⟩:=X n y N b hb;exact z.free J x f b L
 ·rcases H n y N b hb with⟨rfl,f⟩|⟨rfl,_,f⟩|⟨q1,V,x,f,L⟩
  ·rcases H J y' ab b W with⟨rfl,_⟩|⟨rfl,_,G⟩|⟨ao,P,x',G,g2⟩
   ·exact M rfl
   ·rcases G with G|⟨k',j',r1,r2,r3⟩
    ·exact p.outer k j q b f G
    ·exact p.apart k' j' k j r1 q r2 b r3 f
   ·exact z.apart o _ J x' E G (Ne.symm P) b (.inr ⟨k,j,q,f⟩) g2
  ·have hB:Blk κ n (.tab t.e t.es t.mask t.l g none) b:=by
    rcases f with f|⟨k',j',r1,_,r3⟩
    ·exact .inl f
    ·exact .inr ⟨k',j',r1,r3⟩
   rcases H J y' ab b W with⟨rfl,G⟩|⟨rfl,_,_⟩|⟨ao,P,x',G,g2⟩
   ·rcases f with f|⟨k',j',r1,r2,r3⟩
    ·exact p.outer k j q b G f
    ·exact p.apart k' j' k j r1 q r2 b r3 G
   ·exact M rfl
   ·exact z.apart n _ J x' E G (Ne.symm P) b hB g2
  ·rcases H J y' ab b W with⟨rfl,G⟩|⟨rfl,_,G⟩|⟨ao,P,x',G,g2⟩
   ·exact z.apart n x o _ f E V b L (.inr ⟨k,j,q,G⟩)
   ·refine z.apart n x J _ f E V b L ?_;rcases G with G|⟨k',j',r1,_,r3⟩
    ·exact .inl G
    ·exact .inr ⟨k',j',r1,r3⟩
   ·exact z.apart n x J x' f G M b L g2
 ·have Z:=z.lt j' ar;exact⟨by show j'<nx+16;have:j'<nx:=Z.1;omega,by rw[O j' Z.1];exact Z.2⟩
end

def jtn(n:Nat)(x:X):Loc->AV
 | .s t=>bif Nat.blt t n then lkA x.A t else .und
 | .c b i=>match obo x.L b with
  |some (.box _ l)=>l.getD i .und
  |_=>.und
def jiy(n:Nat)(lc:Loc)(d:D)(x:X):Option (List Prop×X):=
 match jtn n x lc with
 | .row o g k j=>
  match jb0 (obo x.L) o g with
  |some a=>
   match a.hole,jao a.mask j with
   |none,some e'=>
    let M:=(x.nx,some (.arr e' (rowD d j).1 (rowD d j).2))::(o,some (.tab a.e a.es a.mask a.l g (some (k,j))))::x.L
    match lc with
    | .s t=>some ([a.l[k]? =some d],⟨(t,.own x.nx)::x.A,M,x.nx+16⟩)
    | .c b i=>match obo x.L b with
     |some (.box T l)=>bif Nat.blt b x.nx then some ([a.l[k]? =some d],⟨x.A,(b,some (.box T (l.set i (.own x.nx))))::M,x.nx+16⟩)else none
     |_=>none
   |_,_=>none
  |none=>none
 |_=>none

theorem jfq(L:List (Nat×Option Obj'))(o:Nat)(x:Option Obj')(n:Nat):obo ((o,x)::L) n=if n=o then x else obo L n:=by
 show(bif Nat.beq n o then x else obo L n)=_;by_cases h:n=o
 ·subst h;simp
 ·have:Nat.beq n o=false:=by
   cases hb:Nat.beq n o with
   |true=>exact absurd (Nat.eq_of_beq_eq_true hb) h
   |false=>rfl
  rw[this,if_neg h];rfl

theorem ju9{cx:Cx}{n:Nat}(lc:Loc)(C:D){x x':X}{ps:List Prop}(hs:jiy n lc C x=some (ps,x'))(I:AllP ps):Wk cx (x.st n) (x'.st n):=by
 unfold jiy at hs;split at hs
 ·rename_i o g k j d;split at hs
  ·rename_i H w;split at hs
   ·rename_i e' p r;have z:H.l[k]? =some C->k<H.l.length/\ ja0 H.l k j=((rowD C j).1,(rowD C j).2):=fun h=>by
     refine⟨(List.getElem?_eq_some_iff.1 h).1,?_⟩;unfold ja0;rw[List.getD_eq_getElem?_getD,h];rfl
    split at hs
    ·rename_i t;cases hs;cases I with
     |cons c _=>
      obtain⟨E,F⟩:=z c;refine jn6 w p E r F (by simp[envX]) (fun s=>?_) (fun m y a=>?_)
      ·rw[jdg,jdg];cases hb:Nat.blt s n with
       |false=>exact .inl rfl
       |true=>
        simp only[cond_true];by_cases B:s=t
        ·subst B;right;simp only[jtn,hb,cond_true]at d;exact⟨d,by show(bif Nat.beq s s then _ else _)=_;simp⟩
        ·left;rw[jni,if_neg B]
      ·rw[jfq,jfq]at a;by_cases c:m=x.nx
       ·rw[if_pos c]at a;exact .inl ⟨c,(Option.some.inj a).symm⟩
       ·rw[if_neg c]at a;by_cases u:m=o
        ·rw[if_pos u]at a;exact .inr (.inl ⟨c,u,(Option.some.inj a).symm⟩)
        ·rw[if_neg u]at a;exact .inr (.inr ⟨c,u,.inl a⟩)
    ·rename_i b i;split at hs
     ·rename_i T l f;cases v:Nat.blt b x.nx with
      |false=>rw[v]at hs;cases hs
      |true=>
       rw[v]at hs;cases hs;cases I with
       |cons c _=>
        obtain⟨E,F⟩:=z c;have K:b<x.nx:=by simpa[Nat.blt_eq]using v
        have G:b≠o:=fun e=>by
         subst e;have:=jbp w;rw[f]at this;cases this
        refine jn6 w p E r F rfl (fun s=>.inl rfl) (fun m y a=>?_);rw[jfq,jfq,jfq]at a;by_cases h0:m=b
        ·rw[if_pos h0]at a;refine .inr (.inr ⟨by omega,by rw[h0];exact G,.inr ⟨T,l,_,by rw[h0];exact f,(Option.some.inj a).symm,by simp,fun q=>?_⟩⟩);simp only[jtn,f]at d;by_cases J:q=i
         ·subst J;by_cases A:q<l.length
          ·right;refine⟨d,?_⟩;rw[List.getD_eq_getElem?_getD,List.getElem?_set_self A];rfl
          ·left;rw[List.set_eq_of_length_le (Nat.le_of_not_lt A)]
         ·left;rw[List.getD_eq_getElem?_getD,List.getElem?_set_ne (Ne.symm J),<-List.getD_eq_getElem?_getD]
        ·rw[if_neg h0]at a;by_cases c:m=x.nx
         ·rw[if_pos c]at a;exact .inl ⟨c,(Option.some.inj a).symm⟩
         ·rw[if_neg c]at a;by_cases u:m=o
          ·rw[if_pos u]at a;exact .inr (.inl ⟨c,u,(Option.some.inj a).symm⟩)
          ·rw[if_neg u]at a;exact .inr (.inr ⟨c,u,.inl a⟩)
     ·cases hs
   ·cases hs
  ·cases hs
 ·cases hs
end Go.Ab
