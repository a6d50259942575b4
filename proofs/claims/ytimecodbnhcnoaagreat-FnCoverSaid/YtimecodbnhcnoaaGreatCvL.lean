/- The plain law: what the models compute, no program in sight. -/
import Derived.Test.YtimecodbnhcnoaaGreatCvK
namespace Go.Proofs.YtimecodbnhcnoaaGreat
open Go Go.Ab
set_option maxHeartbeats 4000000
set_option linter.unusedVariables false
set_option linter.unusedSimpArgs false
def Cc(m c:Nat):Prop:=c%100000<=3600*m/\ c/100000<=1073741824*m
theorem yjj{m a c:Nat}(h:Cc m c)(b:m<=a):Cc a c:=by
 unfold Cc at*
 have e:3600*m<=3600*a:=DW _ b;have g:1073741824*m<=1073741824*a:=DW _ b;omega
theorem LJ(m:Nat):Cc m 0:=by unfold Cc;omega
theorem ywl:prc 0=⟨0,0⟩:=by unfold prc;simp
theorem yup{c:Nat}(h:c=BIG \/(100000<=c/\ c<=103600)):Cc 1 c:=by
 unfold Cc BIG at*
 omega
theorem yi3{m e a b:Nat}(i:Cc m a)(hb:Cc e b)(l:m+e<=20):zq49 (prc a) (prc b)=some (prc (a+b))/\ Cc (m+e) (a+b):=by
 unfold Cc at i hb;have g:(a+b)/100000=a/100000+b/100000:=by omega
 have h:(a+b)%100000=a%100000+b%100000:=by omega
 have j:a/100000<=21474836480:=by omega
 have k:b/100000<=21474836480:=by omega
 refine⟨?_,by unfold Cc;rw[g,h];omega⟩;unfold zq49 prc;rw[g,h];dsimp only
 rw[jaj (by omega),jaj (by omega)];rfl
theorem yi2(a b:Nat):∃r,zq18 (prc a) (prc b)=some r/\ (r<0↔a<b)/\ (r=0↔a=b):=by
 unfold zq18 prc;simp only[yf8,bF,Le];refine⟨_,rfl,?_,?_⟩
 ·split<;>split at* <;>omega
 ·split<;>split at* <;>omega
theorem yp3(a j:Nat):decide (a=j)=(j==a):=by
 by_cases h:a=j
 ·subst h;simp
 ·have b:¬j=a:=fun e=>h e.symm;simp[h,b]
theorem ydi{u i k:Nat}:Ct.add2 u.testBit i k=(u|||2^i|||2^k).testBit:=by
 funext j;unfold Ct.add2;rw[xR,xR,Aj,Aj,yp3,yp3]
theorem yp6{u i:Nat}:Ct.add1 u.testBit i=(u|||2^i).testBit:=by
 funext j;unfold Ct.add1;rw[xR,Aj,yp3]
structure Cst(n:Nat)(s:Nat->Nat)(q:Nat->Nat->Nat):Prop where
 le:n<=8
 s1:∀k,k<n->s k=BIG \/(100000<=s k/\ s k<=103600)
 q1:∀i k,i<n->k<n->q i k=BIG \/(100000<=q i k/\ q i k<=103600)
structure CuP(n:Nat)(s:Nat->Nat)(q:Nat->Nat->Nat)(ps:List (List Int))(sg:List bI)(pr:List (List bI)):Prop where
 pl:ps.length=n
 sl:sg.length=n
 se:∀k,k<n->sg[k]? =some (prc (s k))
 qe:∀i,i<n->∃row,pr[i]? =some row/\ ∀k,k<n->i≠k->row[k]? =some (prc (q i k))
def MmP(n:Nat)(s:Nat->Nat)(q:Nat->Nat->Nat)(a:List ((Int×Int)×bI)):Prop:=
 ∀i u:Nat,i<=n->(getL (⟨0,0⟩:bI) ((i:Int),(u:Int)) a).2=true->∃v,(getL (⟨0,0⟩:bI) ((i:Int),(u:Int)) a).1=prc v/\ Ct.IsG n s q BIG i u.testBit v/\ Cc (n+(n-i)) v
theorem ytt(n:Nat)(s:Nat->Nat)(q:Nat->Nat->Nat):MmP n s q []:=fun _ _ _ h=>by cases h
theorem Ka{n:Nat}{s:Nat->Nat}{q:Nat->Nat->Nat}{a:List ((Int×Int)×bI)}(h:MmP n s q a){i u:Nat}{v:Nat}(m:Ct.IsG n s q BIG i u.testBit v)(hc:Cc (n+(n-i)) v):MmP n s q (putL ((i:Int),(u:Int)) (prc v) a):=by
 intro j w l e;rw[ypx]at e ⊢;split at e
 ·rename_i b;rw[if_pos b];simp only[eY]at b;have g:i=j:=by omega
  have k:u=w:=by omega
  subst g;subst k;exact⟨v,rfl,m,hc⟩
 ·rename_i b;rw[if_neg b];exact h j w l e
section
variable{n:Nat}{s:Nat->Nat}{q:Nat->Nat->Nat}{ps:List (List Int)}{sg:List bI}{pr:List (List bI)}
theorem yca{u:Nat}(b:n<=8)(a:u<2^n):u<4096:=ypr (by omega) a
theorem yxd(hS:Cst n s q)(hC:CuP n s q ps sg pr){i:Nat}(hi:i<n){e:fq->Int->Int->Option (bI×(List ((Int×Int)×bI)))}
  (o:∀a (u:Nat),MmP n s q a->u<2^n->Tot (e ⟨ps,sg,pr,a⟩ ((i+1:Nat):Int) (u:Int)) fun r=>(∃v,r.1=prc v/\ Ct.IsG n s q BIG (i+1) u.testBit v/\ Cc (n+(n-(i+1))) v)/\ MmP n s q r.2)
  {a:List ((Int×Int)×bI)} (A:MmP n s q a) {k u:Nat} (j:k<n) (C:u<2^n):
  Tot (zq23 e ⟨ps,sg,pr,a⟩ (i:Int) (k:Int) (u:Int)) fun r=>MmP n s q r.2.2/\
   ((r.2.1=false/\ (i=k \/u.testBit i=true \/u.testBit k=true \/BIG<=q i k)) \/
   (r.2.1=true/\ i≠k/\ u.testBit i=false/\ u.testBit k=false/\ q i k<BIG/\ ∃w,r.1=prc (q i k+w)/\ Ct.IsG n s q BIG (i+1) (u|||2^i|||2^k).testBit w/\ (u|||2^i|||2^k)<2^n/\ Cc (n+(n-i)) (q i k+w))):=by
 have J:=hS.le;have N:w64 ((i:Int)+1)=((i+1:Nat):Int):=jai (by omega);obtain⟨row,l,m⟩:=hC.qe i hi;have p:=yca J C;unfold zq23;refine .call (P:=fun v=>(v=true/\ (i=k \/u.testBit i=true \/u.testBit k=true \/BIG<=q i k)) \/(v=false/\ i≠k/\ u.testBit i=false/\ u.testBit k=false/\ q i k<BIG)) ?_ fun v M=>?_
 ·refine .ite (fun y=>.ok (.inl ⟨rfl,.inl (by have:=beq_iff_eq.1 y;omega)⟩)) fun y=>.chk (by omega) ?_;have g:i≠k:=fun h=>by subst h;simp at y
  rw[yb2 p (by omega)];by_cases hb:u.testBit i=true
  ·rw[if_pos hb];exact .ite (fun _=>.ok (.inl ⟨rfl,.inr (.inl hb)⟩)) fun h=>by simp at h
  ·rw[if_neg hb];refine .ite (fun h=>by simp at h) fun _=>.chk (by omega) ?_;rw[yb2 p (by omega)];by_cases b:u.testBit k=true
   ·rw[if_pos b];exact .ite (fun _=>.ok (.inl ⟨rfl,.inr (.inr (.inl b))⟩)) fun h=>by simp at h
   ·rw[if_neg b];refine .ite (fun h=>by simp at h) fun _=>.eq (ixs l) (.eq (ixs (m k j g)) (.ok ?_));by_cases K:BIG<=q i k
    ·refine .inl ⟨?_,.inr (.inr (.inr K))⟩;rw[decide_eq_true_eq];unfold prc BIG at*;dsimp only;omega
    ·refine .inr ⟨?_,g,by simpa using hb,by simpa using b,by omega⟩;rw[decide_eq_false_iff_not];have:=hS.q1 i k hi j;unfold prc BIG at*;dsimp only;omega
 ·rcases M with⟨rfl,h⟩|⟨rfl,z,G,H,I⟩
  ·exact .ok ⟨A,.inl ⟨rfl,h⟩⟩
  ·obtain⟨O,Q⟩:=ydt (u:=u) (by omega:n<=12) C hi;obtain⟨R,D⟩:=ydt (u:=u|||2^i) (by omega:n<=12) Q j;simp only[bW,if_false];rw[O,R,N];refine .eq (ixs l) (.eq (ixs (m k j z)) (.chk (by omega) (.chk (by omega) (.call (o a _ A D) fun V ⟨⟨w,S,T,U⟩,x⟩=>?_))));rw[S];obtain⟨E,F⟩:=yi3 (yup (hS.q1 i k hi j)) U (by omega);exact .eq E (.ok ⟨x,.inr ⟨rfl,z,G,H,I,w,rfl,T,D,yjj F (by omega)⟩⟩)
theorem yxa(hS:Cst n s q){P:Nat->Bool}:∀m,m<=n->Cc m (Ct.sgl s P m):=by
 intro m
 induction m with
 |zero=>intro _;exact LJ 0
 |succ m b=>
  intro e;have a:=b (by omega);unfold Ct.sgl;cases hP:P m
  ·exact(yi3 a (yup (hS.s1 m (by omega))) (by have:=hS.le;omega)).2
  ·exact yjj a (by omega)
theorem yp5(hS:Cst n s q)(hC:CuP n s q ps sg pr):∀(m N i:Nat)(e:List ((Int×Int)×bI))(u:Nat),m+i=n->m<N->MmP n s q e->u<2^n->
  Tot (ygm N ⟨ps,sg,pr,e⟩ (i:Int) (u:Int)) fun r=>(∃v,r.1=prc v/\ Ct.IsG n s q BIG i u.testBit v/\ Cc (n+(n-i)) v)/\ MmP n s q r.2
 |m,0,i,e,u,_,hN,_,_=>by omega
 |m,N+1,i,e,u,hm,hN,y,E=>by
  have hn:=hS.le;have aa:=hC.pl;have ab:=hC.sl;have S:=yca hn E;show Tot (yfn (ygm N) ⟨ps,sg,pr,e⟩ (i:Int) (u:Int)) _;unfold yfn;dsimp only
  refine .eq rfl (.ite (fun K=>.ok ⟨y i u (by omega) K,y⟩) fun _=>?_);refine .call (P:=fun o=>MmP n s q o.1/\ ∃v,(⟨o.2.1,o.2.2⟩:bI)=prc v/\ Ct.IsG n s q BIG i u.testBit v/\ Cc (n+(n-i)) v) ?_ fun⟨v8,v9,T⟩ ⟨R,v,A,C,D⟩=>.ok ⟨⟨v,A,C,D⟩,by rw[A];exact Ka R C D⟩;cases m with
  |zero=>
   have O:i=n:=by omega
   subst O;have hb:((i:Int)==(ps.length:Int))=true:=by simp;omega
   simp only[hb,if_true];refine .call (P:=fun o=>(⟨o.1,o.2⟩:bI)=prc (Ct.sgl s u.testBit i)) ?_ fun⟨v8,v9⟩ p=>.ok ⟨y,_,p,Ct.isG_end,yjj (yxa hS i (dQ _)) (by omega)⟩;refine .iter (fun m (a:Int×Int×Int)=>∃j:Nat,a.1=(j:Int)/\ m+j=i/\ (⟨a.2.1,a.2.2⟩:bI)=prc (Ct.sgl s u.testBit j)) (n:=i) ⟨0,rfl,rfl,by unfold Ct.sgl;exact ywl.symm⟩ ?_;rintro m ⟨v3,v4,v5⟩ ⟨j,z,hj,g⟩;simp only at z g;subst z;unfold yly;dsimp only
   refine .iteP (fun hc=>?_) (fun hc=>.dn ?_)
   ·refine .call (P:=fun o=>(⟨o.1,o.2⟩:bI)=prc (Ct.sgl s u.testBit (j+1))) (.eq (ixs (hC.se j (by omega))) (.chk (by omega) ?_)) fun⟨v6,v7⟩ p=>.nx ⟨m-1,by omega,j+1,jai (by omega),by omega,p⟩;rw[yb2 S (by omega)];unfold Ct.sgl;have K:=yxa hS (P:=u.testBit) j (by omega);cases hb:u.testBit j
    ·simp only[bW,if_false,g];exact .ite (fun _=>.eq (yi3 K (yup (hS.s1 j (by omega))) (by omega)).1 (.ok rfl)) fun h=>by simp at h
    ·simp only[if_true];exact .ite (fun h=>by simp at h) fun _=>.ok g
   ·have:j=i:=by omega
    subst this;exact g
  |succ m=>
   have hi:i<n:=by omega
   have hb:((i:Int)==(ps.length:Int))=false:=by simp;omega
   have hw:w64 ((i:Int)+1)=((i+1:Nat):Int):=jai (by omega);simp only[hb,bW,if_false];rw[hw];have F:∀e (u:Nat),MmP n s q e->u<2^n->Tot (ygm N ⟨ps,sg,pr,e⟩ ((i+1:Nat):Int) (u:Int)) fun r=>(∃v,r.1=prc v/\ Ct.IsG n s q BIG (i+1) u.testBit v/\ Cc (n+(n-(i+1))) v)/\ MmP n s q r.2:=
    fun e u y E=>yp5 hS hC m N (i+1) e u (by omega) (by omega) y E
   refine .call (F e u y E) fun r3 ⟨⟨v0,W,X,Y⟩,M⟩=>?_;refine .call (P:=fun o=>MmP n s q o.1/\ ∃v,(⟨o.2.1,o.2.2⟩:bI)=prc v/\ Ct.IsG n s q BIG i u.testBit v/\ Cc (n+(n-i)) v) ?_ fun⟨aj,ak,am⟩ p=>.ok p;refine .iter (fun m (a:Int×(List ((Int×Int)×bI))×Int×Int)=>∃j:Nat,a.1=(j:Int)/\ m+j=n/\ MmP n s q a.2.1/\ ∃v,(⟨a.2.2.1,a.2.2.2⟩:bI)=prc v/\ Ct.IsK n s q BIG i j u.testBit v/\ Cc (n+(n-i)) v) (n:=n) ⟨0,rfl,rfl,M,v0,W,Ct.isK_zero X,yjj Y (by omega)⟩ ?_;rintro m' ⟨T,ac,ad,ae⟩ ⟨j,z,hj,x,v,g,hK,hc⟩;simp only at z g x;subst z;unfold ylx;dsimp only
   refine .iteP (fun Q=>?_) (fun Q=>.dn ⟨x,v,g,?_,hc⟩)
   ·refine .call (P:=fun o=>MmP n s q o.1/\ ∃v,(⟨o.2.1,o.2.2⟩:bI)=prc v/\ Ct.IsK n s q BIG i (j+1) u.testBit v/\ Cc (n+(n-i)) v) ?_ fun⟨af,ah,ai⟩ p=>.nx ⟨m'-1,by omega,j+1,jai (by omega),by omega,p.1,p.2⟩;refine .call (yxd hS hC hi F x (k:=j) (by omega) E) fun r4 ⟨G,Z⟩=>?_;rcases Z with⟨I,J⟩|⟨I,J,b5,b6,b7,w,U,b9,_,H⟩
    ·refine .call (P:=fun b=>b=false) (by simp only[I,bW,if_false];exact .ok rfl) fun b hb=>?_;subst hb;exact .ok ⟨G,v,g,Ct.isK_skip hK J,hc⟩
    ·obtain⟨r,c1,V,_⟩:=yi2 (q i j+w) v;have l:=Ct.isK_cand hK hi (by omega) J b5 b6 b7 (by rw[ydi];exact b9);refine .call (P:=fun b=>b=decide (r<0)) (by simp only[I,if_true];rw[g,U];exact .eq c1 (.ok rfl)) fun b hb=>?_;subst hb;refine .iteP (fun h0=>.ok ⟨G,q i j+w,U,?_,H⟩) (fun h0=>.ok ⟨G,v,g,?_,hc⟩)
     ·have:=V.1 h0;rw[Nat.min_eq_right (by omega)]at l;exact l
     ·have:¬(q i j+w<v):=fun hh=>h0 (V.2 hh);rw[tV (by omega)]at l;exact l
   ·have:j=n:=by omega
    subst this;exact Ct.isK_end hK
theorem yfb(hS:Cst n s q)(hC:CuP n s q ps sg pr){i u:Nat}{a:List ((Int×Int)×bI)}(hi:i<=n)(b:MmP n s q a)(e:u<2^n):
  Tot (zq20 ⟨ps,sg,pr,a⟩ (i:Int) (u:Int)) fun r=>(∃v,r.1=prc v/\ Ct.IsG n s q BIG i u.testBit v/\ Cc (n+(n-i)) v)/\ MmP n s q r.2:=by
 unfold zq20;have:=hS.le;exact yp5 hS hC (n-i) _ i a u (by omega) (by omega) b e
end
structure PlP(n:Nat)(s:Nat->Nat)(q:Nat->Nat->Nat)(ps:List (List Int))(al:List Int)(pr:List (List Int)):Prop where
 pl:ps.length=n
 se:∀k,k<n->al[k]? =some (spd (s k))
 qe:∀i,i<n->∃row,pr[i]? =some row/\ ∀k,k<n->i≠k->row[k]? =some (spd (q i k))
def eo:Option Nat->Int
 |none=> -1
 |some c=>(c:Int)
def cbB:Option Nat->Option Nat->Bool
 |_,none=>false
 |none,some _=>true
 |some a,some b=>decide (b<a)
theorem comb(r w:Option Nat):(if decide (0<=eo w)=true then if decide (eo r<0)=true then some true else some (decide (eo w<eo r))else some false)=some (cbB r w)/\ (if cbB r w=true then eo w else eo r)=eo (Ct.minO r w):=by
 cases r with
 |none=>
  cases w with
  |none=>simp[eo,cbB,Ct.minO]
  |some b=>simp[eo,cbB,Ct.minO]
 |some a=>
  cases w with
  |none=>simp[eo,cbB,Ct.minO]
  |some b=>
   have e:¬((a:Int)<0):=by omega
   have i:(0:Int)<=(b:Int):=by omega
   by_cases h:b<a
   ·have:min a b=b:=by omega
    have g:(b:Int)<(a:Int):=by omega
    simp[eo,cbB,Ct.minO,e,h,this]
   ·have:min a b=a:=by omega
    have g:¬(b:Int)<(a:Int):=by omega
    simp[eo,cbB,Ct.minO,e,h,this]
theorem yne{c:Nat}(h:c=BIG \/(100000<=c/\ c<=103600)):(spd c<0↔BIG<=c)/\ (c<BIG->spd c=(c:Int)-100000):=by
 unfold spd;constructor
 ·by_cases hc:c<BIG
  ·rw[if_pos hc];omega
  ·rw[if_neg hc];omega
 ·intro hc;rw[if_pos hc]
def Cmp2(n fb i D:Nat):Prop:=∀j,j<n->D.testBit j=false->(fb.testBit j=true↔j<i)
def Zc(n D:Nat):Nat:=Ct.sgl (fun _=>1) D.testBit n
structure Rb(n:Nat)(s:Nat->Nat)(q:Nat->Nat->Nat)(fb D:Nat)(r:Option Nat):Prop where
 t:∀i,Cmp2 n fb i D->Ct.IsT n s q BIG i D.testBit r
 b:∀c,r=some c->c<=103600*Zc n D
def KnP(n:Nat)(s:Nat->Nat)(q:Nat->Nat->Nat)(fb:Nat)(a:List Int):Prop:=a.length=2^n/\ ∀(D:Nat) v,a[D]? =some v->v= -2 \/∃r,v=eo r/\ Rb n s q fb D r
theorem J8{n:Nat}{s:Nat->Nat}{q:Nat->Nat->Nat}{fb:Nat}{b:List Int}(h:KnP n s q fb b){D:Nat}{r:Option Nat}(g:Rb n s q fb D r):KnP n s q fb (b.set D (eo r)):=by
 refine⟨by rw[gH];exact h.1,fun E v a=>?_⟩;rw[D8]at a;split at a
 ·rename_i e;subst e;split at a
  ·cases a;exact .inr ⟨r,rfl,g⟩
  ·cases a
 ·exact h.2 E v a
theorem A8{n D a:Nat}(b:a<n)(h:D.testBit a=false):Zc n D=Zc n (D|||2^a)+1:=by
 unfold Zc;rw[Ct.sgl_add1 h,yp6,if_pos b]
theorem AZ(n D:Nat):Zc n D<=n:=by
 unfold Zc
 induction n with
 |zero=>exact dQ _
 |succ n a=>unfold Ct.sgl;split<;>omega
theorem ycv{D a j:Nat}:(D|||2^a).testBit j=(D.testBit j||j==a):=by rw[xR,Aj,yp3]
theorem ytq{n fb i D a:Nat}(h:Cmp2 n fb i D):Cmp2 n fb i (D|||2^a):=fun j b hD=>h j b (by rw[ycv,qz]at hD;exact hD.1)
theorem ypy{n D:Nat}(hD:D<2^n):D=2^n-1↔∀j,j<n->D.testBit j=true:=by
 constructor
 ·rintro rfl j a;rw[Nat.testBit_two_pow_sub_one];simpa using a
 ·intro h;refine Nat.eq_of_testBit_eq fun j=>?_;rw[Nat.testBit_two_pow_sub_one];by_cases a:j<n
  ·rw[h j a];simp[a]
  ·rw[JY (kH hD (pq (by omega) (by omega)))];simp[a]
section
variable{n:Nat}{s:Nat->Nat}{q:Nat->Nat->Nat}{ps:List (List Int)}{al:List Int}{pr:List (List Int)}
theorem yjl(hS:Cst n s q)(hP:PlP n s q ps al pr){fb D i k:Nat}(F:fb<2^n)(hD:D<2^n)(hi:i<n)(C:k<n)(G:i≠k)(J:D.testBit i=false)(K:D.testBit k=false){g:eZ->Int->Option (Int×(List Int))}
  (A:∀l,KnP n s q fb l->Tot (g ⟨ps,al,pr,(fb:Int),l⟩ ((D|||2^i|||2^k:Nat):Int)) fun o=>(∃r,o.1=eo r/\ Rb n s q fb (D|||2^i|||2^k) r)/\ KnP n s q fb o.2) {l:List Int} (p:KnP n s q fb l):
  Tot (zq88 g ⟨ps,al,pr,(fb:Int),l⟩ (D:Int) (i:Int) (k:Int)) fun o=>KnP n s q fb o.2/\ ((o.1=eo none/\ (fb.testBit i=true \/BIG<=q i k)) \/
   (fb.testBit i=false/\ q i k<BIG/\ ∃w,Rb n s q fb (D|||2^i|||2^k) w/\ o.1=eo (w.map (q i k+ ·)))):=by
 have M:=hS.le;obtain⟨row,z,e⟩:=hP.qe i hi;have e:=e k C G;have j:=yne (hS.q1 i k hi C);unfold zq88;dsimp only
 rw[ybd (a:=i) (by omega),ybd (a:=k) (by omega)];refine .chk (by omega) (.call (P:=fun v=>(v=true/\ (fb.testBit i=true \/BIG<=q i k)) \/(v=false/\ fb.testBit i=false/\ q i k<BIG)) ?_ fun v O=>?_)
 ·rw[yb2 (yca M F) (by omega)];by_cases hb:fb.testBit i=true
  ·rw[if_pos hb];exact .ite (fun _=>.ok (.inl ⟨rfl,.inl hb⟩)) fun h=>by simp at h
  ·rw[if_neg hb];refine .ite (fun h=>by simp at h) fun _=>.eq (ixs z) (.eq (ixs e) (.ok ?_));by_cases y:BIG<=q i k
   ·exact .inl ⟨decide_eq_true (j.1.2 y),.inr y⟩
   ·exact .inr ⟨decide_eq_false fun h=>y (j.1.1 h),by simpa using hb,by omega⟩
 ·rcases O with⟨rfl,h⟩|⟨rfl,I,E⟩
  ·exact .ok ⟨p,.inl ⟨rfl,h⟩⟩
  ·obtain⟨Q,R⟩:=ydt (u:=D) (by omega:n<=12) hD hi;obtain⟨S,V⟩:=ydt (u:=D|||2^i) (by omega:n<=12) R C;simp only[bW,if_false];rw[Q,S];refine .chk (by omega) (.chk (by omega) (.call (A l p) fun r ⟨⟨w,T,H⟩,m⟩=>?_));rw[T];cases w with
   |none=>exact .iteP (fun _=>.ok ⟨m,.inr ⟨I,E,none,H,rfl⟩⟩) fun h=>absurd (show eo none<0 by decide) h
   |some c=>
    have hc:=H.b c rfl;have U:=AZ n (D|||2^i|||2^k);have y:=hS.q1 i k hi C;refine .iteP (fun h=>by simp only[eo]at h;omega) fun _=>.eq (ixs z) (.eq (ixs e) (.ok ⟨m,.inr ⟨I,E,some c,H,?_⟩⟩));rw[j.2 E];show w64 (w64 (100000+((q i k:Int)-100000))+(c:Int))=((q i k+c:Nat):Int);have N:q i k<=103600:=by rcases y with h|h<;>omega
    rw[jaj (x:=100000+((q i k:Int)-100000)) (by omega),jaj (by omega)];omega
def AtK(a K:Nat)(p:Nat×Nat):Prop:=(p.1=a/\ a<p.2/\ p.2<K) \/(p.2=a/\ a<p.1/\ p.1<K)
def AtC(a K:Nat)(m:List (Nat×Nat)):Prop:=∀p∈m,p.1=a \/p.2=a->AtK a K p
theorem yjg(hS:Cst n s q)(hP:PlP n s q ps al pr){fb:Nat}(M:fb<2^n):∀(m N:Nat)(H:List Int)(D:Nat),Zc n D=m->m<N->KnP n s q fb H->D<2^n->
  Tot (ygi N ⟨ps,al,pr,(fb:Int),H⟩ (D:Int)) fun o=>(∃r,o.1=eo r/\ Rb n s q fb D r)/\ KnP n s q fb o.2
 |m,0,H,D,_,hN,_,_=>by omega
 |m,N+1,H,D,hm,hN,A,hD=>by
  have hn:=hS.le;have aj:=hP.pl;have aa:=yca hn hD;have aF:0<2^n:=nG n;have aD:2^n<=256:=(pq (by omega) hn:2^n<=2^8);show Tot (yfc (ygi N) ⟨ps,al,pr,(fb:Int),H⟩ (D:Int)) _;unfold yfc;dsimp only
  rw[aj,ybd (a:=n) (by omega),ykc (by omega),jaj (x:=((2^n:Nat):Int)-1) (by omega)];refine .chk (by omega) (.ite (fun he=>?_) fun he=>?_)
  ·have hf:D=2^n-1:=by have:=beq_iff_eq.1 he;omega
   exact .ok ⟨⟨some 0,rfl,fun i _=>Ct.isT_done ((ypy hD).1 hf),fun c hc=>by cases hc;omega⟩,A⟩
  ·obtain⟨v0,Z⟩:=jak (l:=H) (i:=D) (by rw[A.1];exact hD);refine .eq (ixs Z) (.ite (fun h2=>.eq (ixs Z) (.ok ⟨(A.2 D v0 Z).resolve_left fun e=>by rw[e]at h2;simp at h2,A⟩)) fun _=>?_);have aw:∃a,a<n/\ D.testBit a=false:=by
    refine rQ fun hc=>?_;have:D=2^n-1:=(ypy hD).2 fun j hj=>by
     cases hb:D.testBit j
     ·exact absurd ⟨j,hj,hb⟩ hc
     ·rfl
    rw[this]at he;have T:(((2^n-1:Nat):Int)==((2^n:Nat):Int)-1)=true:=beq_iff_eq.2 (by omega);rw[T]at he;cases he
   obtain⟨a0,aG,U⟩:=aw;refine .call (P:=fun v=>∃a:Nat,v=(a:Int)/\ a<n/\ D.testBit a=false/\ ∀j,j<a->D.testBit j=true) ?_ ?_
   ·refine .iter (fun m v=>∃j:Nat,v=(j:Int)/\ m+j=n/\ j<=a0/\ ∀i,i<j->D.testBit i=true) (n:=n) ⟨0,rfl,rfl,by omega,fun i h=>by omega⟩ ?_;rintro m' v ⟨j,rfl,hj,aI,af⟩;unfold yk5;dsimp only
    rw[ybd (a:=j) (by omega),yb2 aa (by omega)];refine .chk (by omega) ?_;by_cases hb:D.testBit j=true
    ·rw[if_pos hb];have az:j≠a0:=fun e=>by subst e;rw[U]at hb;cases hb
     refine .ite (fun _=>.nx ⟨m'-1,by omega,j+1,jai (by omega),by omega,by omega,fun i hi=>?_⟩) fun h=>by simp at h
     by_cases e:i=j
     ·subst e;exact hb
     ·exact af i (by omega)
    ·rw[if_neg hb];exact .ite (fun h=>by simp at h) fun _=>.dn ⟨j,rfl,by omega,by simpa using hb,af⟩
   rintro _ ⟨a,rfl,E,C,ae⟩;have ao:=hS.s1 a E;have Y:=yne ao;obtain⟨o1,o2⟩:=ydt (u:=D) (by omega:n<=12) hD E;have aC:=A8 E C;have aK:=AZ n D;rw[ybd (a:=a) (by omega)];refine .call (P:=fun o=>KnP n s q fb o.2/\ ∃r,o.1=eo r/\ (∀i,Cmp2 n fb i D->Ct.IsC n s q BIG i D.testBit (AtC a (a+1)) r)/\ ∀c,r=some c->c<=103600*Zc n D) ?_ ?_
   ·have ac:∀m,Ct.Alone a m↔AtC a (a+1) m:=fun m=>by
     unfold Ct.Alone AtC;rw[Ct.mem_flt];constructor
     ·intro h p F e;exact absurd ⟨p,F,by rcases e with e|e;exact .inl e.symm;exact .inr e.symm⟩ h
     ·rintro h ⟨p,F,e⟩;have:=h p F (by rcases e with e|e;exact .inl e.symm;exact .inr e.symm);unfold AtK at this;omega
    refine .eq (ixs (hP.se a E)) (.iteP (fun h0=>.chk (by omega) ?_) fun h0=>.ok ⟨A,none,rfl,fun i hc=>?_,fun c h=>by cases h⟩)
    ·have O:s a<BIG:=by
      rcases jC (s a) BIG with h|h
      ·exact h
      ·have:=Y.1.2 h;omega
     rw[o1];refine .call (yjg hS hP M (Zc n (D|||2^a)) N H (D|||2^a) rfl (by omega) A o2) fun r ⟨⟨w,w1,w2⟩,ah⟩=>?_;have hC:∀i,Cmp2 n fb i D->Ct.IsC n s q BIG i D.testBit (AtC a (a+1)) (w.map (s a+ ·)):=fun i hc=>by
      have:=Ct.isC_alone (i:=i) E C (w:=w) (by rw[yp6];exact w2.t i (ytq hc));rw[if_pos O]at this;exact this.congr fun m _=>ac m
     rw[w1];cases w with
     |none=>exact .iteP (fun h=>absurd h (by decide)) fun _=>.ok ⟨ah,none,rfl,hC,fun c h=>by cases h⟩
     |some c=>
      have aH:=w2.b c rfl;refine .iteP (fun h=>.eq (ixs (hP.se a E)) (.ok ⟨ah,some (s a+c),?_,hC,fun c' e=>by cases e;rw[aC];omega⟩)) fun h=>absurd (show(0:Int)<=(c:Int)by omega) h;rw[Y.2 O];show w64 (w64 (100000+((s a:Int)-100000))+(c:Int))=((s a+c:Nat):Int);rw[jaj (x:=100000+((s a:Int)-100000)) (by omega),jaj (by omega)];omega
    ·have O:¬s a<BIG:=fun h=>h0 (by rw[Y.2 h];rcases ao with e|e<;>omega)
     have hx:Ct.IsC n s q BIG i D.testBit (Ct.Alone a) none:=⟨fun c e=>(by cases e),fun m _ hA hF=>absurd (hF a E (by
      unfold Ct.inM;rw[C,xZ,rR];exact fun h=>hA (xX.1 h))) O⟩
     exact hx.congr fun m _=>ac m
   ·rintro⟨k,v⟩ ⟨ai,r0,e0,aA,U⟩;dsimp only
    have aB:w64 ((a:Int)+1)=((a+1:Nat):Int):=jai (by omega);rw[aB];have ap:∀k,k<n->a≠k->D.testBit k=false->∀H,KnP n s q fb H->Tot (ygi N ⟨ps,al,pr,(fb:Int),H⟩ ((D|||2^a|||2^k:Nat):Int)) fun o=>(∃r,o.1=eo r/\ Rb n s q fb (D|||2^a|||2^k) r)/\ KnP n s q fb o.2:=fun k hk ar aq H A=>by
     obtain⟨_,o4⟩:=ydt (u:=D|||2^a) (by omega:n<=12) o2 hk;have aJ:=A8 (D:=D|||2^a) hk (by rw[ycv,aq];simp[ar.symm]);exact yjg hS hP M (Zc n (D|||2^a|||2^k)) N H _ rfl (by omega) A o4
    have swap:∀k,D|||2^k|||2^a=D|||2^a|||2^k:=fun k=>by rw[Nat.or_assoc,Nat.or_comm (2^k),<-Nat.or_assoc]
    refine .call (P:=fun o=>KnP n s q fb o.2/\ ∃r,o.1=eo r/\ Rb n s q fb D r) ?_ ?_
    ·refine .iter (fun m (x:Int×Int×List Int)=>∃j:Nat,x.2.1=(j:Int)/\ m+j=n/\ a<j/\ KnP n s q fb x.2.2/\ ∃r,x.1=eo r/\ (∀i,Cmp2 n fb i D->Ct.IsC n s q BIG i D.testBit (AtC a j) r)/\ ∀c,r=some c->c<=103600*Zc n D) (n:=n-(a+1)) ⟨a+1,rfl,by omega,by omega,ai,r0,e0,aA,U⟩ ?_;rintro m' ⟨k1,v1,v2⟩ ⟨j,e1,hj,ab,G,r,T,hr,K⟩;simp only at e1 T G;subst e1;unfold yk4;dsimp only
     rw[aj];refine .iteP (fun ax=>?_) (fun ax=>.dn ⟨G,r,T,fun i hc=>?_,K⟩)
     ·refine .call (P:=fun o=>KnP n s q fb o.2/\ ∃r,o.1=eo r/\ (∀i,Cmp2 n fb i D->Ct.IsC n s q BIG i D.testBit (AtC a (j+1)) r)/\ ∀c,r=some c->c<=103600*Zc n D) ?_ fun⟨k2,v4⟩ ⟨g1,g2⟩=>.nx ⟨m'-1,by omega,j+1,jai (by omega),by omega,by omega,g1,g2⟩;have z:j<n:=by omega
      rw[ybd (a:=j) (by omega)];refine .chk (by omega) ?_;rw[yb2 aa (by omega)];by_cases g:D.testBit j=true
      ·rw[if_pos g];refine .ite (fun _=>.ok ⟨G,r,T,fun i hc=>(hr i hc).congr fun m hm=>?_,K⟩) fun h=>by simp at h
       refine⟨fun h p F e=>?_,fun h p F e=>?_⟩
       ·have:=h p F e;unfold AtK at this ⊢;omega
       ·have:=h p F e;obtain⟨_,_,_,g4,g5,_⟩:=hm.hd p F;have n1:p.1≠j:=fun e=>by rw[e,g]at g4;cases g4
        have n2:p.2≠j:=fun e=>by rw[e,g]at g5;cases g5
        unfold AtK at this ⊢;omega
      ·rw[if_neg g];have g:D.testBit j=false:=by simpa using g
       refine .ite (fun h=>by simp at h) fun _=>?_;have aE:=A8 (D:=D|||2^a) z (by rw[ycv,g];simp;omega);have qb:∀(i k:Nat)(w:Option Nat),i<n->k<n->q i k<BIG->Rb n s q fb (D|||2^a|||2^j) w->∀c,w.map (q i k+ ·)=some c->c<=103600*Zc n D:=fun i k w hi hk hq hw c hc=>by
        cases w with
        |none=>cases hc
        |some c'=>
         cases hc;have:=hw.b c' rfl;have:=hS.q1 i k hi hk;show q i k+c'<=_;rcases this with h|h<;>omega
       have mb:∀{r w:Option Nat},(∀c,r=some c->c<=103600*Zc n D)->(∀c,w=some c->c<=103600*Zc n D)->∀c,Ct.minO r w=some c->c<=103600*Zc n D:=fun{r w} h1 h2 c hc=>by
        cases r with
        |none=>exact h2 c hc
        |some x=>
         cases w with
         |none=>exact h1 c hc
         |some y=>
          have e:=gT hc;have:=h1 x rfl;omega
       refine .call (P:=fun o=>KnP n s q fb o.2/\ ∃r,o.1=eo r/\ (∀i,Cmp2 n fb i D->Ct.IsC n s q BIG i D.testBit (fun m=>∀p∈m,p.1=a \/p.2=a->AtK a j p \/p=(a,j)) r)/\ ∀c,r=some c->c<=103600*Zc n D) ?_ ?_
       ·refine .call (yjl hS hP M hD E z (by omega) C g (ap j z (by omega) g) G) fun r1 ⟨I,X⟩=>?_;rcases X with⟨Q,b2⟩|⟨Q,b2,w,b3,b4⟩
        ·obtain⟨R,S⟩:=comb r none;rw[Q,T];refine .eq R ?_;refine .ite (fun h=>by cases r<;>cases h) fun _=>.ok ⟨I,r,rfl,fun i hc=>Ct.isC_no (hr i hc) ?_,K⟩
         rcases b2 with b2|b2
         ·exact .inl ((hc a E C).1 b2)
         ·exact .inr (.inr (.inr (.inl b2)))
        ·obtain⟨R,S⟩:=comb r (w.map (q a j+ ·));rw[b4,T];have hC:∀i,Cmp2 n fb i D->Ct.IsC n s q BIG i D.testBit (fun m=>∀p∈m,p.1=a \/p.2=a->AtK a j p \/p=(a,j)) (Ct.minO r (w.map (q a j+ ·))):=fun i hc=>Ct.isC_add (hr i hc) (.inl rfl) (by
          rcases jC a i with h|h
          ·have:=(hc a E C).2 h;rw[Q]at this;cases this
          ·exact h) E z C g b2 (by omega) (by rw[ydi];exact b3.t i (ytq (ytq hc)))
         have J:=mb K (qb a j w E z b2 b3);refine .eq R (.ite (fun h=>.ok ⟨I,_,?_,hC,J⟩) fun h=>.ok ⟨I,_,?_,hC,J⟩)
         ·rw[<-S,if_pos h]
         ·rw[<-S,if_neg (by rw[h];simp)]
       ·rintro⟨k3,v3⟩ ⟨I,r3,e3,ak,ad⟩;simp only at e3 I;dsimp only
        have fin:∀i (r:Option Nat),Ct.IsC n s q BIG i D.testBit (fun m=>∀p∈m,p.1=a \/p.2=a->(AtK a j p \/p=(a,j)) \/p=(j,a)) r->Ct.IsC n s q BIG i D.testBit (AtC a (j+1)) r:=fun i r h=>h.congr fun m hm=>by
         refine⟨fun h p F e=>?_,fun h p F e=>?_⟩
         ·rcases h p F e with(h|h)|h
          ·unfold AtK at h ⊢;omega
          ·subst h;exact .inl ⟨rfl,ab,Am _⟩
          ·subst h;exact .inr ⟨rfl,ab,Am _⟩
         ·have h:=h p F e;obtain⟨p1,p2⟩:=p;unfold AtK at h ⊢;simp only[eY]at h ⊢;omega
        refine .call (yjl hS hP M hD z E (by omega) g C (fun H A=>by rw[swap j];exact ap j z (by omega) g H A) I) fun r1 ⟨V,X⟩=>?_;rcases X with⟨Q,b2⟩|⟨Q,b2,w,b3,b4⟩
        ·obtain⟨R,S⟩:=comb r3 none;rw[Q,e3];refine .eq R ?_;refine .ite (fun h=>by cases r3<;>cases h) fun _=>.ok ⟨V,r3,rfl,fun i hc=>fin i _ (Ct.isC_no (ak i hc) ?_),ad⟩
         rcases b2 with b2|b2
         ·exact .inl ((hc j z g).1 b2)
         ·exact .inr (.inr (.inr (.inl b2)))
        ·obtain⟨R,S⟩:=comb r3 (w.map (q j a+ ·));rw[b4,e3];rw[swap j]at b3;have hC:∀i,Cmp2 n fb i D->Ct.IsC n s q BIG i D.testBit (AtC a (j+1)) (Ct.minO r3 (w.map (q j a+ ·))):=fun i hc=>fin i _ (Ct.isC_add (ak i hc) (.inr rfl) (by
          rcases jC j i with h|h
          ·have:=(hc j z g).2 h;rw[Q]at this;cases this
          ·exact h) z E g C b2 (by omega) (by rw[ydi,swap j];exact b3.t i (ytq (ytq hc))))
         have J:=mb ad (qb j a w z E b2 b3);refine .eq R (.ite (fun h=>.ok ⟨V,_,?_,hC,J⟩) fun h=>.ok ⟨V,_,?_,hC,J⟩)
         ·rw[<-S,if_pos h]
         ·rw[<-S,if_neg (by rw[h];simp)]
     ·have z:j=n:=by omega
      subst z;refine(hr i hc).congr fun m hm=>⟨fun _=>trivial,fun _ p F e=>?_⟩;obtain⟨_,g2,g3,g4,g5,_⟩:=hm.hd p F;have az:p.1≠p.2:=fun e=>by
       obtain⟨m',_,ay⟩:=hm.front F;have:=ay.nd;simp[Ct.flt,e]at this
      have n1:¬p.1<a:=fun h=>by rw[ae _ h]at g4;cases g4
      have n2:¬p.2<a:=fun h=>by rw[ae _ h]at g5;cases g5
      unfold AtK;omega
    ·rintro⟨k4,v6⟩ ⟨W,r6,e6,am⟩;simp only at e6 W;obtain⟨e4,au⟩:=jak (l:=v6) (i:=D) (by rw[W.1];exact hD);refine .eq (ixs au) (.ok ⟨⟨r6,e6,am⟩,?_⟩);rw[gI,e6];exact J8 W am
theorem yjh(hS:Cst n s q)(hP:PlP n s q ps al pr){fb D:Nat}{e:List Int}(a:fb<2^n)(b:KnP n s q fb e)(hD:D<2^n):Tot (zq89 ⟨ps,al,pr,(fb:Int),e⟩ (D:Int)) fun o=>(∃r,o.1=eo r/\ Rb n s q fb D r)/\ KnP n s q fb o.2:=by
 unfold zq89;have:=hS.le;have:=AZ n D;exact yjg hS hP a _ _ e D rfl (by omega) b hD
end
namespace Ct
theorem ywo{P:Nat->Prop}(h:∃x,P x):∃x,P x/\ ∀y,P y->x<=y:=by
 refine rQ fun hc=>?_;have:∀n x,x<=n->¬P x:=by
  intro n
  induction n with
  |zero=>
   intro x b a;exact hc ⟨x,a,fun y _=>by omega⟩
  |succ n g=>
   intro x b a;refine hc ⟨x,a,fun y e=>?_⟩;rcases jC y x with h|h
   ·exact absurd e (g y (by omega))
   ·exact h
 obtain⟨x,b⟩:=h;exact this x x (dQ _) b
theorem isG_ex(n:Nat)(s:Nat->Nat)(q:Nat->Nat->Nat)(B i:Nat)(P:Nat->Bool):∃v,IsG n s q B i P v:=by
 obtain⟨v,⟨m,a,b⟩,e⟩:=ywo (P:=fun v=>∃m,Mt n q B i P m/\ cm n s q P m=v) ⟨_,[],⟨fun p h=>by simp at h,by simp[flt]⟩,rfl⟩;exact⟨v,⟨m,a,b⟩,fun m g=>e _ ⟨m,g,rfl⟩⟩
theorem isG_drop{n:Nat}{s:Nat->Nat}{q:Nat->Nat->Nat}{B i:Nat}{P:Nat->Bool}{v:Nat}(h:IsG n s q B i P v)(M:∀k w,k<n->i≠k->P i=false->P k=false->q i k<B->IsG n s q B (i+1) (add2 P i k) w->q i k+w≠v):IsG n s q B (i+1) P v:=by
 obtain⟨⟨m,o,E⟩,F⟩:=h;have key:∀p∈m,p.1≠i:=fun p a e=>by
  obtain⟨O,C,j⟩:=o.front a;obtain⟨b,u⟩:=p;simp only at e;subst e;obtain⟨R,H,x,y,z,A⟩:=o.hd _ a;simp only at H x y z A;have l:b≠u:=fun e=>by have:=j.nd;simp[flt,e]at this
  obtain⟨w,D⟩:=isG_ex n s q B (b+1) (add2 P b u);refine M u w x l y z A D ?_;have J:=j.tail;have S:=D.2 O (J.heads fun p a=>by
   have g:=J.hd p a;have:p.1≠b:=fun e=>by have:=g.2.2.2.1;simp[add2,e]at this
   omega)
  rw[ynp C,ydx]at E;obtain⟨⟨Q,G,K⟩,_⟩:=D;have N:=F ((b,u)::Q) ((G.heads (i':=b) fun p a=>by have:=(G.hd p a).1;omega).cons (dQ _) H x y z A l);rw[ydx,K]at N;omega
 exact⟨⟨m,o.heads fun p a=>by have:=key p a;have:=(o.hd p a).1;omega,E⟩,fun m I=>F m (I.heads fun p a=>by have:=(I.hd p a).1;omega)⟩
end Ct
noncomputable def Wv(n:Nat)(s:Nat->Nat)(q:Nat->Nat->Nat)(i u:Nat):Nat:=Classical.epsilon fun v=>Ct.IsG n s q BIG i u.testBit v
theorem yj4(n:Nat)(s:Nat->Nat)(q:Nat->Nat->Nat)(i u:Nat):Ct.IsG n s q BIG i u.testBit (Wv n s q i u):=Classical.epsilon_spec (Ct.isG_ex n s q BIG i u.testBit)
theorem yiw{n:Nat}{s:Nat->Nat}{q:Nat->Nat->Nat}{i u v:Nat}(h:Ct.IsG n s q BIG i u.testBit v):Wv n s q i u=v:=(yj4 n s q i u).uniq h
def okF(n:Nat)(s:Nat->Nat)(q:Nat->Nat->Nat)(i u k:Nat):Prop:=i≠k/\ u.testBit i=false/\ u.testBit k=false/\ q i k<BIG/\ q i k+Wv n s q (i+1) (u|||2^i|||2^k)=Wv n s q i u
noncomputable instance(n:Nat)(s:Nat->Nat)(q:Nat->Nat->Nat)(i u k:Nat):Decidable (okF n s q i u k):=Classical.propDecidable _
noncomputable def fk(n:Nat)(s:Nat->Nat)(q:Nat->Nat->Nat)(i u:Nat):Option Nat:=(List.range n).find? fun k=>decide (okF n s q i u k)
theorem yud{n:Nat}{s:Nat->Nat}{q:Nat->Nat->Nat}{i u k:Nat}(b:k<n)(h:okF n s q i u k)(e:∀j,j<k->¬okF n s q i u j):fk n s q i u=some k:=by
 unfold fk;rw[List.find?_range_eq_some];exact⟨decide_eq_true h,jo.2 b,fun j a=>by simp[e j a]⟩
theorem ynl{n:Nat}{s:Nat->Nat}{q:Nat->Nat->Nat}{i u:Nat}(b:∀j,j<n->¬okF n s q i u j):fk n s q i u=none:=by
 unfold fk;rw[List.find?_eq_none];intro j a;simp[b j (jo.1 a)]
theorem yks{n:Nat}{s:Nat->Nat}{q:Nat->Nat->Nat}{i u k:Nat}(h:fk n s q i u=some k):k<n/\ okF n s q i u k:=by
 unfold fk at h;have a:=List.find?_some h;have b:=List.mem_of_find?_eq_some h;exact⟨jo.1 b,of_decide_eq_true a⟩
noncomputable def stU(n:Nat)(s:Nat->Nat)(q:Nat->Nat->Nat):Nat->Nat
 |0=>0
 |i+1=>match fk n s q i (stU n s q i)with
  |some k=>stU n s q i|||2^i|||2^k
  |none=>stU n s q i
noncomputable def bh(n:Nat)(s:Nat->Nat)(q:Nat->Nat->Nat)(i:Nat):Option Nat:=fk n s q i (stU n s q i)
theorem yj9{n:Nat}{s:Nat->Nat}{q:Nat->Nat->Nat}:∀i,i<=n->stU n s q i<2^n
 |0,_=>nG n
 |i+1,h=>by
  have a:=yj9 (n:=n) (s:=s) (q:=q) i (by omega);unfold stU;split
  ·rename_i k b;exact Ak (Ak a (xS (by omega) (by omega))) (xS (by omega) (yks b).1)
  ·exact a
def prD(ps:List (List Int))(n:Nat)(s:Nat->Nat)(q:Nat->Nat->Nat)(b:Nat->Option Nat)(j:Nat):Option bB:=(b j).map fun k=>⟨[ps.getD j [],ps.getD k []]⟩
def snD(ps:List (List Int))(u j:Nat):Option bB:=if u.testBit j=true then none else some ⟨[ps.getD j []]⟩
theorem yf4{α:Type}(f:Nat->Option α)(i:Nat):(List.range (i+1)).filterMap f=(List.range i).filterMap f++(f i).toList:=by
 rw[List.range_succ,List.filterMap_append];cases h:f i<;>simp[h]
theorem ygx{α:Type}(f:Nat->Option α)(i:Nat):((List.range i).filterMap f).length<=i:=by
 have:=List.length_filterMap_le f (List.range i)
 rwa [mo]at this
section
variable{n:Nat}{s:Nat->Nat}{q:Nat->Nat->Nat}{ps:List (List Int)}{sg:List bI}{pr:List (List bI)}
theorem yuj(hS:Cst n s q)(hC:CuP n s q ps sg pr){g:List ((Int×Int)×bI)}(T:MmP n s q g):
  Tot (iter (yhq ⟨ps,sg,pr,g⟩) ((0:Int),(0:Int),g,([]:List bB))) fun o=>o.1=(stU n s q n:Int)/\ o.2.2=(List.range n).filterMap (prD ps n s q (bh n s q)):=by
 have hn:=hS.le;have ad:=hC.pl;refine .iter (fun m (a:Int×Int×(List ((Int×Int)×bI))×(List bB))=>∃i:Nat,a.2.1=(i:Int)/\ m+i=n/\ a.1=(stU n s q i:Int)/\ MmP n s q a.2.2.1/\ a.2.2.2=(List.range i).filterMap (prD ps n s q (bh n s q))) (n:=n) ⟨0,rfl,rfl,rfl,T,rfl⟩ ?_;rintro m ⟨u',v,v1,out⟩ ⟨i,e1,hi,M,F,E⟩;simp only at e1 M F E;subst e1;subst M;unfold yhq;dsimp only
 refine .iteP (fun W=>?_) fun W=>.dn ?_
 ·have A:i<n:=by omega
  have J:=yj9 (n:=n) (s:=s) (q:=q) i (by omega);refine .call (P:=fun o=>o.1=(stU n s q (i+1):Int)/\ MmP n s q o.2.1/\ o.2.2=(List.range (i+1)).filterMap (prD ps n s q (bh n s q))) ?_ fun⟨i1,v2,p1⟩ ⟨g1,g2,g3⟩=>.nx ⟨m-1,by omega,i+1,jai (by omega),by omega,g1,g2,g3⟩;refine .call (yfb hS hC (by omega) F J) fun r ⟨⟨w,w1,w2,_⟩,U⟩=>?_;have K:=yiw w2;refine .call (P:=fun o=>o.1=(stU n s q (i+1):Int)/\ MmP n s q o.2.1/\ o.2.2=(List.range (i+1)).filterMap (prD ps n s q (bh n s q))) ?_ fun⟨i2,v6,p2⟩ ho=>.ok ho;refine .iter (fun m (a:Int×(List ((Int×Int)×bI)))=>∃k:Nat,a.1=(k:Int)/\ m+k=n/\ MmP n s q a.2/\ ∀j,j<k->¬okF n s q i (stU n s q i) j) (n:=n) ⟨0,rfl,rfl,U,fun j h=>by omega⟩ ?_;rintro m' ⟨v3,v4⟩ ⟨k,e4,hk,z,C⟩;simp only at e4 z;subst e4;unfold ylv;dsimp only
  refine .iteP (fun V=>?_) fun V=>.dn ?_
  ·have p:k<n:=by omega
   have I:∀g (u:Nat),MmP n s q g->u<2^n->Tot (zq20 ⟨ps,sg,pr,g⟩ ((i+1:Nat):Int) (u:Int)) fun r=>(∃v,r.1=prc v/\ Ct.IsG n s q BIG (i+1) u.testBit v/\ Cc (n+(n-(i+1))) v)/\ MmP n s q r.2:=fun g u T J=>yfb hS hC (by omega) T J;refine .call (yxd hS hC A I z p J) fun r1 ⟨N,b2⟩=>?_;have gU:¬okF n s q i (stU n s q i) k->∀j,j<k+1->¬okF n s q i (stU n s q i) j:=fun h j hj=>by
    by_cases e:j=k
    ·subst e;exact h
    ·exact C j (by omega)
   rcases b2 with⟨O,Q⟩|⟨O,Q,b5,b6,b7,w',b8,b9,ac,ab⟩
   ·refine .call (P:=fun b=>b=false) (by simp only[O,bW,if_false];exact .ok rfl) fun b hb=>?_;subst hb;refine .nx ⟨m'-1,by omega,k+1,jai (by omega),by omega,N,gU ?_⟩;rintro⟨R,D,Y,c4,_⟩;rcases Q with h|h|h|h
    ·exact R h
    ·rw[h]at D;cases D
    ·rw[h]at Y;cases Y
    ·omega
   ·have y:=yiw b9;obtain⟨rr,R,_,D⟩:=yi2 (q i k+w') w;refine .call (P:=fun b=>b=(rr==0)) (by simp only[O,if_true];rw[b8,w1];exact .eq R (.ok rfl)) fun b hb=>?_;subst hb;refine .ite (fun h0=>?_) fun h0=>?_
    ·have X:okF n s q i (stU n s q i) k:=⟨Q,b5,b6,b7,by rw[y,K];exact D.1 (by simpa using h0)⟩;have x:=yud p X C;obtain⟨M,G⟩:=jak (l:=ps) (i:=i) (by omega);obtain⟨S,H⟩:=jak (l:=ps) (i:=k) (by omega);have aa:=ygx (prD ps n s q (bh n s q)) i;refine .eq (ixs G) (.eq (ixs H) (.chk (by rw[E,lQ];omega) (.chk (by omega) (.chk (by omega) (.dn ?_)))));obtain⟨_,o2⟩:=ydt (u:=2^i) (by omega:n<=12) (xS (by omega) A) p;refine⟨?_,N,?_⟩
     ·simp only
      rw[ykc (a:=i) (by omega),(ydt (u:=2^i) (by omega:n<=12) (xS (by omega) A) p).1,or64 (yca hn J) (yca hn o2),<-Nat.or_assoc];show _=((stU n s q (i+1):Nat):Int);rw[stU,x]
     ·simp only
      rw[E,yf4];have:prD ps n s q (bh n s q) i=some ⟨[M,S]⟩:=by
       unfold prD bh;rw[x];simp only[gW,dD,G,H,rC]
      rw[this];rfl
    ·refine .nx ⟨m'-1,by omega,k+1,jai (by omega),by omega,N,gU ?_⟩;rintro⟨_,_,_,_,Z⟩;rw[y,K]at Z;have:=D.2 Z;subst this;simp at h0
  ·have p:k=n:=by omega
   subst p;have x:=ynl C;refine⟨?_,z,?_⟩
   ·simp only
    rw[stU,x]
   ·simp only
    rw[E,yf4];have:prD ps k s q (bh k s q) i=none:=by
     unfold prD bh;rw[x];rfl
    rw[this];simp
 ·have:i=n:=by omega
  subst this;exact⟨rfl,E⟩
theorem yqv(y:n<=8)(z:ps.length=n){g:List ((Int×Int)×bI)}{u:Nat}(A:u<2^n){out:List bB}(x:out.length<=8):
  iter (yhp ⟨ps,sg,pr,g⟩ (u:Int)) ((0:Int),out)=some (out++(List.range n).filterMap (snD ps u)):=by
 refine Tot.val (.iter (fun m (a:Int×List bB)=>∃j:Nat,a.1=(j:Int)/\ m+j=n/\ a.2=out++(List.range j).filterMap (snD ps u)) (n:=n) ⟨0,rfl,rfl,by simp⟩ ?_);rintro m ⟨E,D⟩ ⟨j,p,C,b⟩;simp only at p b;subst p;unfold yhp;dsimp only
 refine .iteP (fun k=>?_) fun k=>.dn ?_
 ·obtain⟨e,v⟩:=jak (l:=ps) (i:=j) (by omega);have w:=ygx (snD ps u) j;refine .call (P:=fun o=>o=out++(List.range (j+1)).filterMap (snD ps u)) (.eq (ixs v) (.chk (by omega) ?_)) fun o x=>.nx ⟨m-1,by omega,j+1,jai (by omega),by omega,x⟩;rw[yb2 (yca y A) (by omega),yf4];by_cases hb:u.testBit j=true
  ·rw[if_pos hb];exact .ite (fun h=>by simp at h) fun _=>.ok (by rw[b];unfold snD;rw[if_pos hb];simp)
  ·rw[if_neg hb];refine .ite (fun _=>.chk (by rw[b,gu,lQ];omega) (.ok ?_)) fun h=>by simp at h
   rw[b];unfold snD;rw[if_neg hb];simp[dD,v]
 ·have:j=n:=by omega
  subst this;exact b
end
theorem g_t2{n:Nat}{s:Nat->Nat}{q:Nat->Nat->Nat}(hS:Cst n s q){i v:Nat}{P:Nat->Bool}{r:Option Nat}(g:Ct.IsG n s q BIG i P v)(l:Ct.IsT n s q BIG i P r):(v<BIG->r=some v)/\ (BIG<=v->r=none):=by
 have m:=hS.le;refine Ct.g_t (C:=103600) g l (fun k j h=>?_) (fun a b e hb h=>?_) ?_
 ·have:=hS.s1 k j;omega
 ·have:=hS.q1 a b e hb;omega
 ·unfold BIG;omega
theorem ywu{n:Nat}{s:Nat->Nat}{q:Nat->Nat->Nat}{B i v:Nat}{P:Nat->Bool}(h:Ct.IsG n s q B i P v)(hP:P i=true):Ct.IsG n s q B (i+1) P v:=
 Ct.isG_drop h fun k w _ _ a=>by rw[hP]at a;cases a
section
variable{n:Nat}{s:Nat->Nat}{q:Nat->Nat->Nat}{ps:List (List Int)}{al:List Int}{pr:List (List Int)}
theorem yi1(F:n<=8)(k:ps.length=n){A:Int}{G:List Int}{fb:Nat}:Tot (zq90 ⟨ps,al,pr,A,G⟩ (fb:Int)) fun x=>∃y,x=⟨ps,al,pr,(fb:Int),y⟩/\ KnP n s q fb y:=by
 have C:0<2^n:=nG n;have w:2^n<=256:=(pq (by omega) F:2^n<=2^8);unfold zq90;dsimp only
 rw[k,ybd (a:=n) (by omega),ykc (by omega),gI];refine .chk (by omega) (.chk (by omega) ?_);refine .iter (fun m (a:Int×List Int)=>∃j:Nat,a.1=(j:Int)/\ m+j=2^n/\ a.2.length=2^n/\ ∀i,i<j->a.2[i]? =some (-2)) (n:=2^n) ⟨0,rfl,by omega,by simp,fun i h=>by omega⟩ ?_;rintro m ⟨v,z⟩ ⟨j,u,H,b,p⟩;simp only at u b p;subst u;unfold yk2;dsimp only
 refine .iteP (fun g=>?_) fun g=>.dn ⟨z,rfl,b,fun D v o=>.inl ?_⟩
 ·obtain⟨e,E⟩:=jak (l:=z) (i:=j) (by omega);refine .eq (ixs E) (.nx ⟨m-1,by omega,j+1,jai (by omega),by omega,by simp only;rw[gH];exact b,fun i hi=>?_⟩);simp only
  rw[gI,D8];by_cases e:j=i
  ·subst e;simp;omega
  ·rw[if_neg e];exact p i (by omega)
 ·have:=fK o;rw[p D (by omega)]at o;cases o;rfl
noncomputable def bhI(n:Nat)(s:Nat->Nat)(q:Nat->Nat->Nat)(i:Nat):Int:=(((bh n s q i).getD n:Nat):Int)
noncomputable def bhL(n:Nat)(s:Nat->Nat)(q:Nat->Nat->Nat)(i:Nat):List Int:=(List.range i).map (bhI n s q)++List.replicate (n-i) (n:Int)
theorem yp4{i:Nat}(hi:i<n):(bhL n s q i)[i]? =some (n:Int):=by
 unfold bhL;rw[kg (by simp)];simp only[iy,mo,ow];rw[Ay,if_pos (by omega)]
theorem ynr{i:Nat}(hi:i<=n):(bhL n s q i).length=n:=by unfold bhL;simp;omega
theorem ydg{i:Nat}(hi:i<n):bhL n s q (i+1)=(bhL n s q i).set i (bhI n s q i):=by
 unfold bhL;rw[DZ _ _ (by simp)];simp only[iy,mo,ow];obtain⟨c,hc⟩:∃c,n-i=c+1:=⟨n-i-1,by omega⟩;have a:n-(i+1)=c:=by omega
 rw[hc,a,List.replicate_succ,xV,List.range_succ,oD,eU];rfl
theorem yus(hS:Cst n s q)(hP:PlP n s q ps al pr){f0:Int}{k0:List Int}(hW:Wv n s q 0 0<BIG):Tot (zq87 ⟨ps,al,pr,f0,k0⟩) fun o=>o.1=bhL n s q n/\ o.2.bP=ps:=by
 have hn:=hS.le;have E:=hP.pl;have T:0<2^n:=nG n;unfold zq87;dsimp only
 rw[E];refine .chk (by omega) (.call (yi1 (s:=s) (q:=q) (fb:=0) hn E) fun x ⟨kn,hx,y⟩=>?_);subst hx;dsimp only
 refine .call (yjh hS hP (D:=0) T y T) fun r1 ⟨⟨r,e1,hr⟩,aq⟩=>?_;have ac:Cmp2 n 0 0 0:=fun j _ _=>by simp
 have ar:=(g_t2 hS (yj4 n s q 0 0) (hr.t 0 ac)).1 hW;subst ar;refine .call (P:=fun o=>o=List.replicate n (n:Int)) ?_ ?_
 ·rw[gI];refine .iter (fun m (a:Int×List Int)=>∃j:Nat,a.1=(j:Int)/\ m+j=n/\ j<=n/\ a.2=List.replicate j (n:Int)++List.replicate (n-j) 0) (n:=n) ⟨0,rfl,rfl,by omega,by simp⟩ ?_;rintro m ⟨v,v1⟩ ⟨j,e1,O,ay,e2⟩;simp only at e1 e2;subst e1;unfold yk9;dsimp only
  rw[E];refine .iteP (fun X=>?_) fun X=>.dn ?_
  ·obtain⟨e,he⟩:=jak (l:=v1) (i:=j) (by rw[e2];simp;omega);refine .eq (ixs he) (.nx ⟨m-1,by omega,j+1,jai (by omega),by omega,by omega,?_⟩);simp only
   obtain⟨c,hc⟩:∃c,n-j=c+1:=⟨n-j-1,by omega⟩;have ak:n-(j+1)=c:=by omega
   rw[e2,gI,DZ _ _ (by simp),xW,ow,hc,ak,List.replicate_succ (n:=c),xV,List.replicate_succ' (n:=j),eU];rfl
  ·have:j=n:=by omega
   subst this;rw[e2];simp
 rintro _ rfl;refine .call (P:=fun o=>o.1=ps/\ o.2.2.2.2.1=bhL n s q n) ?_ fun⟨aF,aG,aH,aI,d7,aJ⟩ ⟨g1,g2⟩=>.ok ⟨g2,g1⟩;refine .iter (fun m (a:Int×Int×Int×Int×(List (List Int))×(List Int)×(List (List Int))×Int×(List Int)×(List Int))=>∃i fb w:Nat,a.2.2.2.1=(i:Int)/\ m+i=n/\ a.1=(stU n s q i:Int)/\ a.2.1=(fb:Int)/\ fb<2^n/\ a.2.2.1=(w:Int)/\ Ct.IsG n s q BIG i (stU n s q i).testBit w/\ w<BIG/\ Cmp2 n fb i (stU n s q i)/\
  a.2.2.2.2.1=ps/\ a.2.2.2.2.2.1=al/\ a.2.2.2.2.2.2.1=pr/\ a.2.2.2.2.2.2.2.1=(fb:Int)/\ a.2.2.2.2.2.2.2.2.1=bhL n s q i/\ KnP n s q fb a.2.2.2.2.2.2.2.2.2) (n:=n) ⟨0,0,Wv n s q 0 0,rfl,rfl,rfl,rfl,T,e1,yj4 n s q 0 0,hW,ac,rfl,rfl,rfl,rfl,by unfold bhL;simp,aq⟩ ?_
 rintro m ⟨dn,fo,lf,k,v,v1,v2,v3,lst,v4⟩ ⟨i,fb,w,a1,a2,a3,a4,a5,a6,a7,a8,a9,I,J,K,aa,ab,R⟩;simp only at a1 a3 a4 a6 I J K aa ab R;subst a1;subst a3;subst a4;subst a6;replace I:=I.symm;replace J:=J.symm;replace K:=K.symm;subst I;subst J;subst K;subst aa;subst ab;unfold yk7;dsimp only
 rw[E];refine .iteP (fun X=>?_) fun X=>.dn ?_
 ·have g:i<n:=by omega
  have hu:=yj9 (n:=n) (s:=s) (q:=q) i (by omega);have aA:=yj9 (n:=n) (s:=s) (q:=q) (i+1) (by omega);have F:=yiw a7;refine .call (P:=fun o=>∃fb w:Nat,o.1=(stU n s q (i+1):Int)/\ o.2.1=(fb:Int)/\ fb<2^n/\ o.2.2.1=(w:Int)/\ Ct.IsG n s q BIG (i+1) (stU n s q (i+1)).testBit w/\ w<BIG/\ Cmp2 n fb (i+1) (stU n s q (i+1))/\
   o.2.2.2.1=ps/\ o.2.2.2.2.1=al/\ o.2.2.2.2.2.1=pr/\ o.2.2.2.2.2.2.1=(fb:Int)/\ o.2.2.2.2.2.2.2.1=bhL n s q (i+1)/\ KnP n s q fb o.2.2.2.2.2.2.2.2) ?_ fun⟨b1,b2,b3,b4,b5,b6,b7,b8,b9⟩ ⟨aj,w',c⟩=>.nx ⟨m-1,by omega,i+1,aj,w',jai (by omega),by omega,c⟩
  rw[ybd (a:=i) (by omega),yb2 (yca hn hu) (by omega)];refine .chk (by omega) ?_;by_cases hb:(stU n s q i).testBit i=true
  ·rw[if_pos hb];refine .ite (fun _=>.ok ?_) fun h=>by simp at h
   have p:fk n s q i (stU n s q i)=none:=ynl fun j _ ⟨_,S,_⟩=>by rw[hb]at S;cases S
   have z:stU n s q (i+1)=stU n s q i:=by rw[stU,p]
   refine⟨fb,w,by rw[z],rfl,a5,rfl,by rw[z];exact ywu a7 hb,a8,?_,rfl,rfl,rfl,rfl,?_,R⟩
   ·rw[z];intro j O hD;have:=a9 j O hD;have ai:j≠i:=fun e=>by subst e;rw[hb]at hD;cases hD
    rw[this];omega
   ·rw[ydg g];have:bhI n s q i=(n:Int):=by unfold bhI bh;rw[p];rfl
    rw[this];exact(jm7 (yp4 g)).symm
  ·rw[if_neg hb];have V:(stU n s q i).testBit i=false:=by simpa using hb
   refine .ite (fun h=>by simp at h) fun _=>?_;refine .call (P:=fun o=>KnP n s q fb o.2/\ o.1=bhL n s q (i+1)) ?_ ?_
   ·refine .iter (fun m (a:Int×List Int×List Int)=>∃k:Nat,a.1=(k:Int)/\ m+k=n/\ KnP n s q fb a.2.2/\ ((a.2.1=bhL n s q i/\ ∀j,j<k->¬okF n s q i (stU n s q i) j) \/(a.2.1=bhL n s q (i+1)/\ ∃k,fk n s q i (stU n s q i)=some k))) (n:=n) ⟨0,rfl,rfl,R,.inl ⟨rfl,fun j h=>by omega⟩⟩ ?_;rintro m' ⟨aB,d4,aC⟩ ⟨k,e4,hk,G,hd⟩;simp only at e4 G hd;subst e4;unfold yk8;dsimp only
    rw[E];rcases hd with⟨rfl,Y⟩|⟨rfl,k',ae⟩
    ·refine .call (P:=fun b=>b=decide (k<n)) (.iteP (fun h=>.eq (ixs (yp4 g)) (.ok (by rw[decide_eq_true (show k<n by omega)];simp))) fun h=>.ok (by rw[decide_eq_false (show¬k<n by omega)])) fun b U=>?_;subst U;refine .iteP (fun y=>?_) fun y=>.dn ⟨G,?_⟩
     ·have gU:¬okF n s q i (stU n s q i) k->∀j,j<k+1->¬okF n s q i (stU n s q i) j:=fun h j O=>by
       by_cases e:j=k
       ·subst e;exact h
       ·exact Y j (by omega)
      refine .call (P:=fun o=>KnP n s q fb o.2/\ ((o.1=bhL n s q i/\ ∀j,j<k+1->¬okF n s q i (stU n s q i) j) \/(o.1=bhL n s q (i+1)/\ ∃k,fk n s q i (stU n s q i)=some k))) ?_ fun⟨d5,aD⟩ ⟨g1,g2⟩=>.nx ⟨m'-1,by omega,k+1,jai (by omega),by omega,g1,g2⟩;refine .call (P:=fun b=>(b=true/\ (k=i \/(stU n s q i).testBit k=true)) \/(b=false/\ i≠k/\ (stU n s q i).testBit k=false)) ?_ ?_
      ·refine .ite (fun h=>.ok (.inl ⟨rfl,.inl (by have:=beq_iff_eq.1 h;omega)⟩)) fun h=>?_;rw[ybd (a:=k) (by omega),yb2 (yca hn hu) (by omega)];refine .chk (by omega) ?_;by_cases N:(stU n s q i).testBit k=true
       ·rw[if_pos N];exact .ok (.inl ⟨rfl,.inr N⟩)
       ·rw[if_neg N];exact .ok (.inr ⟨rfl,fun e=>by subst e;simp at h,by simpa using N⟩)
      rintro b (⟨rfl,h⟩|⟨rfl,h1,S⟩)
      ·refine .ok ⟨G,.inl ⟨rfl,gU ?_⟩⟩;rintro⟨c1,_,c3,_⟩;rcases h with h|h
       ·exact c1 h.symm
       ·rw[h]at c3;cases c3
      ·obtain⟨_,o2⟩:=ydt (u:=stU n s q i) (by omega:n<=12) hu g;obtain⟨_,o4⟩:=ydt (u:=stU n s q i|||2^i) (by omega:n<=12) o2 y;refine .call (yjl hS hP a5 hu g y h1 V S (fun kn y=>yjh hS hP a5 y o4) G) fun r2 ⟨W,H⟩=>?_;have ao:fb.testBit i=false:=by
        cases h:fb.testBit i
        ·rfl
        ·have:=(a9 i g V).1 h;omega
       rcases H with⟨b1,b2⟩|⟨b1,b2,w2,b3,b4⟩
       ·have hq:BIG<=q i k:=by
         rcases b2 with h|h
         ·rw[ao]at h;cases h
         ·exact h
        rw[b1];refine .ite (fun h=>by have h:eo none=(w:Int):=beq_iff_eq.1 h;simp only[eo]at h;omega) fun _=>.ok ⟨W,.inl ⟨rfl,gU fun⟨_,_,_,c4,_⟩=>by omega⟩⟩
       ·have am:Cmp2 n fb (i+1) (stU n s q i|||2^i|||2^k):=fun j O hD=>by
         rw[ycv,ycv,qz,qz]at hD;have:=a9 j O hD.1.1;have ai:j≠i:=fun e=>by have:=hD.1.2;simp[e]at this
         rw[this];omega
        have ad:=g_t2 hS (yj4 n s q (i+1) (stU n s q i|||2^i|||2^k)) (b3.t (i+1) am);have Q:r2.1=(w:Int)↔okF n s q i (stU n s q i) k:=by
         rw[b4];rcases jC (Wv n s q (i+1) (stU n s q i|||2^i|||2^k)) BIG with h|h
         ·rw[ad.1 h];constructor
          ·intro e;refine⟨h1,V,S,b2,?_⟩;rw[F];simp only[eo,gW]at e;omega
          ·rintro⟨_,_,_,_,Z⟩;rw[F]at Z;simp only[eo,gW];omega
         ·rw[ad.2 h];constructor
          ·intro e;simp only[eo,rA]at e;omega
          ·rintro⟨_,_,_,_,Z⟩;rw[F]at Z;omega
        refine .ite (fun h=>?_) fun h=>.ok ⟨W,.inl ⟨rfl,gU fun A=>by have:=Q.2 A;simp[this]at h⟩⟩;have A:=Q.1 (beq_iff_eq.1 h);have p:=yud y A Y;refine .eq (ixs (yp4 g)) (.ok ⟨W,.inr ⟨?_,k,p⟩⟩);simp only
        rw[ydg g,gI];have:bhI n s q i=(k:Int):=by unfold bhI bh;rw[p];rfl
        rw[this]
     ·have ah:k=n:=by omega
      subst ah;have p:=ynl Y;simp only
      rw[ydg g];have:bhI k s q i=(k:Int):=by unfold bhI bh;rw[p];rfl
      rw[this];exact(jm7 (yp4 g)).symm
    ·have C:(bhL n s q (i+1))[i]? =some (k':Int):=by
      rw[ydg g,j6 (by rw[ynr (by omega)];exact g)];unfold bhI bh;rw[ae];rfl
     have az:=(yks ae).1;refine .call (P:=fun b=>b=false) (.iteP (fun h=>.eq (ixs C) (.ok ?_)) fun _=>.ok rfl) fun b U=>?_
     ·rw[beq_eq_false_iff_ne];omega
     ·subst U;exact .dn ⟨G,rfl⟩
   ·rintro⟨d6,aE⟩ ⟨af,e6⟩;simp only at af e6;subst e6;have C:(bhL n s q (i+1))[i]? =some (bhI n s q i):=by
     rw[ydg g,j6 (by rw[ynr (by omega)];exact g)]
    refine .eq (ixs C) ?_;cases p:fk n s q i (stU n s q i)with
    |some k=>
     have M:bhI n s q i=(k:Int):=by unfold bhI bh;rw[p];rfl
     obtain⟨y,A⟩:=yks p;obtain⟨c1,c2,c3,c4,Z⟩:=A;obtain⟨row,au,H⟩:=hP.qe i g;have H:=H k y c1;obtain⟨o1,o2⟩:=ydt (u:=stU n s q i) (by omega:n<=12) hu g;obtain⟨o3,o4⟩:=ydt (u:=stU n s q i|||2^i) (by omega:n<=12) o2 y;have z:stU n s q (i+1)=stU n s q i|||2^i|||2^k:=by rw[stU,p]
     have hq:=hS.q1 i k g y;rw[M];rw[M]at C;refine .iteP (fun _=>.eq (ixs au) (.eq (ixs C) (.eq (ixs H) (.chk (by omega) (.eq (ixs C) ?_))))) fun h=>absurd h (by omega);rw[ybd (a:=k) (by omega),o1,o3,(yne hq).2 c4];refine .chk (by omega) (.ok ⟨fb,Wv n s q (i+1) (stU n s q i|||2^i|||2^k),by rw[z],rfl,a5,?_,by rw[z];exact yj4 _ _ _ _ _,by rw[F]at Z;omega,?_,rfl,rfl,rfl,rfl,rfl,af⟩)
     ·rw[F]at Z;have ax:BIG=107374182400000:=rfl;simp only
      rw[jaj (x:=(w:Int)-100000) (by omega),jaj (by rcases hq with h|h<;>omega)]
      omega
     ·rw[z];intro j O hD;rw[ycv,ycv,qz,qz]at hD;have:=a9 j O hD.1.1;have ai:j≠i:=fun e=>by have:=hD.1.2;simp[e]at this
      rw[this];omega
    |none=>
     have M:bhI n s q i=(n:Int):=by unfold bhI bh;rw[p];rfl
     have z:stU n s q (i+1)=stU n s q i:=by rw[stU,p]
     obtain⟨o1,o2⟩:=ydt (u:=fb) (by omega:n<=12) a5 g;rw[M];refine .iteP (fun h=>absurd h (by omega)) fun _=>.chk (by omega) ?_;rw[o1];refine .call (yi1 (s:=s) (q:=q) hn E) fun x ⟨kn,hx,y⟩=>?_;subst hx;refine .ok ⟨fb|||2^i,w,by rw[z],rfl,o2,rfl,?_,a8,?_,rfl,rfl,rfl,rfl,rfl,y⟩
     ·rw[z];refine Ct.isG_drop a7 fun k w' hk ap h1 S h3 aw he=>?_;have A:okF n s q i (stU n s q i) k:=⟨ap,h1,S,h3,by rw[F,yiw (by rw[<-ydi];exact aw)];exact he⟩;unfold fk at p;have:=List.find?_eq_none.1 p k (jo.2 hk);simp[A]at this
     ·rw[z];intro j O hD;have:=a9 j O hD;rw[ycv,mF,this,beq_iff_eq];omega
 ·have:i=n:=by omega
  subst this;exact⟨rfl,rfl⟩
end
def ky(d:bB):Int:=(d.bE.getD 0 []).getD 0 0
def ltK(x y:bB):Bool:=decide (ky x<ky y)
def Kd(d:bB):Prop:=∃p e,d.bE[0]? =some p/\ p[0]? =some e/\ ky d=e
theorem yws{p:List Int}{e:Int}{l:List (List Int)}(h:p[0]? =some e):Kd ⟨p::l⟩:=⟨p,e,rfl,h,by unfold ky;simp[dD,h]⟩
theorem Kv(x y:bB)(A:Kd x)(C:Kd y):∃c,zq21 x y=some c/\ decide (c<0)=ltK x y:=by
 obtain⟨p,e,v,w,z⟩:=A;obtain⟨k,e',a,b,g⟩:=C;have l:idx x.bE 0=some p:=ixs (i:=0) v;have m:idx p 0=some e:=ixs (i:=0) w;have o:idx y.bE 0=some k:=ixs (i:=0) a;have u:idx k 0=some e':=ixs (i:=0) b;unfold zq21 ltK;simp only[l,m,o,u,bF,yf8,z,g];refine⟨_,rfl,?_⟩;by_cases h:e<e'
 ·simp[h]
 ·by_cases j:e'<e
  ·simp[h,j]
  ·simp[h,j]
theorem yq4(l:List bB)(g:l.length<=12)(hU:∀x∈l,Kd x):ys4 l=some (Pdq.isort ltK l):=by
 have a:ys3 l 0 (l.length:Int) (fun b e=>zq21 b e)=some (Pdq.isort ltK l):=Pdq.insertion_stU (U:=Kd) (cmp:=zq21) Kv l (by omega) hU;unfold ys4 yvo ys1;refine Tot.val (Tot.call (yty _ (by dsimp only;rw[yds (by omega) (by omega)];omega) (by dsimp only;rw[yds (by omega) (by omega)];omega)) fun r _=>.call (P:=fun s=>s=Pdq.isort ltK l) ?_ fun s hs=>.ok hs);refine .iter (fun m (_:Unit)=>True) (n:=0) trivial ?_;rintro m ⟨⟩ _;unfold yhu;exact .iteP (fun _=>.eq a (.dn rfl)) fun h=>absurd h (by rw[jaj (by omega)];omega)
theorem yxb(l:List bB)(S:l.length<=100)(hU:∀x∈l,Kd x){d:bB}(hd:Kd d):zq91 l d=some (Pdq.insE ltK d l):=by
 obtain⟨p,e,M,N,O⟩:=hd;have D:idx d.bE 0=some p:=ixs (i:=0) M;have E:idx p 0=some e:=ixs (i:=0) N;unfold zq91;refine Tot.val (.call (P:=fun v=>∃k:Nat,v=(k:Int)/\ k<=l.length/\ (∀y∈l.drop k,ltK d y=true)/\ ∀y,0<k->l[k-1]? =some y->ltK d y=false) ?_ ?_)
 ·refine .iter (fun m v=>v=(m:Int)/\ m<=l.length/\ ∀y∈l.drop m,ltK d y=true) (n:=l.length) ⟨rfl,dQ _,by simp⟩ ?_;rintro m _ ⟨rfl,Q,hP⟩;unfold yk1;refine .call (P:=fun b=>(b=true/\ 0<m/\ ∃y,l[m-1]? =some y/\ ltK d y=true) \/(b=false/\ ∀y,0<m->l[m-1]? =some y->ltK d y=false)) ?_ ?_
  ·refine .iteP (fun h=>?_) fun h=>.ok (.inr ⟨rfl,fun y h0=>by omega⟩);obtain⟨y,g⟩:=jak (l:=l) (i:=m-1) (by omega);obtain⟨C,e',I,J,K⟩:=hU y (bT g);have F:idx y.bE 0=some C:=ixs (i:=0) I;have G:idx C 0=some e':=ixs (i:=0) J;have A:w64 ((m:Int)-1)=((m-1:Nat):Int):=by rw[jaj (by omega)];omega
   rw[A];refine .eq (ixs g) (.eq F (.eq G (.eq D (.eq E (.ok ?_)))));have u:ltK d y=decide (e<e'):=by unfold ltK;rw[O,K]
   by_cases a:e<e'
   ·exact .inl ⟨decide_eq_true a,by omega,y,g,by rw[u];exact decide_eq_true a⟩
   ·refine .inr ⟨decide_eq_false a,fun T _ j=>?_⟩;rw[g]at j;cases j;rw[u];exact decide_eq_false a
  ·rintro b (⟨rfl,R,y,g,a⟩|⟨rfl,w⟩)
   ·have A:w64 ((m:Int)-1)=((m-1:Nat):Int):=by rw[jaj (by omega)];omega
    refine .nx ⟨m-1,by omega,A,by omega,fun z hz=>?_⟩;have:l.drop (m-1)=y::l.drop m:=by
     have H:m-1+1=m:=by omega
     rw[um (i:=m-1) (by omega),H,(cK.1 g).2]
    rw[this]at hz;rcases dY.1 hz with rfl|hz
    ·exact a
    ·exact hP z hz
   ·exact .dn ⟨m,rfl,Q,hP,w⟩
 ·rintro _ ⟨k,rfl,u,hP,w⟩;have:=Pdq.insE_slot (lt:=ltK) (x:=d) l.length (o:=l) (k:=k) rfl u hP w;refine .chk (by omega) (.chk (by rw[mq,gY,eF];omega) (.chk (by simp;omega) (.chk (by omega) (.chk (by simp;omega) (.ok ?_)))));rw[<-this];simp
theorem ytp{α:Type}{f g h:Nat->Option α}(o:∀i,h i=match f i with|some a=>some a|none=>g i):∀{l:List Nat},(∀i∈l,f i=none \/g i=none)->(l.filterMap f++l.filterMap g).Perm (l.filterMap h)
 |[],_=>by simp
 |i::l,hd=>by
  have m:=ytp o (l:=l) fun j p=>hd j (dZ _ p);have e:=o i;rcases hd i (dU ..)with k|hg
  ·rw[k]at e;simp only at e;cases hg:g i with
   |none=>
    rw[hg]at e;rw[rH k,rH hg,rH e];exact m
   |some b=>
    rw[hg]at e;rw[rH k,AA hg,AA e];exact List.perm_middle.trans (m.cons b)
  ·cases k:f i with
   |none=>
    rw[k,hg]at e;rw[rH k,rH hg,rH e];exact m
   |some a=>
    rw[k]at e;rw[AA k,rH hg,AA e];exact m.cons a
theorem yt3{l l':List bB}(m:l.Perm l')(o:∀x∈l,∀y∈l,ky x=ky y->x=y):Pdq.isort ltK l=Pdq.isort ltK l':=by
 have tr:∀a b c:bB,ltK b a=false->ltK c b=false->ltK c a=false:=fun a b c g i=>by
  unfold ltK at*
  simp only[decide_eq_false_iff_not]at*;omega
 have e:∀a b:bB,ltK a b=true->ltK b a=false:=fun a b h=>by
  unfold ltK at*
  simp only[decide_eq_false_iff_not,decide_eq_true_eq]at*;omega
 refine List.Perm.eq_of_pairwise (le:=fun a b=>ltK b a=false) (fun x y j k g i=>?_) (Pdq.isort_sorted tr e l) (Pdq.isort_sorted tr e l') ((Pdq.isort_perm l).trans (m.trans (Pdq.isort_perm l').symm));have j:=(Pdq.isort_perm l).mem_iff.1 j;have k:=m.mem_iff.2 ((Pdq.isort_perm l').mem_iff.1 k);refine o x j y k ?_;unfold ltK at g i;simp only[decide_eq_false_iff_not]at g i;omega
section
variable{n:Nat}{s:Nat->Nat}{q:Nat->Nat->Nat}{ps:List (List Int)}
theorem yb8:∀(i x:Nat),(stU n s q i).testBit x=true↔∃j k,j<i/\ bh n s q j=some k/\ (x=j \/x=k)
 |0,x=>by
  unfold stU;simp
 |i+1,x=>by
  have b:=yb8 i x;rw[stU];cases h:fk n s q i (stU n s q i)with
  |none=>
   simp only
   rw[b];constructor
   ·rintro⟨j,k,h1,a⟩;exact⟨j,k,by omega,a⟩
   ·rintro⟨j,k,h1,a,h3⟩;have:j≠i:=fun e=>by subst e;unfold bh at a;rw[h]at a;cases a
    exact⟨j,k,by omega,a,h3⟩
  |some k=>
   simp only
   rw[ycv,ycv,mF,mF,b,beq_iff_eq,beq_iff_eq];have hb:bh n s q i=some k:=h;constructor
   ·rintro((⟨j,k',h1,a⟩|h1)|h1)
    ·exact⟨j,k',by omega,a⟩
    ·exact⟨i,k,by omega,hb,.inl h1⟩
    ·exact⟨i,k,by omega,hb,.inr h1⟩
   ·rintro⟨j,k',h1,a,h3⟩;by_cases e:j=i
    ·subst e;rw[hb]at a;cases a;rcases h3 with h3|h3
     ·exact .inl (.inr h3)
     ·exact .inr h3
    ·exact .inl (.inl ⟨j,k',by omega,a,h3⟩)
noncomputable def gD(ps:List (List Int))(n:Nat)(s:Nat->Nat)(q:Nat->Nat->Nat)(i:Nat):Option bB:=match prD ps n s q (bh n s q) i with
 |some d=>some d
 |none=>snD ps (stU n s q n) i
noncomputable def dutL(ps:List (List Int))(n:Nat)(s:Nat->Nat)(q:Nat->Nat->Nat):List bB:=Pdq.isort ltK ((List.range n).filterMap (gD ps n s q))
structure HdP(n:Nat)(ps:List (List Int)):Prop where
 ex:∀i,i<n->∃e,(ps.getD i [])[0]? =some e
 inj:∀i j,i<n->j<n->(ps.getD i []).getD 0 0=(ps.getD j []).getD 0 0->i=j
theorem yq2(b:HdP n ps){i:Nat}{d:bB}(hi:i<n)(h:gD ps n s q i=some d):Kd d/\ ky d=(ps.getD i []).getD 0 0:=by
 obtain⟨e,a⟩:=b.ex i hi;unfold gD prD snD at h;cases hb:bh n s q i with
 |some k=>
  rw[hb]at h;cases h;exact⟨yws a,rfl⟩
 |none=>
  rw[hb]at h;simp only[rA]at h;split at h
  ·cases h
  ·cases h;exact⟨yws a,rfl⟩
theorem ywx(b:HdP n ps){x:bB}{m:Nat}(e:m<=n)(h:x∈(List.range m).filterMap (gD ps n s q)):∃i,i<n/\ gD ps n s q i=some x:=by
 obtain⟨i,hi,a⟩:=qx.1 h;have:=jo.1 hi;exact⟨i,by omega,a⟩
theorem ytn(i:Nat)(hi:i<n):prD ps n s q (bh n s q) i=none \/snD ps (stU n s q n) i=none:=by
 cases hb:bh n s q i with
 |none=>left;unfold prD;rw[hb];rfl
 |some k=>
  right;have:=(yb8 (n:=n) (s:=s) (q:=q) n i).2 ⟨i,k,hi,hb,.inl rfl⟩;unfold snD;rw[if_pos this]
theorem Kw(hS:Cst n s q){sg:List bI}{pr:List (List bI)}(hC:CuP n s q ps sg pr)(k:HdP n ps){e:List ((Int×Int)×bI)}(w:MmP n s q e):Tot (zq22 ⟨ps,sg,pr,e⟩) fun r=>r.1=dutL ps n s q:=by
 have A:=hS.le;unfold zq22;refine .call (yuj hS hC w) fun⟨D,F,E⟩ ⟨o,p⟩=>?_;simp only at o p;subst o;subst p;have a:=ytp (f:=prD ps n s q (bh n s q)) (g:=snD ps (stU n s q n)) (h:=gD ps n s q) (fun i=>by unfold gD;cases prD ps n s q (bh n s q) i<;>rfl) (l:=List.range n) fun i hi=>ytn i (jo.1 hi)
 have C:=a.length_eq;have z:=ygx (gD ps n s q) n;refine .eq (yqv A hC.pl (yj9 n (dQ _)) (by have:=ygx (prD ps n s q (bh n s q)) n;omega)) (.eq (yq4 _ (by omega) fun x b=>?_) (.ok ?_))
 ·obtain⟨i,hi,b⟩:=ywx k (dQ _) (a.mem_iff.1 b);exact(yq2 k hi b).1
 ·refine yt3 a fun x b y m u=>?_;obtain⟨i,hi,b⟩:=ywx k (dQ _) (a.mem_iff.1 b);obtain⟨j,v,m⟩:=ywx k (dQ _) (a.mem_iff.1 m);rw[(yq2 k hi b).2,(yq2 k v m).2]at u;have:=k.inj i j hi v u;subst this;rw[b]at m;exact gT m
theorem Kz(hn:n<=8)(aa:ps.length=n)(S:HdP n ps)(J:∀p∈ps,p.length<=4000000000){x:eZ}(hx:x.bP=ps):iter (yg4 (bhL n s q n,x)) ((0:Int),([]:List bB))=some (dutL ps n s q):=by
 have w:=ynr (n:=n) (s:=s) (q:=q) (dQ n);have b:∀i,i<n->(bhL n s q n)[i]? =some (bhI n s q i):=fun i hi=>by
  unfold bhL;rw[jK (by simp;exact hi),lu,pI hi];rfl
 have own:∀{i:Nat},i<n->∃e,ps[i]? =some e/\ ydr e=some e/\ ps.getD i []=e:=fun{i} hi=>by
  obtain⟨e,H⟩:=jak (l:=ps) (i:=i) (by omega);refine⟨e,H,?_,by rw[dD,H];rfl⟩;have:=J e (bT H);unfold ydr;rw[ja9 (by rw[mq];omega)];rfl
 refine Tot.val (.iter (fun m (a:Int×List bB)=>∃i:Nat,a.1=(i:Int)/\ m+i=n/\ a.2=Pdq.isort ltK ((List.range i).filterMap (gD ps n s q))) (n:=n) ⟨0,rfl,rfl,rfl⟩ ?_);rintro m ⟨v1,Q⟩ ⟨i,W,hi,A⟩;simp only at W A;subst W;unfold yg4;dsimp only
 rw[w,hx];refine .iteP (fun V=>?_) fun V=>.dn ?_
 ·have u:i<n:=by omega
  have Z:Q.length<=i:=by rw[A,Pdq.isort_len];exact ygx _ _
  have hU:∀y∈Q,Kd y:=fun y O=>by
   rw[A]at O;obtain⟨j,I,O⟩:=ywx S (m:=i) (by omega) ((Pdq.isort_perm _).mem_iff.1 O);exact(yq2 S I O).1
  obtain⟨e,H,M,E⟩:=own u;obtain⟨e0,F⟩:=S.ex i u;rw[E]at F;refine .call (P:=fun o=>o=Pdq.isort ltK ((List.range (i+1)).filterMap (gD ps n s q))) (.eq (ixs (b i u)) ?_) fun o ho=>.nx ⟨m-1,by omega,i+1,jai (by omega),by omega,ho⟩;rw[yf4];cases hb:bh n s q i with
  |some k=>
   have C:bhI n s q i=(k:Int):=by unfold bhI;rw[hb];rfl
   have U:=(yks (show fk n s q i (stU n s q i)=some k from hb)).1;obtain⟨e',T,N,K⟩:=own U;have v:=b i u;rw[C]at v ⊢;refine .iteP (fun _=>.eq (ixs H) (.eq M (.eq (ixs v) (.eq (ixs T) (.eq N (.eq (yxb Q (by omega) hU (yws F)) (.ok ?_))))))) fun h=>absurd h (by omega);have:gD ps n s q i=some ⟨[e,e']⟩:=by unfold gD prD;rw[hb];simp only[gW,E,K]
   rw[this,A];exact(Pdq.isort_snoc _ _).symm
  |none=>
   have C:bhI n s q i=(n:Int):=by unfold bhI;rw[hb];rfl
   have z:(i:Int)∈bhL n s q n↔(stU n s q n).testBit i=true:=by
    rw[yb8];constructor
    ·intro h;obtain⟨j,I⟩:=jJ h;have G:=fK I;rw[w]at G;rw[b j G]at I;have I:=gT I;cases D:bh n s q j with
     |none=>
      have:bhI n s q j=(n:Int):=by unfold bhI;rw[D];rfl
      omega
     |some k=>
      have:bhI n s q j=(k:Int):=by unfold bhI;rw[D];rfl
      exact⟨j,k,G,D,.inr (by omega)⟩
    ·rintro⟨j,k,X,R,Y⟩;rcases Y with rfl|rfl
     ·rw[hb]at R;cases R
     ·have:bhI n s q j=(i:Int):=by unfold bhI;rw[R];rfl
      have:=b j X;rw[‹bhI n s q j=(i:Int)›]at this;exact bT this
   rw[C];refine .iteP (fun h=>absurd h (by omega)) fun _=>.eq (ydc _ (by omega) _) ?_;by_cases g:(stU n s q n).testBit i=true
   ·rw[decide_eq_true (z.2 g)];refine .ok ?_;have:gD ps n s q i=none:=by unfold gD prD snD;rw[hb,if_pos g];rfl
    rw[this,A];simp
   ·rw[decide_eq_false (fun h=>g (z.1 h))];refine .eq (ixs H) (.eq M (.eq (yxb Q (by omega) hU (yws F)) (.ok ?_)));have:gD ps n s q i=some ⟨[e]⟩:=by unfold gD prD snD;rw[hb,if_neg g];simp only[rA,E]
    rw[this,A];exact(Pdq.isort_snoc _ _).symm
 ·have:i=n:=by omega
  subst this;exact A
end
def cb(t:bA)(c:Nat)(e:Int):Bool:=c.testBit (tix t e).toNat
def cutB(g:Int->Bool):List Int->List Int->List (List Int)
 |_,[]=>[]
 |cur,e::l=>if l=[] \/g e=true then(cur++[e])::cutB g [] l else cutB g (cur++[e]) l
def pcs(g:Int->Bool)(B:List (List Int)):List (List Int):=B.flatMap (cutB g [])
theorem yf7(g:Int->Bool):∀(l a:List Int),l≠[]->(cutB g a l).flatten=a++l
 |[],_,h=>absurd rfl h
 |e::l,a,_=>by
  unfold cutB;split
  ·rename_i h;by_cases b:l=[]
   ·subst b;simp[cutB]
   ·rw[vU,yf7 g l [] b];simp
  ·rename_i h;rw[yf7 g l _ fun i=>h (.inl i)];simp
theorem yf6(g:Int->Bool){b:List Int}:∀(l a pre:List Int),b=pre++a++l->∀p∈cutB g a l,p≠[]/\ ∃k,k+p.length<=b.length/\ (b.take (k+p.length)).drop k=p
 |[],a,pre,_,p,hp=>by unfold cutB at hp;cases hp
 |e::l,a,pre,hb,p,hp=>by
  unfold cutB at hp;have h:b=(pre++(a++[e]))++l:=by rw[hb];simp
  split at hp
  ·rcases dY.1 hp with rfl|hp
   ·refine⟨by simp,pre.length,by rw[h];simp,?_⟩;have i:pre.length+(a++[e]).length=(pre++(a++[e])).length:=List.length_append.symm;rw[h,i,Ap,List.drop_left]
   ·exact yf6 g l [] (pre++(a++[e])) (by rw[h];simp) p hp
  ·exact yf6 g l (a++[e]) pre (by rw[h,eU]) p hp
section
variable{t:bA}{f:bL}{B:List (List Int)}{c:Nat}
theorem yjd(hT:t.bn.length<=8)(hc:c<2^t.bn.length){e:Int}(b:0<=tix t e):∃a:Nat,tix t e=(a:Int)/\ a<=12/\ cb t c e=c.testBit a/\ c<4096:=by
 have h:=ybg b;refine⟨(tix t e).toNat,h.2.2.1.symm,by omega,rfl,ypr (by omega) hc⟩
def ydz(t:bA)(B:List (List Int))(c:Nat):Prop:=∀b∈B,cb t c (b.getD (b.length-1) 0)=false
noncomputable instance(t:bA)(B:List (List Int))(c:Nat):Decidable (ydz t B c):=Classical.propDecidable _
theorem ydw(hb:TB t)(hB:BB B)(hT:t.bn.length<=8)(hE:∀b∈B,b≠[]/\ ∀e∈b,0<=tix t e)(hc:c<2^t.bn.length):zq33 t B (c:Int)=some (decide (ydz t B c))/\ zq83 t B (c:Int)=some (decide (ydz t B c)):=by
 have N:=hB.1;have J:2^t.bn.length<=256:=(pq (by omega) hT:_<=2^8);have g:∀{b:List Int},b∈B->∃e,b[b.length-1]? =some e/\ w64 ((b.length:Int)-1)=((b.length-1:Nat):Int)/\ 0<=tix t e/\ b.getD (b.length-1) 0=e:=fun{b} x=>by
  have P:b.length≠0:=fun h=>(hE b x).1 (kK.1 h);have:=hB.2 b x;obtain⟨e,w⟩:=jak (l:=b) (i:=b.length-1) (by omega);exact⟨e,w,by rw[jaj (by omega)];omega,(hE b x).2 e (bT w),ykp w⟩
 have k:∀{step:Int->Option (Lp Int (Fl Bool Unit))},(∀(i:Nat) b,B[i]? =some b->step (i:Int)=if cb t c (b.getD (b.length-1) 0)=true then some (.dn (.ret false))else some (.nx (w64 ((i:Int)+1))))->step (B.length:Int)=some (.dn (.go ()))->Ab.flb (iter step (0:Int)) (fun _=>some true)=some (decide (ydz t B c)):=fun{step} hs w=>by
  refine je8 (.iter (fun m v=>∃i:Nat,v=(i:Int)/\ m+i=B.length/\ ∀b∈B.take i,cb t c (b.getD (b.length-1) 0)=false) (n:=B.length) ⟨0,rfl,rfl,by simp⟩ ?_);rintro m v ⟨i,rfl,x,hP⟩;rcases jC i B.length with h|h
  ·obtain⟨b,o⟩:=jak h;rw[hs i b o];by_cases j:cb t c (b.getD (b.length-1) 0)=true
   ·rw[if_pos j];exact .dn (.inr ⟨rfl,fun O=>by have:=O b (bT o);rw[j]at this;cases this⟩)
   ·rw[if_neg j];refine .nx ⟨m-1,by omega,i+1,jai (by omega),by omega,fun K hb'=>?_⟩;rw[jap o]at hb';rcases fA.1 hb' with hb'|hb'
    ·exact hP K hb'
    ·rw[iR.1 hb'];simpa using j
  ·have:i=B.length:=by omega
   subst this;rw[w,rD]at*
   exact .dn (.inl ⟨rfl,hP⟩)
 constructor
 ·unfold zq33;have h0:decide ((c:Int)<0)=false:=decide_eq_false (by omega);have D:decide (((2^t.bn.length:Nat):Int)<=(c:Int))=false:=decide_eq_false (by omega);rw[h0,ykc (by omega),D,ja9 (by omega)];simp only[bW,if_false,bF];refine k (fun i b hi=>?_) (by unfold yhm;simp);have u:decide ((i:Int)<(B.length:Int))=true:=by have:=fK hi;rw[decide_eq_true_eq];omega
  obtain⟨e,y,z,A,C⟩:=g (bT hi);obtain⟨a,F,G,H,I⟩:=yjd hT hc A;have p:chk ((0:Int)<=(a:Int))=some ():=ja9 (by omega);simp only[yhm,u,if_true,jal,hi,bF,z,y,yiy hb,C,F,p,yb2 I G,H];cases c.testBit a<;>simp
 ·unfold zq83;have M:w64 (((2^t.bn.length:Nat):Int)-1)=((2^t.bn.length-1:Nat):Int):=by
   have:=nG t.bn.length;rw[jaj (by omega)];omega
  have E:ybo (c:Int) 0 ((2^t.bn.length-1:Nat):Int)=some true:=by
   unfold ybo;have D:decide ((0:Int)<=(c:Int))=true:=decide_eq_true (by omega);have J:decide ((c:Int)<=((2^t.bn.length-1:Nat):Int))=true:=decide_eq_true (by omega);simp[D,J];omega
  rw[ybd (by omega),ykc (by omega),M,E,ja9 (by omega)];simp only[fT,bW,if_false,bF];refine k (fun i b hi=>?_) (by unfold yg2;simp);have u:decide ((i:Int)<(B.length:Int))=true:=by have:=fK hi;rw[decide_eq_true_eq];omega
  obtain⟨e,y,z,A,C⟩:=g (bT hi);obtain⟨a,F,G,H,I⟩:=yjd hT hc A;have p:chk ((0:Int)<=(a:Int))=some ():=ja9 (by omega);simp only[yg2,u,if_true,jal,hi,bF,z,y,yc9 hb,C,F,ybd (show a<=4096 by omega),p,yb2 I G,H];cases c.testBit a<;>simp
theorem Ku(hb:TB t)(hB:BB B)(hT:t.bn.length<=8)(hc:c<2^t.bn.length){v:Nat}{b:List Int}(w:B[v]? =some b)(hE:∀e∈b,0<=tix t e){out:List (List Int)}(S:out.length<=1000000):
  iter (yg1 t B (c:Int) (v:Int)) ((0:Int),out,([]:List Int))=some (out++cutB (cb t c) [] b):=by
 have Q:=hB.2 b (bT w);refine Tot.val (.iter (fun m (a:Int×List (List Int)×List Int)=>∃k:Nat,a.1=(k:Int)/\ m+k=b.length/\ a.2.2.length<=k/\ a.2.1.length<=out.length+k/\ a.2.1++cutB (cb t c) a.2.2 (b.drop k)=out++cutB (cb t c) [] b) (n:=b.length) ⟨0,rfl,rfl,by simp,by simp,by simp⟩ ?_);rintro m ⟨V,T,W⟩ ⟨k,H,R,C,A,g⟩;simp only at H A C g;subst H;unfold yg1;refine .eq (ixs w) (.iteP (fun u=>?_) fun u=>.dn ?_)
 ·obtain⟨e,y⟩:=jak (l:=b) (i:=k) (by omega);have E:=hE e (bT y);obtain⟨a,I,J,G,K⟩:=yjd hT hc E;have z:b.drop k=e::b.drop (k+1):=by rw[um (by omega),(cK.1 y).2]
  rw[z]at g;have F:w64 ((b.length:Int)-1)=((b.length-1:Nat):Int):=by rw[jaj (by omega)];omega
  have p:b.drop (k+1)=[]↔k=b.length-1:=by rw[List.drop_eq_nil_iff];omega
  refine .call (P:=fun o=>o.2.length<=k+1/\ o.1.length<=out.length+(k+1)/\ o.1++cutB (cb t c) o.2 (b.drop (k+1))=out++cutB (cb t c) [] b) (.eq (ixs w) (.eq (ixs y) (.chk (by rw[lQ];omega) (.eq (ixs w) (.call (P:=fun x=>(x=true/\ (b.drop (k+1)=[] \/cb t c e=true)) \/(x=false/\ ¬(b.drop (k+1)=[] \/cb t c e=true))) ?_ ?_))))) fun⟨U,X⟩ ⟨M,N,O⟩=>.nx ⟨m-1,by omega,k+1,jai (by omega),by omega,M,N,O⟩
  ·rw[F];refine .ite (fun h=>.ok (.inl ⟨rfl,.inl (p.2 (by have:=beq_iff_eq.1 h;omega))⟩)) fun h=>?_;have D:k≠b.length-1:=fun e=>by rw[e]at h;simp at h
   refine .eq (ixs w) (.eq (ixs y) (.eq (yc9 hb e) ?_));rw[I,ybd (by omega),yb2 K J];refine .chk (by omega) ?_;by_cases j:c.testBit a=true
   ·rw[if_pos j];exact .ok (.inl ⟨rfl,.inr (by rw[G];exact j)⟩)
   ·rw[if_neg j];exact .ok (.inr ⟨rfl,by rintro(h|h);exact D (p.1 h);rw[G]at h;exact j h⟩)
  ·rintro x (⟨rfl,h⟩|⟨rfl,h⟩)
   ·rw[cutB,if_pos h]at g;refine .chk (by rw[lQ];omega) (.ok ⟨by simp,by simp;omega,?_⟩);simp only[eU,tY]at g ⊢;exact g
   ·rw[cutB,if_neg h]at g;exact .ok ⟨by simp;omega,by simp;omega,g⟩
 ·have u:¬(k:Int)<(b.length:Int):=u;rw[JZ (by omega),cutB,mD]at g;exact g
theorem ynn(hb:TB t)(hT:t.bn.length<=8)(hc:c<2^t.bn.length){b:List Int}(T:b.length<=2000)(hE:∀e∈b,0<=tix t e){out:List (List Int)}(X:out.length<=1000000):
  iter (yhr t (c:Int) b) ((0:Int),(0:Int),out)=some (out++cutB (cb t c) [] b):=by
 refine Tot.val (.iter (fun m (a:Int×Int×List (List Int))=>∃j k:Nat,a.1=(j:Int)/\ a.2.1=(k:Int)/\ j<=k/\ m+k=b.length/\ a.2.2.length<=out.length+k/\ a.2.2++cutB (cb t c) ((b.take k).drop j) (b.drop k)=out++cutB (cb t c) [] b) (n:=b.length) ⟨0,0,rfl,rfl,dQ _,rfl,by simp,by simp⟩ ?_);rintro m ⟨v1,v2,Z⟩ ⟨j,k,I,J,U,W,D,p⟩;simp only at I J D p;subst I;subst J;unfold yhr;refine .iteP (fun v=>?_) fun v=>.dn ?_
 ·obtain⟨e,z⟩:=jak (l:=b) (i:=k) (by omega);have F:=hE e (bT z);obtain⟨a,K,M,H,N⟩:=yjd hT hc F;have C:b.drop k=e::b.drop (k+1):=by rw[um (by omega),(cK.1 z).2]
  rw[C]at p;have G:w64 ((b.length:Int)-1)=((b.length-1:Nat):Int):=by rw[jaj (by omega)];omega
  have y:w64 ((k:Int)+1)=((k+1:Nat):Int):=jai (by omega);have u:b.drop (k+1)=[]↔k=b.length-1:=by rw[List.drop_eq_nil_iff];omega
  have w:(b.take (k+1)).drop j=(b.take k).drop j++[e]:=by rw[jap z,AJ (by rw[eF];omega)]
  refine .call (P:=fun o=>∃j:Nat,o.1=(j:Int)/\ j<=k+1/\ o.2.length<=out.length+(k+1)/\ o.2++cutB (cb t c) ((b.take (k+1)).drop j) (b.drop (k+1))=out++cutB (cb t c) [] b) (.eq (ixs z) (.call (P:=fun x=>(x=true/\ (b.drop (k+1)=[] \/cb t c e=true)) \/(x=false/\ ¬(b.drop (k+1)=[] \/cb t c e=true))) ?_ ?_)) fun⟨Y,v3⟩ ⟨j',O,Q,R,S⟩=>.nx ⟨m-1,by omega,j',k+1,O,y,Q,by omega,R,S⟩
  ·rw[G];refine .ite (fun h=>.ok (.inl ⟨rfl,.inl (u.2 (by have:=beq_iff_eq.1 h;omega))⟩)) fun h=>?_;have E:k≠b.length-1:=fun e=>by rw[e]at h;simp at h
   refine .eq (yiy hb e) ?_;rw[K,yb2 N M];refine .chk (by omega) ?_;by_cases g:c.testBit a=true
   ·rw[if_pos g];exact .ok (.inl ⟨rfl,.inr (by rw[H];exact g)⟩)
   ·rw[if_neg g];exact .ok (.inr ⟨rfl,by rintro(h|h);exact E (u.1 h);rw[H]at h;exact g h⟩)
  ·rw[y];rintro x (⟨rfl,h⟩|⟨rfl,h⟩)
   ·rw[cutB,if_pos h,<-w]at p;have A:yh2 ((b.take (k+1)).drop j)=some ((b.take (k+1)).drop j):=by
     unfold yh2;rw[ja9 (by rw[mq,gY,eF];omega)];rfl
    refine .chk (by omega) ?_;rw[gI,gI];refine .eq A (.chk (by rw[lQ];omega) (.ok ⟨k+1,rfl,dQ _,by simp;omega,?_⟩));have V:(b.take (k+1)).drop (k+1)=[]:=by rw[List.drop_eq_nil_iff,eF];omega
    simp only[V,eU,tY];exact p
   ·rw[cutB,if_neg h,<-w]at p;exact .ok ⟨j,rfl,by omega,by dsimp only;omega,p⟩
 ·have v:¬(k:Int)<(b.length:Int):=v;rw[JZ (i:=k) (by omega),cutB,mD]at p;exact p
theorem yjf(g:Int->Bool):∀(l a:List Int),(cutB g a l).length<=l.length
 |[],_=>dQ _
 |e::l,a=>by
  unfold cutB;split
  ·have:=yjf g l [];simp;omega
  ·have:=yjf g l (a++[e]);simp;omega
theorem yi4(g:Int->Bool){j:Nat}{b:List Int}(h:B[j]? =some b):pcs g (B.take (j+1))=pcs g (B.take j)++cutB g [] b:=by
 unfold pcs;rw[jap h,Az];simp
theorem ytm(hB:BB B)(g:Int->Bool):∀j,j<=B.length->(pcs g (B.take j)).length<=2000*j:=by
 intro j
 induction j with
 |zero=>intro _;simp[pcs]
 |succ j a=>
  intro m;obtain⟨b,hb⟩:=jak (l:=B) (i:=j) (by omega);have e:=a (by omega);have h:=yjf g b [];have k:=hB.2 b (bT hb);rw[yi4 g hb,gu];omega
theorem ygt(hb:TB t)(hB:BB B)(hT:t.bn.length<=8)(hc:c<2^t.bn.length)(hE:∀b∈B,∀e∈b,0<=tix t e):zq86 t B (c:Int)=some (pcs (cb t c) B):=by
 have w:=hB.1;unfold zq86;refine Tot.val (.call (P:=fun o=>o=pcs (cb t c) B) (.iter (fun m (a:Int×List (List Int))=>∃j:Nat,a.1=(j:Int)/\ m+j=B.length/\ a.2=pcs (cb t c) (B.take j)) (n:=B.length) ⟨0,rfl,rfl,by simp[pcs]⟩ ?_) fun o x=>.ok x);rintro m ⟨v,k⟩ ⟨j,p,y,u⟩;simp only at p u;subst p;subst u;unfold yla;refine .iteP (fun h=>?_) fun h=>.dn ?_
 ·obtain⟨b,g⟩:=jak (l:=B) (i:=j) (by omega);have z:=ytm hB (cb t c) j (by omega);exact .eq (Ku hb hB hT hc g (hE b (bT g)) (by omega)) (.nx ⟨m-1,by omega,j+1,jai (by omega),by omega,(yi4 _ g).symm⟩)
 ·have h:¬(j:Int)<(B.length:Int):=h;rw[iw (by omega)]
theorem ycu(hb:TB t)(hB:BB B)(hT:t.bn.length<=8)(hc:c<2^t.bn.length)(hE:∀b∈B,∀e∈b,0<=tix t e):zq19 t B (c:Int)=some (pcs (cb t c) B):=by
 have w:=hB.1;unfold zq19;refine Tot.val (.call (P:=fun o=>o=pcs (cb t c) B) (.iter (fun m (a:Int×List (List Int))=>∃j:Nat,a.1=(j:Int)/\ m+j=B.length/\ a.2=pcs (cb t c) (B.take j)) (n:=B.length) ⟨0,rfl,rfl,by simp[pcs]⟩ ?_) fun o x=>.ok x);rintro m ⟨v,k⟩ ⟨j,p,y,u⟩;simp only at p u;subst p;subst u;unfold ylz;refine .iteP (fun h=>?_) fun h=>.dn ?_
 ·obtain⟨b,g⟩:=jak (l:=B) (i:=j) (by omega);have z:=ytm hB (cb t c) j (by omega);refine .eq (ixs g) (.eq (ynn hb hT hc (hB.2 b (bT g)) (hE b (bT g)) (by omega)) (.nx ⟨m-1,by omega,j+1,jai (by omega),by omega,(yi4 _ g).symm⟩))
 ·have h:¬(j:Int)<(B.length:Int):=h;rw[iw (by omega)]
end
section
variable{t:bA}{f:bL}{B:List (List Int)}{r:cB}{ps:List (List Int)}
noncomputable def sF(t:bA)(f:bL)(B:List (List Int))(r:cB)(ps:List (List Int))(k:Nat):Nat:=dc t f B r [ps.getD k []]
noncomputable def qF(t:bA)(f:bL)(B:List (List Int))(r:cB)(ps:List (List Int))(i k:Nat):Nat:=if i=k then BIG else dc t f B r [ps.getD i [],ps.getD k []]
def SmP(ps:List (List Int)):Prop:=(∀p∈ps,p.length<=srtN)/\ ∀(i k:Nat) a b,i≠k->ps[i]? =some a->ps[k]? =some b->a.length+b.length<=srtN
structure RuP(t:bA)(f:bL)(B:List (List Int))(r:cB):Prop where
 hb:TB t
 hA:AskF t f
 hP:ybk t f B
 hB:BB B
 hR:yb0 r
theorem dc1(h:RuP t f B r)(i:∀p∈ps,p.length<=3000)(hs:SmP ps){k:Nat}{e:List Int}(a:ps[k]? =some e):zq45 [e] t f B r=some (prc (sF t f B r ps k))/\ zq85 t f B r ⟨[e]⟩=some (spd (sF t f B r ps k)):=by
 have b:ps.getD k []=e:=by rw[dD,a];rfl
 have:=ydv (d:=[e]) h.hb h.hA h.hP h.hB h.hR (.inl rfl) fun p g=>by rw[iR.1 g];exact i e (bT a)
 have this:=this (by simpa using hs.1 e (bT a));unfold sF;rw[b];exact⟨this.1,this.2.1⟩
theorem dc2(h:RuP t f B r)(m:∀p∈ps,p.length<=3000)(hs:SmP ps){i k:Nat}(b:i≠k){e e':List Int}(g:ps[i]? =some e)(a:ps[k]? =some e'):zq45 [e,e'] t f B r=some (prc (qF t f B r ps i k))/\ zq85 t f B r ⟨[e,e']⟩=some (spd (qF t f B r ps i k)):=by
 have o:ps.getD i []=e:=by rw[dD,g];rfl
 have j:ps.getD k []=e':=by rw[dD,a];rfl
 have:=ydv (d:=[e,e']) h.hb h.hA h.hP h.hB h.hR (.inr rfl) fun p l=>by
  simp only[dY,kI,or_false]at l;rcases l with rfl|rfl
  ·exact m _ (bT g)
  ·exact m _ (bT a)
 have this:=this (by simpa using hs.2 i k e e' b g a);unfold qF;rw[o,j,if_neg b];exact⟨this.1,this.2.1⟩
theorem yp2(h:RuP t f B r)(u:∀p∈ps,p.length<=3000)(hs:SmP ps)(v:ps.length<=8):Cst ps.length (sF t f B r ps) (qF t f B r ps):=by
 refine⟨v,fun k o=>?_,fun i k hi o=>?_⟩
 ·obtain⟨e,a⟩:=jak o;have l:ps.getD k []=e:=by rw[dD,a];rfl
  unfold sF;rw[l];exact(ydv (d:=[e]) h.hb h.hA h.hP h.hB h.hR (.inl rfl) (fun p j=>by
   rw[iR.1 j];exact u e (bT a)) (by simpa using hs.1 e (bT a))).2.2.1
 ·unfold qF;by_cases g:i=k
  ·rw[if_pos g];exact .inl rfl
  rw[if_neg g];obtain⟨e,a⟩:=jak hi;obtain⟨e',b⟩:=jak o;have l:ps.getD i []=e:=by rw[dD,a];rfl
  have m:ps.getD k []=e':=by rw[dD,b];rfl
  rw[l,m];refine(ydv (d:=[e,e']) h.hb h.hA h.hP h.hB h.hR (.inr rfl) (fun p j=>?_) (by simpa using hs.2 i k e e' g a b)).2.2.1;simp only[dY,kI,or_false]at j;rcases j with rfl|rfl
  ·exact u _ (bT a)
  ·exact u _ (bT b)
theorem ykf(h:RuP t f B r)(hp:∀p∈ps,p.length<=3000)(hs:SmP ps)(hl:ps.length<=8):Tot (zq46 t f B r ps) fun x=>∃sg pr,x=⟨ps,sg,pr,[]⟩/\ CuP ps.length (sF t f B r ps) (qF t f B r ps) ps sg pr:=by
 unfold zq46;refine .chk (by omega) (.chk (by omega) (.call (P:=fun o=>CuP ps.length (sF t f B r ps) (qF t f B r ps) ps o.1 o.2) ?_ fun⟨v7,v8⟩ R=>.ok ⟨v7,v8,rfl,R⟩));refine .iter (fun m (a:Int×List bI×List (List bI))=>∃i:Nat,a.1=(i:Int)/\ m+i=ps.length/\ a.2.1.length=ps.length/\ a.2.2.length=ps.length/\ (∀k,k<i->a.2.1[k]? =some (prc (sF t f B r ps k)))/\ ∀j,j<i->∃row,a.2.2[j]? =some row/\ ∀k,k<ps.length->j≠k->row[k]? =some (prc (qF t f B r ps j k))) (n:=ps.length) ⟨0,rfl,rfl,by simp,by simp,fun k h=>by omega,fun k h=>by omega⟩ ?_;rintro m ⟨v,v1,K⟩ ⟨i,Y,hi,X,l2,M,N⟩;simp only at Y X l2 M N;subst Y;unfold ylq;refine .iteP (fun A=>?_) fun A=>.dn ?_
 ·have Q:i<ps.length:=by omega
  obtain⟨e,O⟩:=jak Q;obtain⟨e2,E⟩:=jak (l:=v1) (i:=i) (by omega);obtain⟨e4,F⟩:=jak (l:=K) (i:=i) (by omega);refine .eq (ixs O) (.eq (dc1 h hp hs O).1 (.eq (ixs E) (.chk (by omega) (.eq (ixs F) (.call (P:=fun o=>o.length=ps.length/\ (∀j,j<i->o[j]? =K[j]?)/\ ∃row,o[i]? =some row/\ ∀k,k<ps.length->i≠k->row[k]? =some (prc (qF t f B r ps i k))) ?_ fun o ⟨g1,g2,g3⟩=>.nx ⟨m-1,by omega,i+1,jai (by omega),by omega,?_,g1,fun k hk=>?_,fun j D=>?_⟩)))))
  ·rw[gI,gI];refine .iter (fun m (a:Int×List (List bI))=>∃k:Nat,a.1=(k:Int)/\ m+k=ps.length/\ a.2.length=ps.length/\ (∀j,j<i->a.2[j]? =K[j]?)/\ ∃row,a.2[i]? =some row/\ row.length=ps.length/\ ∀x,x<k->i≠x->row[x]? =some (prc (qF t f B r ps i x))) (n:=ps.length) ⟨0,rfl,rfl,by simp only;rw[gH];exact l2,fun j D=>iN (by omega),_,wW F,by simp,fun x V=>by omega⟩ ?_;rintro m' ⟨v3,v4⟩ ⟨k,Z,hk,J,y,row,b,C,S⟩;simp only at Z J y b;subst Z;unfold ylr;refine .iteP (fun z=>?_) fun z=>.dn ?_
   ·have I:k<ps.length:=by omega
    obtain⟨e5,G⟩:=jak I;obtain⟨e7,H⟩:=jak (l:=row) (i:=k) (by omega);refine .call (P:=fun o=>o.length=ps.length/\ (∀j,j<i->o[j]? =K[j]?)/\ ∃row,o[i]? =some row/\ row.length=ps.length/\ ∀x,x<k+1->i≠x->row[x]? =some (prc (qF t f B r ps i x))) (.eq (ixs G) (.eq (ixs b) (.eq (ixs H) ?_))) fun o R=>.nx ⟨m'-1,by omega,k+1,jai (by omega),by omega,R⟩;rw[gI,gI];have g:(v4.set i (row.set k (⟨1073741824,0⟩:bI)))[i]? =some (row.set k (⟨1073741824,0⟩:bI)):=wW b;refine .ite (fun w=>?_) fun w=>.ok ⟨by rw[gH];exact J,fun j D=>by rw[iN (by omega)];exact y j D,_,g,by rw[gH];exact C,fun x V u=>?_⟩
    ·refine .eq (ixs g) (.eq (dc2 h hp hs (fun e=>by subst e;simp at w) O G).1 (.eq (ixs (wW H)) (.ok ⟨by rw[gH,gH];exact J,fun j D=>by rw[iN (by omega),iN (by omega)];exact y j D,_,wW g,by rw[gH,gH];exact C,fun x V u=>?_⟩)));by_cases W:x=k
     ·subst W;rw[j6 (by rw[gH,C];exact I)]
     ·rw[iN (by omega),iN (by omega)];exact S x (by omega) u
    ·have aa:i=k:=by
      have:¬(i:Int)≠(k:Int):=fun hh=>by rw[bne_iff_ne.2 hh]at w;cases w
      omega
     rw[iN (by omega)];exact S x (by omega) u
   ·have z:¬(k:Int)<(ps.length:Int):=z;exact⟨J,y,row,b,fun x V u=>S x (by omega) u⟩
  ·simp only;rw[gH];exact X
  ·simp only
   rw[gI];by_cases e:k=i
   ·subst e;exact wW E
   ·rw[iN (by omega)];exact M k (by omega)
  ·by_cases e:j=i
   ·subst e;exact g3
   ·obtain⟨row,T,U⟩:=N j (by omega);exact⟨row,by simp only;rw[g2 j (by omega)];exact T,U⟩
 ·have A:¬(i:Int)<(ps.length:Int):=A;exact⟨rfl,X,fun k hk=>M k (by omega),fun j D=>N j (by omega)⟩
theorem ytv(h:RuP t f B r)(U:∀p∈ps,p.length<=3000)(hs:SmP ps)(X:ps.length<=8){c:Nat}(H:zq86 t B (c:Int)=some ps):Tot (zq84 t f B r (c:Int)) fun x=>∃al pr C,x=⟨ps,al,pr,((0:Nat):Int),C⟩/\ PlP ps.length (sF t f B r ps) (qF t f B r ps) ps al pr/\ KnP ps.length (sF t f B r ps) (qF t f B r ps) 0 C:=by
 unfold zq84;refine .eq H (.call (P:=fun o=>PlP ps.length (sF t f B r ps) (qF t f B r ps) ps o.1 o.2) ?_ fun⟨v7,v8⟩ G=>.call (yi1 (n:=ps.length) (s:=sF t f B r ps) (q:=qF t f B r ps) (fb:=0) X rfl) fun x ⟨C,A,l⟩=>by subst A;exact .ok ⟨v7,v8,C,rfl,G,l⟩);refine .iter (fun m (a:Int×List Int×List (List Int))=>∃i:Nat,a.1=(i:Int)/\ m+i=ps.length/\ a.2.1.length=i/\ a.2.2.length=i/\ (∀k,k<i->a.2.1[k]? =some (spd (sF t f B r ps k)))/\ ∀j,j<i->∃row,a.2.2[j]? =some row/\ ∀k,k<ps.length->j≠k->row[k]? =some (spd (qF t f B r ps j k))) (n:=ps.length) ⟨0,rfl,rfl,rfl,rfl,fun k h=>by omega,fun k h=>by omega⟩ ?_;rintro m ⟨v,v1,v2⟩ ⟨i,R,hi,N,O,D,E⟩;simp only at R N O D E;subst R;unfold ylb;refine .iteP (fun w=>?_) fun w=>.dn ?_
 ·have F:i<ps.length:=by omega
  obtain⟨e,z⟩:=jak F;refine .eq (ixs z) (.eq (dc1 h U hs z).2 (.chk (by rw[lQ];omega) (.call (P:=fun o=>∀k,k<ps.length->i≠k->o[k]? =some (spd (qF t f B r ps i k))) ?_ fun o G=>.chk (by rw[lQ];omega) (.nx ⟨m-1,by omega,i+1,jai (by omega),by omega,?_,?_,fun k T=>?_,fun j W=>?_⟩))))
  ·refine .iter (fun m (a:Int×List Int)=>∃k:Nat,a.1=(k:Int)/\ m+k=ps.length/\ a.2.length=k/\ ∀x,x<k->i≠x->a.2[x]? =some (spd (qF t f B r ps i x))) (n:=ps.length) ⟨0,rfl,rfl,rfl,fun x A=>by omega⟩ ?_;rintro Z ⟨v3,v4⟩ ⟨k,S,T,Q,I⟩;simp only at S Q I;subst S;unfold ylc;refine .iteP (fun u=>?_) fun u=>.dn ?_
   ·have l:k<ps.length:=by omega
    obtain⟨e5,y⟩:=jak l;refine .call (P:=fun v=>i≠k->v=spd (qF t f B r ps i k)) ?_ fun v Y=>.chk (by rw[lQ];omega) (.nx ⟨Z-1,by omega,k+1,jai (by omega),by omega,by simp;exact Q,fun x A g=>?_⟩)
    ·exact .ite (fun b=>.eq (ixs z) (.eq (ixs y) (.eq (dc2 h U hs (fun e=>by subst e;simp at b) z y).2 (.ok fun _=>rfl)))) fun b=>.ok fun V=>by
      have:(i:Int)≠(k:Int):=by omega
      rw[bne_iff_ne.2 this]at b;cases b
    ·simp only
     by_cases M:x=k
     ·subst M;rw[kg (by omega),Q,ow,Y g];rfl
     ·rw[jK (by omega)];exact I x (by omega) g
   ·have u:¬(k:Int)<(ps.length:Int):=u;exact fun x A g=>I x (by omega) g
  ·simp;exact N
  ·simp;exact O
  ·simp only
   by_cases e:k=i
   ·subst e;rw[kg (by omega),N,ow];rfl
   ·rw[jK (by omega)];exact D k (by omega)
  ·simp only
   by_cases e:j=i
   ·subst e;exact⟨o,by rw[kg (by omega),O,ow];rfl,G⟩
   ·obtain⟨row,J,K⟩:=E j (by omega);exact⟨row,by rw[jK (by omega)];exact J,K⟩
 ·have w:¬(i:Int)<(ps.length:Int):=w;exact⟨rfl,fun k T=>D k (by omega),fun j W=>E j (by omega)⟩
end
theorem ykr:∀{L:List (List Int)},(∀p∈L,p≠[])->L.length<=L.flatten.length
 |[],_=>dQ _
 |p::L,h=>by
  have b:=ykr (L:=L) fun x a=>h x (dZ _ a);have g:p.length≠0:=fun e=>h p (dU ..) (kK.1 e);simp only[vU,gu,gZ];omega
theorem yfa{L:List (List Int)}(h:L.flatten.Nodup){i j:Nat}{b g:List Int}{x:Int}(hi:L[i]? =some b)(l:x∈b)(k:L[j]? =some g)(a:x∈g):i=j:=by
 rw[List.Nodup,D5]at h;rcases Al i j with hlt|e|hlt
 ·exact absurd rfl (pwG h.2 hlt hi k x l x a)
 ·exact e
 ·exact absurd rfl (pwG h.2 hlt k hi x a x l)
theorem ycp{t:bA}:∀{l:List Int},(l.map (tix t)).Nodup->l.Nodup:=fun h=>by
 rw[List.Nodup,List.pairwise_map]at h;exact h.imp fun a e=>a (by rw[e])
theorem ypp(g:Int->Bool):∀{B:List (List Int)},(∀b∈B,b≠[])->(pcs g B).flatten=B.flatten
 |[],_=>rfl
 |b::B,h=>by
  have a:=ypp g (B:=B) fun x e=>h x (dZ _ e);unfold pcs at a ⊢;rw[qy,nJ,a,yf7 g b [] (h b (dU ..)),vU,jD]
section
variable{t:bA}{f:bL}{B:List (List Int)}{r:cB}{c:Nat}
noncomputable def PC(t:bA)(B:List (List Int))(c:Nat):List (List Int):=pcs (cb t c) B
noncomputable def Vc(t:bA)(f:bL)(B:List (List Int))(r:cB)(c:Nat):Nat:=Wv (PC t B c).length (sF t f B r (PC t B c)) (qF t f B r (PC t B c)) 0 0
theorem yf1(h:RuP t f B r):(PC t B c).flatten=B.flatten:=ypp _ fun b hb=>(h.hP.1 b hb).1
theorem AY(h:RuP t f B r):(PC t B c).flatten.Nodup:=by rw[yf1 h];exact ycp h.hP.2.1
theorem yke(h:RuP t f B r){p:List Int}(l:p∈PC t B c):IsP B p:=by
 obtain⟨b,hb,j⟩:=rF.1 l;obtain⟨a,k,e,g⟩:=yf6 (cb t c) (b:=b) b [] [] (by simp) p j;obtain⟨i,hi⟩:=jJ hb;exact⟨a,i,k,b,hi,e,g⟩
theorem yf0(h:RuP t f B r):(PC t B c).length<=t.bn.length:=by
 have:=ykr (L:=PC t B c) fun p a=>(yke h a).1;rw[yf1 h,h.hP.2.2]at this;exact this
theorem yt5(h:RuP t f B r){p:List Int}(a:IsP B p):p.length<=2000:=by
 obtain⟨_,i,k,b,hb,e,_⟩:=a;have:=h.hB.2 b (bT hb);omega
theorem yda(h:RuP t f B r):∀p∈PC t B c,p.length<=3000:=fun p a=>by have:=yt5 h (yke h a);omega
theorem ykd(h:RuP t f B r)(hT:t.bn.length<=8):SmP (PC t B c):=by
 have u:(PC t B c).flatten.length<=8:=by rw[yf1 h,h.hP.2.2];exact hT
 have o:=El;have one:∀{L:List (List Int)}{p:List Int},p∈L->p.length<=L.flatten.length:=fun{L p} v=>by
  obtain⟨i,hi⟩:=jJ v;have e:L=L.take i++p::L.drop (i+1):=by
   have g:=l9 i L;rw[um (fK hi),(cK.1 hi).2]at g;exact g.symm
  rw[e];simp;omega
 have l:∀{L:List (List Int)}{i k:Nat}{a b:List Int},i<k->L[i]? =some a->L[k]? =some b->a.length+b.length<=L.flatten.length:=fun{L i k a b} j hi m=>by
  have e:L=L.take i++a::L.drop (i+1):=by
   have g:=l9 i L;rw[um (fK hi),(cK.1 hi).2]at g;exact g.symm
  have hb:b∈L.drop (i+1):=bT (i:=k-(i+1)) (by rw[iX];rw[show i+1+(k-(i+1))=k by omega];exact m);have:=one hb;rw[e];simp only[nJ,vU,gu];omega
 refine⟨fun p w=>by have:=one w;omega,fun i k a b j hi m=>?_⟩;rcases Nat.lt_or_gt_of_ne j with h1|h1
 ·have:=l h1 hi m;omega
 ·have:=l h1 m hi;omega
theorem AX(h:RuP t f B r):HdP (PC t B c).length (PC t B c):=by
 have ex:∀i,i<(PC t B c).length->∃p e,(PC t B c)[i]? =some p/\ (PC t B c).getD i []=p/\ p[0]? =some e/\ p.getD 0 0=e:=fun i hi=>by
  obtain⟨p,w⟩:=jak hi;have v:=(yke h (bT w)).1;obtain⟨e,a⟩:=jak (l:=p) (i:=0) (by have:p.length≠0:=fun e=>v (kK.1 e);omega);exact⟨p,e,w,by rw[dD,w];rfl,a,ykp a⟩
 constructor
 ·intro i hi;obtain⟨p,e,_,g,m,_⟩:=ex i hi;exact⟨e,by rw[g];exact m⟩
 ·intro i j hi z a;obtain⟨p,e,x,g,m,y⟩:=ex i hi;obtain⟨A,e',b,k,o,u⟩:=ex j z;rw[g,k,y,u]at a;subst a;exact yfa (AY h) x (bT m) b (bT o)
def lst:Option (Nat×Nat)->Nat
 |none=>BIG
 |some x=>x.2
noncomputable def bst(t:bA)(f:bL)(B:List (List Int))(r:cB):Nat->Option (Nat×Nat)
 |0=>none
 |c+1=>if ydz t B c/\ Vc t f B r c<(lst (bst t f B r c))then some (c,Vc t f B r c)else bst t f B r c
theorem ybz:∀{n a w:Nat},bst t f B r n=some (a,w)->a<n/\ ydz t B a/\ w=Vc t f B r a/\ w<BIG/\ ∀c,c<n->ydz t B c->w<=Vc t f B r c
 |0,a,w,h=>by cases h
 |n+1,a,w,h=>by
  unfold bst at h;split at h
  ·rename_i hc;cases h;cases hb:bst t f B r n with
   |none=>
    rw[hb]at hc;have u:=bst_none hb;refine⟨by omega,hc.1,rfl,hc.2,fun c g b=>?_⟩;by_cases e:c=n
    ·subst e;exact dQ _
    ·have:=u c (by omega) b;have:=hc.2;simp only[lst]at this;omega
   |some x=>
    obtain⟨a',w'⟩:=x;rw[hb]at hc;obtain⟨o,k,l,m,i⟩:=ybz hb;have p:=hc.2;simp only[lst]at p;refine⟨by omega,hc.1,rfl,by omega,fun c g b=>?_⟩;by_cases e:c=n
    ·subst e;exact dQ _
    ·have:=i c (by omega) b;omega
  ·rename_i hc;obtain⟨o,k,l,m,i⟩:=ybz h;refine⟨by omega,k,l,m,fun c g b=>?_⟩;by_cases e:c=n
   ·subst e;rw[h]at hc;have:=qw fun j=>hc ⟨b,j⟩;simp only[lst]at this;omega
   ·exact i c (by omega) b
 where
 bst_none:∀{n:Nat},bst t f B r n=none->∀c,c<n->ydz t B c->BIG<=Vc t f B r c
 |0,_,c,h,_=>by omega
 |n+1,h,c,g,b=>by
  unfold bst at h;split at h
  ·cases h
  ·rename_i hc;by_cases e:c=n
   ·subst e;rw[h]at hc;have:=qw fun j=>hc ⟨b,j⟩;simp only[lst]at this;omega
   ·exact bst_none h c (by omega) b
theorem Ki:prc BIG=⟨1073741824,0⟩:=by unfold prc BIG;rfl
def yux(t:bA)(f:bL)(B:List (List Int))(r:cB)(o:Option (Nat×Nat))(v e g:Int)(x:Option fq):Prop:=
 match o with
 |none=>v=0/\ e=1073741824/\ g=0/\ x=none
 |some (a,w)=>v=(a:Int)/\ (⟨e,g⟩:bI)=prc w/\ ∃sg pr b,x=some ⟨PC t B a,sg,pr,b⟩/\ CuP (PC t B a).length (sF t f B r (PC t B a)) (qF t f B r (PC t B a)) (PC t B a) sg pr/\ MmP (PC t B a).length (sF t f B r (PC t B a)) (qF t f B r (PC t B a)) b
theorem ywv{o:Option (Nat×Nat)}{v a b:Int}{x:Option fq}(h:yux t f B r o v a b x):(⟨a,b⟩:bI)=prc (lst o):=by
 cases o with
 |none=>
  obtain⟨_,rfl,rfl,_⟩:=h;exact Ki.symm
 |some e=>exact h.2.1
theorem yug(h:RuP t f B r)(hT:t.bn.length<=8):Tot (iter (yho t f B r) ((0:Int),(0:Int),(1073741824:Int),(0:Int),none)) fun o=>yux t f B r (bst t f B r (2^t.bn.length)) o.1 o.2.1 o.2.2.1 o.2.2.2:=by
 have hE:∀b∈B,b≠[]/\ ∀e∈b,0<=tix t e:=fun b hb=>⟨(h.hP.1 b hb).1,(h.hP.1 b hb).2.1⟩;have K:2^t.bn.length<=256:=(pq (by omega) hT:_<=2^8);refine .iter (fun m (a:Int×Int×Int×Int×Option fq)=>∃c:Nat,a.2.1=(c:Int)/\ m+c=2^t.bn.length/\ yux t f B r (bst t f B r c) a.1 a.2.2.1 a.2.2.2.1 a.2.2.2.2) (n:=2^t.bn.length) ⟨0,rfl,rfl,rfl,rfl,rfl,rfl⟩ ?_;rintro m ⟨v,V,W,X,x⟩ ⟨c,J,hc,p⟩;simp only at J p;subst J;have M:=ywv p;have new:c<2^t.bn.length->Tot (zq46 t f B r (PC t B c)) fun x=>∃sg pr,x=⟨PC t B c,sg,pr,[]⟩/\ CuP (PC t B c).length (sF t f B r (PC t B c)) (qF t f B r (PC t B c)) (PC t B c) sg pr:=fun _=>ykf h (yda h) (ykd h hT) (by have:=yf0 h (c:=c);omega);have hS:=yp2 h (ps:=PC t B c) (yda h) (ykd h hT) (by have:=yf0 h (c:=c);omega);unfold yho;dsimp only
 rw[ykc (by omega)];cases x with
 |none=>
  simp only[Option.elim];refine .iteP (fun y=>?_) fun y=>.dn ?_
  ·have k:c<2^t.bn.length:=by omega
   refine .call (P:=fun o=>yux t f B r (bst t f B r (c+1)) o.1 o.2.1 o.2.2.1 o.2.2.2) (.eq (ydw h.hb h.hB hT hE k).1 ?_) ?_
   ·by_cases j:ydz t B c
    ·rw[decide_eq_true j];refine .eq (ycu h.hb h.hB hT k fun b hb=>(hE b hb).2) (.call (new k) fun N ⟨sg,pr,E,hC⟩=>?_);subst E;refine .call (yfb hS hC (i:=0) (u:=0) (o9 _) (ytt _ _ _) (nG _)) fun G ⟨⟨w,H,I,_⟩,F⟩=>?_;have z:=yiw I;rw[M,H];obtain⟨O,D,A,_⟩:=yi2 w (lst (bst t f B r c));refine .eq D (.iteP (fun h0=>.ok ?_) fun h0=>.ok ?_)
     ·have g:=A.1 h0;have:bst t f B r (c+1)=some (c,w):=by
       unfold bst;rw[if_pos ⟨j,by unfold Vc;rw[z];exact g⟩];unfold Vc;rw[z]
      rw[this];exact⟨rfl,rfl,sg,pr,G.2,rfl,hC,F⟩
     ·have g:¬_:=fun l=>h0 (A.2 l);have:bst t f B r (c+1)=bst t f B r c:=by
       rw[bst,if_neg];rintro⟨_,l⟩;unfold Vc at l;rw[z]at l;exact g l
      rw[this];exact p
    ·rw[decide_eq_false j];have:bst t f B r (c+1)=bst t f B r c:=by rw[bst,if_neg fun l=>j l.1]
     refine .ok ?_;rw[this];exact p
   ·rintro⟨Y,Z,v6,U⟩ C;dsimp only
    cases U with
    |none=>exact .nx ⟨m-1,by omega,c+1,jai (by omega),by omega,C⟩
    |some x3=>exact .nx ⟨m-1,by omega,c+1,jai (by omega),by omega,C⟩
  ·have:c=2^t.bn.length:=by omega
   subst this;exact p
 |some x1=>
  simp only[Option.elim];refine .iteP (fun y=>?_) fun y=>.dn ?_
  ·have k:c<2^t.bn.length:=by omega
   refine .call (P:=fun o=>yux t f B r (bst t f B r (c+1)) o.1 o.2.2.2.2.1 o.2.2.2.2.2.1 (some ⟨o.2.1,o.2.2.1,o.2.2.2.1,o.2.2.2.2.2.2⟩)) (.eq (ydw h.hb h.hB hT hE k).1 ?_) fun⟨v7,v8,v9,Q,R,S,T⟩ C=>.nx ⟨m-1,by omega,c+1,jai (by omega),by omega,C⟩;by_cases j:ydz t B c
   ·rw[decide_eq_true j];refine .eq (ycu h.hb h.hB hT k fun b hb=>(hE b hb).2) (.call (new k) fun N ⟨sg,pr,E,hC⟩=>?_);subst E;refine .call (yfb hS hC (i:=0) (u:=0) (o9 _) (ytt _ _ _) (nG _)) fun G ⟨⟨w,H,I,_⟩,F⟩=>?_;have z:=yiw I;rw[M,H];obtain⟨O,D,A,_⟩:=yi2 w (lst (bst t f B r c));refine .eq D (.iteP (fun h0=>.ok ?_) fun h0=>.ok ?_)
    ·have g:=A.1 h0;have:bst t f B r (c+1)=some (c,w):=by
      unfold bst;rw[if_pos ⟨j,by unfold Vc;rw[z];exact g⟩];unfold Vc;rw[z]
     rw[this];exact⟨rfl,rfl,sg,pr,G.2,rfl,hC,F⟩
    ·have g:¬_:=fun l=>h0 (A.2 l);have:bst t f B r (c+1)=bst t f B r c:=by
      rw[bst,if_neg];rintro⟨_,l⟩;unfold Vc at l;rw[z]at l;exact g l
     rw[this];exact p
   ·rw[decide_eq_false j];have:bst t f B r (c+1)=bst t f B r c:=by rw[bst,if_neg fun l=>j l.1]
    refine .ok ?_;rw[this];exact p
  ·have:c=2^t.bn.length:=by omega
   subst this;exact p
noncomputable def fewR(t:bA)(f:bL)(B:List (List Int))(r:cB):List bB×Int×Int×Bool:=match bst t f B r (2^t.bn.length)with
 |none=>([],0,0,false)
 |some (a,w)=>(dutL (PC t B a) (PC t B a).length (sF t f B r (PC t B a)) (qF t f B r (PC t B a)),(a:Int),((w%100000:Nat):Int),true)
theorem KC(h:RuP t f B r)(hT:t.bn.length<=8):zq28 t f B r=some (fewR t f B r):=by
 have hS:=fun c=>yp2 h (ps:=PC t B c) (yda h) (ykd h hT) (by have:=yf0 h (c:=c);omega);unfold zq28;refine Tot.val (.iteP (fun h=>absurd h (by omega)) fun _=>.chk (by omega) (.call (yug h hT) fun⟨o,p,e,u⟩ b=>?_));simp only at b;dsimp only
 unfold fewR;cases hb:bst t f B r (2^t.bn.length)with
 |none=>
  rw[hb]at b;obtain⟨_,_,_,rfl⟩:=b;exact .ok rfl
 |some i=>
  obtain⟨a,w⟩:=i;rw[hb]at b;obtain⟨rfl,k,sg,pr,g,rfl,hC,j⟩:=b;simp only[Option.elim];refine .call (Kw (hS a) hC (AX h) j) fun m l=>.ok ?_;have:e=((w%100000:Nat):Int):=congrArg bI.lT k;rw[l,this]
theorem yuf(h:RuP t f B r)(hT:t.bn.length<=8):Tot (iter (yg5 t f B r) ((-1:Int),(0:Int),(0:Int))) fun o=>match bst t f B r (2^t.bn.length)with|none=>o.1= -1|some (a,w)=>o.1=(a:Int)/\ o.2=(w:Int):=by
 have hE:∀b∈B,b≠[]/\ ∀e∈b,0<=tix t e:=fun b hb=>⟨(h.hP.1 b hb).1,(h.hP.1 b hb).2.1⟩;have G:2^t.bn.length<=256:=(pq (by omega) hT:_<=2^8);refine .iter (fun m (a:Int×Int×Int)=>∃c:Nat,a.2.2=(c:Int)/\ m+c=2^t.bn.length/\ (match bst t f B r c with|none=>a.1= -1|some (b,w)=>a.1=(b:Int)/\ a.2.1=(w:Int))) (n:=2^t.bn.length) ⟨0,rfl,rfl,rfl⟩ ?_;rintro m ⟨out,x,v⟩ ⟨c,E,hc,k⟩;simp only at E k;subst E;unfold yg5;rw[ybd (by omega),ykc (by omega)];refine .chk (by omega) (.iteP (fun C=>?_) fun C=>.dn ?_)
 ·have p:c<2^t.bn.length:=by omega
  refine .call (P:=fun o=>(match bst t f B r (c+1)with|none=>o.1= -1|some (b,w)=>o.1=(b:Int)/\ o.2=(w:Int))) (.eq (ydw h.hb h.hB hT hE p).2 ?_) fun⟨R,U⟩ J=>.nx ⟨m-1,by omega,c+1,jai (by omega),by omega,J⟩;by_cases l:ydz t B c
  ·rw[decide_eq_true l];have u:(PC t B c).length<=8:=by have:=yf0 h (c:=c);omega
   have hS:=yp2 h (ps:=PC t B c) (yda h) (ykd h hT) u;refine .call (ytv h (yda h) (ykd h hT) u (ygt h.hb h.hB hT p fun b hb=>(hE b hb).2)) fun S ⟨al,pr,Q,H,hP,A⟩=>?_;subst H;refine .call (yjh hS hP (D:=0) (nG _) A (nG _)) fun O ⟨⟨T,F,K⟩,_⟩=>?_;have i:=g_t2 hS (yj4 _ _ _ 0 0) (K.t 0 fun j _ _=>by simp);have hV:Wv (PC t B c).length (sF t f B r (PC t B c)) (qF t f B r (PC t B c)) 0 0=Vc t f B r c:=rfl;rw[hV]at i;refine .call (P:=fun b=>b=decide (Vc t f B r c<(lst (bst t f B r c)))) ?_ fun b hb=>?_
   ·rw[F];cases g:bst t f B r c with
    |none=>
     rw[g]at k;simp only at k;rcases jC (Vc t f B r c) BIG with hv|hv
     ·rw[i.1 hv,k];exact .iteP (fun _=>.iteP (fun _=>.ok (decide_eq_true hv).symm) fun h=>absurd (by decide) h) fun h=>absurd (show(0:Int)<=((Vc t f B r c:Nat):Int)by omega) h
     ·rw[i.2 hv];exact .iteP (fun h=>absurd h (by decide)) fun _=>.ok (decide_eq_false (by simp only[lst];omega)).symm
    |some y=>
     obtain⟨a,w⟩:=y;obtain⟨_,_,_,I,_⟩:=ybz g;rw[g]at k;obtain⟨M,N⟩:=k;rcases jC (Vc t f B r c) BIG with hv|hv
     ·rw[i.1 hv,M,N];refine .iteP (fun _=>.iteP (fun h=>by omega) fun _=>.ok (decide_eq_decide.2 ?_)) fun h=>absurd (show(0:Int)<=((Vc t f B r c:Nat):Int)by omega) h;show((Vc t f B r c:Nat):Int)<(w:Int)↔_;simp only[lst];omega
     ·rw[i.2 hv];exact .iteP (fun h=>absurd h (by decide)) fun _=>.ok (decide_eq_false (by simp only[lst];omega)).symm
   ·subst hb;refine .iteP (fun h0=>.ok ?_) fun h0=>.ok ?_
    ·have:bst t f B r (c+1)=some (c,Vc t f B r c):=by rw[bst,if_pos ⟨l,h0⟩]
     rw[this];refine⟨rfl,?_⟩;have hv:Vc t f B r c<BIG:=by
      cases g:bst t f B r c with
      |none=>rw[g]at h0;exact h0
      |some y=>
       obtain⟨a,w⟩:=y;obtain⟨_,_,_,I,_⟩:=ybz g;rw[g]at h0;simp only[lst]at h0;omega
     show O.1=_;rw[F,i.1 hv];rfl
    ·have:bst t f B r (c+1)=bst t f B r c:=by rw[bst,if_neg fun z=>h0 z.2]
     rw[this];exact k
  ·rw[decide_eq_false l];have:bst t f B r (c+1)=bst t f B r c:=by rw[bst,if_neg fun z=>l z.1]
   refine .ok ?_;rw[this];exact k
 ·have:c=2^t.bn.length:=by omega
  subst this;exact k
theorem KD(h:RuP t f B r)(hT:t.bn.length<=8):zq81 t f B r=some (fewR t f B r):=by
 have hE:∀b∈B,b≠[]/\ ∀e∈b,0<=tix t e:=fun b hb=>⟨(h.hP.1 b hb).1,(h.hP.1 b hb).2.1⟩;unfold zq81;refine Tot.val (.call (yuf h hT) fun⟨o,x⟩ i=>?_);simp only at i;dsimp only
 unfold fewR;cases hb:bst t f B r (2^t.bn.length)with
 |none=>
  rw[hb]at i;simp only at i;subst i;exact .iteP (fun _=>.ok rfl) fun h=>absurd (by decide) h
 |some m=>
  obtain⟨a,w⟩:=m;rw[hb]at i;obtain⟨C,D⟩:=i;subst C;subst D;obtain⟨v,H,y,j,_⟩:=ybz hb;have g:(PC t B a).length<=8:=by have:=yf0 h (c:=a);omega
  have hS:=yp2 h (ps:=PC t B a) (yda h) (ykd h hT) g;refine .iteP (fun h=>by omega) fun _=>.call (ytv h (yda h) (ykd h hT) g (ygt h.hb h.hB hT v fun b hb=>(hE b hb).2)) fun J ⟨al,pr,I,u,hP,z⟩=>?_;subst u;refine .call (yus hS hP (by rw[y]at j;exact j)) fun E ⟨k,l⟩=>?_;obtain⟨F,G⟩:=E;simp only at k l;subst k;refine .eq (Kz g rfl (AX h) (fun p A=>by have:=yda h p A;omega) l) (.chk (by decide) (.ok ?_));have:((w:Int).tmod 100000)=((w%100000:Nat):Int):=by rw[Int.tmod_eq_emod_of_nonneg (by omega)];omega
  rw[this]
end
def fi(d:bB):Int:=(d.bE.getD 0 []).getD 0 0
section
variable{t:bA}{f:bL}{B:List (List Int)}{r:cB}
def ynt(t:bA)(u:List Bool)(seen:List Int):Prop:=ygd u (seen.map (tix t))/\ seen.Nodup/\ ∀e∈seen,0<=tix t e
theorem ypk(hT:t.bn.length<=12){seen:List Int}(hd:seen.Nodup)(h:∀e∈seen,0<=tix t e):seen.length<=t.bn.length:=by
 have:=pig (n:=t.bn.length) (l:=seen.map (tix t)) (by
  rw[List.Nodup,List.pairwise_map];exact List.Pairwise.imp_of_mem (fun{a b} i _ g e=>g (yte (h a i) e)) hd) (fun x k=>by
  obtain⟨e,j,rfl⟩:=jE.1 k;have:=ybg (h e j);omega)
 rw[iy]at this;exact this
theorem ytu{seen:List Int}(g:∀e∈seen,0<=tix t e){e:Int}:tix t e∈seen.map (tix t)↔e∈seen:=by
 constructor
 ·intro h;obtain⟨e',a,b⟩:=jE.1 h;have:=yte (g e' a) b;subst this;exact a
 ·exact List.mem_map_of_mem
theorem yts{l:List Int}{e:Int}(hd:l.Nodup)(h:e∉l):(l++[e]).Nodup:=kJ.2 ⟨hd,by simp,fun a b c hc=>by
 rw[iR.1 hc];intro e';exact h (e'▸b)⟩
theorem yf2{a b:List Int}(h:(a++b).Nodup):a.Nodup:=(kJ.1 h).1
theorem La(hb:TB t)(hT:t.bn.length<=12){p:List Int}(G:p.length<=3000)(F:∀e∈p,0<=tix t e){seen:List Int}{u:List Bool}(hU:ynt t u seen):
  Tot (iter (yhn t p) ((seen.length:Int),(0:Int),u)) fun o=>(¬(seen++p).Nodup/\ o=.ret (.dn (.ret (.dn (.ret false))))) \/((seen++p).Nodup/\ ∃D,o=.go (((seen++p).length:Int),D)/\ ynt t D (seen++p)):=by
 refine .iter (fun m (a:Int×Int×List Bool)=>∃k:Nat,a.2.1=(k:Int)/\ m+k=p.length/\ a.1=((seen++p.take k).length:Int)/\ ynt t a.2.2 (seen++p.take k)) (n:=p.length) ⟨0,rfl,rfl,by simp,by simpa using hU⟩ ?_;rintro m ⟨K,v,w⟩ ⟨k,A,I,C,b⟩;simp only at A C b;subst A;subst C;unfold yhn;refine .iteP (fun g=>?_) fun g=>.dn (.inr ?_)
 ·obtain⟨e,h⟩:=jak (l:=p) (i:=k) (by omega);have y:=F e (bT h);have H:=ybg y;have j:0<=tix t e/\ tix t e<12:=by omega
  have J:=ypk hT b.2.1 b.2.2;have heq:seen++p=(seen++p.take k++[e])++p.drop (k+1):=by
   rw[eU seen,<-jap h,eU,l9]
  refine .eq (ixs h) (.eq (yiy hb e) (.chk j (.eq (yix b.1 j) ?_)));by_cases z:e∈seen++p.take k
  ·rw[decide_eq_true ((ytu b.2.2).2 z)];refine .dn (.inl ⟨fun hd=>?_,rfl⟩);rw[heq]at hd;have:=(kJ.1 (yf2 hd)).2.2 e z e (iR.2 rfl);exact this rfl
  ·rw[decide_eq_false fun E=>z ((ytu b.2.2).1 E)];refine .chk j (.eq (yix b.1 j) (.nx ⟨m-1,by omega,k+1,jai (by omega),by omega,?_,?_⟩))
   ·simp only
    rw[jap h,<-eU,jai (by omega)];simp;omega
   ·simp only
    rw[jap h,<-eU];refine⟨?_,yts b.2.1 z,fun x hx=>?_⟩
    ·rw[oD];exact yph b.1 j
    ·rcases fA.1 hx with hx|hx
     ·exact b.2.2 x hx
     ·rw[iR.1 hx];exact y
 ·have g:¬(k:Int)<(p.length:Int):=g;rw[iw (by omega)]at b ⊢;exact⟨b.2.1,w,rfl,b⟩
theorem Lb(hb:TB t)(hT:t.bn.length<=12){d:bB}(F:d.bE.length<=4)(H:∀p∈d.bE,p.length<=3000/\ ∀e∈p,0<=tix t e){seen:List Int}{u:List Bool}(hU:ynt t u seen):
  Tot (iter (yfl t d) ((seen.length:Int),(0:Int),u)) fun o=>(¬(seen++d.bE.flatten).Nodup/\ o=.ret (.dn (.ret false))) \/((seen++d.bE.flatten).Nodup/\ ∃z,o=.go (((seen++d.bE.flatten).length:Int),z)/\ ynt t z (seen++d.bE.flatten)):=by
 refine .iter (fun m (a:Int×Int×List Bool)=>∃k:Nat,a.2.1=(k:Int)/\ m+k=d.bE.length/\ a.1=((seen++(d.bE.take k).flatten).length:Int)/\ ynt t a.2.2 (seen++(d.bE.take k).flatten)) (n:=d.bE.length) ⟨0,rfl,rfl,by simp,by simpa using hU⟩ ?_;rintro m ⟨J,v,w⟩ ⟨k,A,I,C,b⟩;simp only at A C b;subst A;subst C;unfold yfl;refine .iteP (fun h=>?_) fun h=>.dn (.inr ?_)
 ·obtain⟨p,x⟩:=jak (l:=d.bE) (i:=k) (by omega);have j:=H p (bT x);have g:(d.bE.take (k+1)).flatten=(d.bE.take k).flatten++p:=by rw[jap x,nJ];simp
  have heq:d.bE.flatten=(d.bE.take (k+1)).flatten++(d.bE.drop (k+1)).flatten:=by rw[<-nJ,l9]
  refine .eq (ixs x) ?_;obtain⟨o,G,y⟩:=La hb hT j.1 j.2 b;rw[G];rcases y with⟨D,rfl⟩|⟨D,z,rfl,E⟩
  ·refine .dn (.inl ⟨fun hd=>D ?_,rfl⟩);rw[heq,g,<-eU]at hd;rw[eU];exact yf2 hd
  ·refine .nx ⟨m-1,by omega,k+1,jai (by omega),by omega,?_,?_⟩
   ·simp only;rw[g,eU]
   ·simp only;rw[g,<-eU];exact E
 ·have h:¬(k:Int)<(d.bE.length:Int):=h;rw[iw (by omega)]at b ⊢;exact⟨b.2.1,w,rfl,b⟩
theorem LM{L:List bB}{v k:Nat}{d:bB}{p:List Int}(x:L[v]? =some d)(w:d.bE[k]? =some p)(C:p.length<=3000){seen:List Int}(D:seen.length<=50000)(hd:seen.Nodup):
  Tot (iter (yg3 L (v:Int) (k:Int)) ((0:Int),seen)) fun o=>(¬(seen++p).Nodup/\ o=.ret (.dn (.ret (.dn (.ret false))))) \/((seen++p).Nodup/\ o=.go (seen++p)):=by
 refine .iter (fun m (a:Int×List Int)=>∃k:Nat,a.1=(k:Int)/\ m+k=p.length/\ a.2=seen++p.take k/\ (seen++p.take k).Nodup) (n:=p.length) ⟨0,rfl,rfl,by simp,by simpa using hd⟩ ?_;rintro m ⟨F,G⟩ ⟨j,y,E,z,g⟩;simp only at y z;subst y;subst z;unfold yg3;refine .eq (ixs x) (.eq (ixs w) (.iteP (fun b=>?_) fun b=>.dn (.inr ?_)))
 ·obtain⟨e,h⟩:=jak (l:=p) (i:=j) (by omega);have heq:seen++p=(seen++p.take j++[e])++p.drop (j+1):=by
   rw[eU seen,<-jap h,eU,l9]
  have A:(seen++p.take j).length<=53000:=by rw[gu,eF];omega
  refine .eq (ixs x) (.eq (ixs w) (.eq (ixs h) (.eq (ydc _ (by omega) e) ?_)));by_cases u:e∈seen++p.take j
  ·rw[decide_eq_true u];refine .dn (.inl ⟨fun hd=>?_,rfl⟩);rw[heq]at hd;exact(kJ.1 (yf2 hd)).2.2 e u e (iR.2 rfl) rfl
  ·rw[decide_eq_false u];refine .eq (ixs x) (.eq (ixs w) (.eq (ixs h) (.chk (by rw[lQ];omega) (.nx ⟨m-1,by omega,j+1,jai (by omega),by omega,?_,?_⟩))))
   ·simp only;rw[jap h,<-eU]
   ·rw[jap h,<-eU];exact yts g u
 ·have b:¬(j:Int)<(p.length:Int):=b;rw[iw (by omega)]at g ⊢;exact⟨g,rfl⟩
theorem Kt{L:List bB}{v:Nat}{d:bB}(z:L[v]? =some d)(A:d.bE.length<=4)(E:∀p∈d.bE,p.length<=3000){seen:List Int}(F:seen.length<=12)(hd:seen.Nodup):
  Tot (iter (yfe L (v:Int)) ((0:Int),seen)) fun o=>(¬(seen++d.bE.flatten).Nodup/\ o=.ret (.dn (.ret false))) \/((seen++d.bE.flatten).Nodup/\ o=.go (seen++d.bE.flatten)):=by
 refine .iter (fun m (a:Int×List Int)=>∃k:Nat,a.1=(k:Int)/\ m+k=d.bE.length/\ a.2=seen++(d.bE.take k).flatten/\ (seen++(d.bE.take k).flatten).Nodup/\ (d.bE.take k).flatten.length<=3000*k) (n:=d.bE.length) ⟨0,rfl,rfl,by simp,by simpa using hd,by simp⟩ ?_;rintro m ⟨H,I⟩ ⟨k,x,G,y,g,C⟩;simp only at x y;subst x;subst y;unfold yfe;refine .eq (ixs z) (.iteP (fun e=>?_) fun e=>.dn (.inr ?_))
 ·obtain⟨p,j⟩:=jak (l:=d.bE) (i:=k) (by omega);have w:=E p (bT j);have b:(d.bE.take (k+1)).flatten=(d.bE.take k).flatten++p:=by rw[jap j,nJ];simp
  have heq:d.bE.flatten=(d.bE.take (k+1)).flatten++(d.bE.drop (k+1)).flatten:=by rw[<-nJ,l9]
  obtain⟨o,D,u⟩:=LM z j w (seen:=seen++(d.bE.take k).flatten) (by rw[gu];omega) g;rw[D];rcases u with⟨h,rfl⟩|⟨h,rfl⟩
  ·refine .dn (.inl ⟨fun hd=>h ?_,rfl⟩);rw[heq,b,<-eU]at hd;rw[eU];exact yf2 hd
  ·refine .nx ⟨m-1,by omega,k+1,jai (by omega),by omega,?_,?_,?_⟩
   ·simp only;rw[b,eU]
   ·rw[b,<-eU];exact h
   ·rw[b,gu];omega
 ·have e:¬(k:Int)<(d.bE.length:Int):=e;rw[iw (by omega)]at g ⊢;exact⟨g,rfl⟩
def fls(L:List bB):List Int:=L.flatMap fun d=>d.bE.flatten
structure CovP(t:bA)(f:bL)(B:List (List Int))(r:cB)(L:List bB):Prop where
 br:∀d∈L,zq16 t f B r d=some 0
 asc:∀(i:Nat) d d',L[i]? =some d->L[i+1]? =some d'->fi d<fi d'
 nd:(fls L).Nodup
 len:(fls L).length=t.bn.length
theorem ywz{L:List bB}{i:Nat}{d:bB}(h:L[i]? =some d):fls (L.take (i+1))=fls (L.take i)++d.bE.flatten:=by
 unfold fls;rw[jap h,Az];simp
theorem ykq(L:List bB)(i:Nat):fls L=fls (L.take i)++fls (L.drop i):=by
 unfold fls;rw[<-Az,l9]
theorem yjb(h:RuP t f B r){d:bB}(o:d.bE.length<=4)(u:∀p∈d.bE,p.length<=3000)(hs:d.bE.flatten.length<=srtN):∃v,zq16 t f B r d=some v/\ zq71 t f B r d=some v/\ (v=0->(∀p∈d.bE,IsP B p)/\ (∀p∈d.bE,Trs t p)/\ ∃p e,d.bE[0]? =some p/\ p[0]? =some e/\ fi d=e/\ 1<=e):=by
 obtain⟨v,w,x,y⟩:=yf9 (r:=r) (d:=d.bE) h.hb h.hA h.hP h.hB o u hs;refine⟨v,w,x,fun h0=>?_⟩;obtain⟨k,m,_⟩:=y h0;obtain⟨p,a⟩:=jak (l:=d.bE) (i:=0) (by have:=k.1;omega);have j:=bT a;have b:=m p j;obtain⟨e,g⟩:=jak (l:=p) (i:=0) (by have:p.length≠0:=fun e=>b.1 (kK.1 e);omega);exact⟨k.2.1,m,p,e,a,g,by unfold fi;simp[dD,a,g],ytd h.hA.1 (b.2.2 e (bT g))⟩
theorem yq7(h:RuP t f B r){L:List bB}(hL:L.length<=1000)(hd:∀d∈L,d.bE.length<=4/\ (∀p∈d.bE,p.length<=3000)/\ d.bE.flatten.length<=srtN):∃v,zq32 t f B r L=some v/\ zq82 t f B r L=some v/\ (v=true↔CovP t f B r L):=by
 have hT:t.bn.length<=12:=by have:=h.hA.1.2.1;omega
 have H:=Bz (A:=Int×Int×Int×List Bool) (A':=Int×List Int) (step:=ycg t f B r L) (step':=yb3 t f B r L)
  (fun m a a'=>∃j:Nat,m+j=L.length/\ a.2.2.1=(j:Int)/\ a'.1=(j:Int)/\ a'.2=fls (L.take j)/\ a.1=((fls (L.take j)).length:Int)/\ ynt t a.2.2.2 (fls (L.take j))/\ (∀d∈L.take j,zq16 t f B r d=some 0)/\ (∀(i:Nat) d d',i+1<j->L[i]? =some d->L[i+1]? =some d'->fi d<fi d')/\ (j=0->a.2.1=0)/\ ∀i d,j=i+1->L[i]? =some d->a.2.1=fi d)
  (fun b b'=>(b=.ret false/\ b'=.ret false/\ ¬CovP t f B r L) \/(b=.go ((fls L).length:Int)/\ b'=.go (fls L)/\ ((fls L).length=t.bn.length->CovP t f B r L))) ?_ (k:=L.length) (a:=((0:Int),(0:Int),(0:Int),List.replicate 12 false)) (a':=((0:Int),([]:List Int))) ⟨0,rfl,rfl,rfl,rfl,rfl,⟨ypi,by simp[fls],by simp[fls]⟩,by simp,fun i d d' hi=>by omega,fun _=>rfl,fun i d hi=>by omega⟩
 ·obtain⟨b,b',aa,ab,ac⟩:=H;unfold zq32 zq82;rw[aa,ab];rcases ac with⟨rfl,rfl,hn⟩|⟨rfl,rfl,hy⟩
  ·exact⟨false,rfl,rfl,⟨nofun,fun h=>absurd h hn⟩⟩
  ·refine⟨((fls L).length:Int)==(t.bn.length:Int),rfl,rfl,⟨fun hh=>hy (by have:=beq_iff_eq.1 hh;omega),fun hc=>beq_iff_eq.2 (by have:=hc.len;omega)⟩⟩
 ·rintro m ⟨p,v,v1,v2⟩ ⟨w,w1⟩ ⟨j,hm,e1,e2,e3,e4,hU,F,V,hz,G⟩;simp only at e1 e2 e3 e4 hU hz G;subst e1;subst e2;subst e3;subst e4;by_cases hj:j<L.length
  ·obtain⟨d,g⟩:=jak hj;have D:=hd d (bT g);obtain⟨x,U,x2,x3⟩:=yjb h D.1 D.2.1 D.2.2;have C:decide ((j:Int)<(L.length:Int))=true:=decide_eq_true (by omega);have N:(x≠0 \/fi d<=v)->(x=0->fi d<=v->0<j)->¬CovP t f B r L:=by
    rintro(hx|hx) h0 hc
    ·have:=hc.br d (bT g);rw[U]at this;exact hx (gT this)
    ·have Y:=hc.br d (bT g);rw[U]at Y;have W:=h0 (gT Y) hx;obtain⟨i,rfl⟩:∃i,j=i+1:=⟨j-1,by omega⟩;obtain⟨E,u⟩:=jak (l:=L) (i:=i) (by omega);have:=hc.asc i E d u g;have:=G i E rfl u;omega
   by_cases hx:x=0
   ·subst hx;obtain⟨y1,y2,pp,e,y3,y4,y5,y6⟩:=x3 rfl;have a1:idx d.bE 0=some pp:=ixs (i:=0) y3;have a2:idx pp 0=some e:=ixs (i:=0) y4;have ah:e<=v↔(0<j/\ fi d<=v):=by
     rw[y5];constructor
     ·intro he;refine⟨?_,he⟩;rcases Nat.eq_zero_or_pos j with h0|h0
      ·have:=hz h0;omega
      ·exact h0
     ·exact fun h=>h.2
    by_cases P:e<=v
    ·have W:=(ah.1 P).1;obtain⟨i,rfl⟩:∃i,j=i+1:=⟨j-1,by omega⟩;obtain⟨E,u⟩:=jak (l:=L) (i:=i) (by omega);have y:=hd E (bT u);obtain⟨z,z1,_,z3⟩:=yjb h y.1 y.2.1 y.2.2;have Q:z=0:=by
      have:=F E (by rw[jap u];simp);rw[z1]at this;exact gT this
     obtain⟨_,_,p0,e0,u3,u4,u5,_⟩:=z3 Q;have b1:idx E.bE 0=some p0:=ixs (i:=0) u3;have b2:idx p0 0=some e0:=ixs (i:=0) u4;have ai:=G i E rfl u;have hw:w64 (((i+1:Nat):Int)-1)=(i:Int):=jff (by omega);have J:decide ((0:Int)<((i+1:Nat):Int))=true:=decide_eq_true (by omega);have I:decide (e<=e0)=true:=decide_eq_true (by omega);refine .inr ⟨.ret false,.ret false,?_,?_,.inl ⟨rfl,rfl,N (.inr (by omega)) fun _ _=>W⟩⟩
     ·simp only[ycg,C,if_true,jal,g,bF,U,bne_self_eq_false,bW,if_false,a1,a2,decide_eq_true P]
     ·simp only[yb3,C,if_true,jal,g,bF,x2,bne_self_eq_false,bW,if_false,J,hw,u,b1,b2,a1,a2,I]
    ·have X:decide (e<=v)=false:=decide_eq_false P;have ak:=ypk hT hU.2.1 hU.2.2;obtain⟨o,ho,af⟩:=Lb h.hb hT D.1 (fun p hp=>⟨D.2.1 p hp,(y2 p hp).2.2⟩) hU;obtain⟨o',ae,M⟩:=Kt g D.1 D.2.1 (by omega) hU.2.1;have S:yb3 t f B r L ((j:Int),fls (L.take j))=flb (iter (yfe L (j:Int)) ((0:Int),fls (L.take j))) fun(v9:List Int)=>some (.nx ((w64 ((j:Int)+1)),v9)):=by
      rcases Nat.eq_zero_or_pos j with h0|h0
      ·subst h0;have J:decide ((0:Int)<((0:Nat):Int))=false:=by decide
       simp only[yb3,C,if_true,jal,g,bF,x2,bne_self_eq_false,bW,if_false,J]
      ·obtain⟨i,rfl⟩:∃i,j=i+1:=⟨j-1,by omega⟩;obtain⟨E,u⟩:=jak (l:=L) (i:=i) (by omega);have y:=hd E (bT u);obtain⟨z,z1,_,z3⟩:=yjb h y.1 y.2.1 y.2.2;have Q:z=0:=by
        have:=F E (by rw[jap u];simp);rw[z1]at this;exact gT this
       obtain⟨_,_,p0,e0,u3,u4,u5,_⟩:=z3 Q;have b1:idx E.bE 0=some p0:=ixs (i:=0) u3;have b2:idx p0 0=some e0:=ixs (i:=0) u4;have ai:=G i E rfl u;have hw:w64 (((i+1:Nat):Int)-1)=(i:Int):=jff (by omega);have J:decide ((0:Int)<((i+1:Nat):Int))=true:=decide_eq_true (by omega);have I:decide (e<=e0)=false:=decide_eq_false (by omega);simp only[yb3,C,if_true,jal,g,bF,x2,bne_self_eq_false,bW,if_false,J,hw,u,b1,b2,a1,a2,I]
     have R:ycg t f B r L (((fls (L.take j)).length:Int),v,(j:Int),v2)=flb (iter (yfl t d) (((fls (L.take j)).length:Int),(0:Int),v2)) fun((p4,aj):Int×(List Bool))=>some (.nx (p4,e,(w64 ((j:Int)+1)),aj)):=by
      simp only[ycg,C,if_true,jal,g,bF,U,bne_self_eq_false,bW,if_false,a1,a2,X]
     have K:=ywz g;rw[S,R,ho,ae];rcases af with⟨n1,rfl⟩|⟨n1,u',rfl,n2⟩
     ·rcases M with⟨n3,rfl⟩|⟨n3,rfl⟩
      ·refine .inr ⟨.ret false,.ret false,rfl,rfl,.inl ⟨rfl,rfl,fun hc=>n1 ?_⟩⟩;have:=hc.nd;rw[ykq L (j+1),K]at this;exact yf2 this
      ·exact absurd n3 n1
     ·rcases M with⟨n3,rfl⟩|⟨n3,rfl⟩
      ·exact absurd n1 n3
      ·refine .inl ⟨_,_,m-1,rfl,rfl,by omega,j+1,by omega,jai (by omega),jai (by omega),K.symm,by simp only;rw[K],by simp only;rw[K];exact n2,?_,?_,fun h=>by omega,?_⟩
       ·intro x hx;rw[jap g]at hx;rcases fA.1 hx with hx|hx
        ·exact F x hx
        ·rw[iR.1 hx];exact U
       ·intro i d1 d2 hi O T;by_cases e9:i+1=j
        ·subst e9;rw[g]at T;cases T;have:=G i d1 rfl O;omega
        ·exact V i d1 d2 (by omega) O T
       ·intro i d1 hi O;have:i=j:=by omega
        subst this;rw[g]at O;cases O;exact y5.symm
   ·have Z:(x !=0)=true:=by simp[hx]
    refine .inr ⟨.ret false,.ret false,?_,?_,.inl ⟨rfl,rfl,N (.inl hx) fun h=>absurd h hx⟩⟩
    ·simp only[ycg,C,if_true,jal,g,bF,U,Z]
    ·simp only[yb3,C,if_true,jal,g,bF,x2,Z]
  ·have ad:L.take j=L:=iw (by omega);have C:decide ((j:Int)<(L.length:Int))=false:=decide_eq_false (by omega);rw[ad]at hU F ⊢;refine .inr ⟨.go ((fls L).length:Int),.go (fls L),?_,?_,.inr ⟨rfl,rfl,fun hl=>⟨F,fun i d d' O T=>V i d d' (by have:=fK T;omega) O T,hU.2.1,hl⟩⟩⟩
   ·simp only[ycg,C,bW,if_false]
   ·simp only[yb3,C,bW,if_false]
end
section
variable{t:bA}{f:bL}{B:List (List Int)}{r:cB}
end
def sumN(g:Nat->Nat):Nat->Nat
 |0=>0
 |m+1=>sumN g m+g m
section
variable{n:Nat}{s:Nat->Nat}{q:Nat->Nat->Nat}{ps:List (List Int)}
noncomputable def pcN(n:Nat)(s:Nat->Nat)(q:Nat->Nat->Nat)(j:Nat):Nat:=match bh n s q j with
 |some k=>q j k
 |none=>0
noncomputable def cD(n:Nat)(s:Nat->Nat)(q:Nat->Nat->Nat)(j:Nat):Nat:=match bh n s q j with
 |some k=>q j k
 |none=>if(stU n s q n).testBit j=true then 0 else s j
theorem yw2{i u:Nat}(h:fk n s q i u=none):∀k,k<n->¬okF n s q i u k:=fun k a=>by
 unfold fk at h;have:=List.find?_eq_none.1 h k (jo.2 a);simpa using this
theorem Lr{i:Nat}:Wv n s q i (stU n s q i)=pcN n s q i+Wv n s q (i+1) (stU n s q (i+1)):=by
 unfold pcN bh;rw[stU];cases h:fk n s q i (stU n s q i)with
 |some k=>
  obtain⟨_,_,_,_,_,j⟩:=yks h;simp only
  exact j.symm
 |none=>
  simp only
  have o:=yw2 h;have:=yiw (Ct.isG_drop (yj4 n s q i (stU n s q i)) fun k w m a b e g p l=>o k m ⟨a,b,e,g,by rw[yiw (by rw[<-ydi];exact p)];exact l⟩);omega
theorem Em:Wv n s q 0 0=sumN (cD n s q) n:=by
 have b:∀i,Wv n s q 0 0=sumN (pcN n s q) i+Wv n s q i (stU n s q i):=by
  intro i
  induction i with
  |zero=>unfold sumN stU;omega
  |succ i a=>rw[a,Lr,sumN];omega
 have e:Wv n s q n (stU n s q n)=Ct.sgl s (stU n s q n).testBit n:=yiw Ct.isG_end;have g:∀m,m<=n->sumN (pcN n s q) m+Ct.sgl s (stU n s q n).testBit m=sumN (cD n s q) m:=by
  intro m
  induction m with
  |zero=>intro _;rfl
  |succ m a=>
   intro h;have a:=a (by omega);unfold sumN Ct.sgl;have:pcN n s q m+(if(stU n s q n).testBit m=true then 0 else s m)=cD n s q m:=by
    unfold pcN cD;cases hb:bh n s q m with
    |none=>simp
    |some k=>
     have:=(yb8 (n:=n) (s:=s) (q:=q) n m).2 ⟨m,k,by omega,hb,.inl rfl⟩;simp[this]
   omega
 rw[b n,e,g n (dQ _)]
theorem yti(g:Nat->Nat):∀{m i:Nat},i<m->g i<=sumN g m
 |0,i,h=>by omega
 |m+1,i,h=>by
  unfold sumN;by_cases e:i=m
  ·subst e;omega
  ·have:=yti g (m:=m) (i:=i) (by omega);omega
noncomputable def ixN(n:Nat)(s:Nat->Nat)(q:Nat->Nat->Nat)(j:Nat):List Nat:=match bh n s q j with
 |some k=>[j,k]
 |none=>if(stU n s q n).testBit j=true then[]else[j]
theorem yi0{i j x:Nat}(e:i<=j)(h:(stU n s q i).testBit x=true):(stU n s q j).testBit x=true:=by
 obtain⟨a,k,g,b⟩:=(yb8 i x).1 h;exact(yb8 j x).2 ⟨a,k,by omega,b⟩
theorem J7:((List.range n).flatMap (ixN n s q)).Perm (List.range n):=by
 have i:∀{j k:Nat},bh n s q j=some k->j≠k/\ k<n/\ (stU n s q j).testBit j=false/\ (stU n s q j).testBit k=false:=fun{j k} h=>by
  obtain⟨p,l,w,I,_⟩:=yks (show fk n s q j (stU n s q j)=some k from h);exact⟨l,p,w,I⟩
 have o:∀{j x:Nat},j<n->x∈ixN n s q j->(∃k,bh n s q j=some k/\ (x=j \/x=k)) \/(bh n s q j=none/\ x=j/\ (stU n s q n).testBit j=false):=fun{j x} z g=>by
  unfold ixN at g;cases hb:bh n s q j with
  |some k=>
   rw[hb]at g;simp only[dY,kI,or_false]at g;exact .inl ⟨k,rfl,g⟩
  |none=>
   rw[hb]at g;simp only at g;split at g
   ·cases g
   ·rename_i K;exact .inr ⟨rfl,iR.1 g,by simpa using K⟩
 refine(List.perm_ext_iff_of_nodup ?_ List.nodup_range).2 fun x=>?_
 ·rw[List.Nodup,List.pairwise_flatMap];refine⟨fun j z=>?_,List.pairwise_lt_range.imp_of_mem fun{a b} A hb J x g y E e=>?_⟩
  ·unfold ixN;cases hb:bh n s q j with
   |some k=>simp[(i hb).1]
   |none=>simp only;split<;>simp
  ·subst e;have A:=jo.1 A;have hb:=jo.1 hb;have u:∀{j k:Nat},bh n s q j=some k->x=j \/x=k->(stU n s q (j+1)).testBit x=true:=fun{j k} h g=>(yb8 (j+1) x).2 ⟨j,k,by omega,h,g⟩;rcases o A g with⟨k,p,l⟩|⟨p,l,w⟩
   ·have F:=u p l;rcases o hb E with⟨k',v,g2⟩|⟨v,g2,D⟩
    ·have m:=yi0 (j:=b) (by omega) F;obtain⟨_,_,G,H⟩:=i v;rcases g2 with g2|g2
     ·rw[g2,G]at m;cases m
     ·rw[g2,H]at m;cases m
    ·have m:=yi0 (j:=n) (by omega) F;rw[g2,D]at m;cases m
   ·rcases o hb E with⟨k',v,g2⟩|⟨v,g2,D⟩
    ·have m:=yi0 (j:=n) (by omega) (u v g2);rw[l,w]at m;cases m
    ·omega
 ·rw[rF,jo];constructor
  ·rintro⟨j,z,g⟩;have z:=jo.1 z;rcases o z g with⟨k,p,l⟩|⟨_,l,_⟩
   ·have:=(i p).2.1;rcases l with rfl|rfl<;>omega
   ·omega
  ·intro g;by_cases hb:(stU n s q n).testBit x=true
   ·obtain⟨j,k,p,l,w⟩:=(yb8 n x).1 hb;refine⟨j,jo.2 p,?_⟩;unfold ixN;rw[l];simp only[dY,kI,or_false];exact w
   ·refine⟨x,jo.2 g,?_⟩;have:bh n s q x=none:=by
     cases C:bh n s q x with
     |none=>rfl
     |some k=>exact absurd ((yb8 n x).2 ⟨x,k,g,C,.inl rfl⟩) hb
    unfold ixN;rw[this];simp[hb]
theorem yt9{i:Nat}:(match gD ps n s q i with|some d=>d.bE|none=>[])=(ixN n s q i).map fun j=>ps.getD j []:=by
 unfold gD prD snD ixN;cases hb:bh n s q i with
 |some k=>rfl
 |none=>
  by_cases a:(stU n s q n).testBit i=true
  ·simp[a]
  ·simp[a]
theorem yub(G:bB->List (List Int)):∀l:List Nat,(l.filterMap (gD ps n s q)).flatMap G=l.flatMap fun i=>match gD ps n s q i with|some d=>G d|none=>[]
 |[]=>rfl
 |i::l=>by
  have a:=yub G l;rw[qy];cases h:gD ps n s q i with
  |none=>rw[rH h,a];rfl
  |some d=>rw[AA h,qy,a]
theorem yww(b:ps.length=n):(List.range n).map (fun j=>ps.getD j [])=ps:=by
 refine rJ fun i=>?_;rw[lu];rcases jC i n with h|h
 ·obtain⟨p,a⟩:=jak (l:=ps) (i:=i) (by omega);rw[pI h,a];simp only[gW,dD,a,rC]
 ·rw[lC (show(List.range n).length<=i by rw[mo];exact h),lC (show ps.length<=i by omega)];rfl
theorem yq3(b:ps.length=n):((dutL ps n s q).flatMap fun d=>d.bE).Perm ps:=by
 unfold dutL;refine((Pdq.isort_perm _).flatMap_right _).trans ?_;rw[yub fun d=>d.bE];have:(fun i=>match gD ps n s q i with|some d=>d.bE|none=>[])=fun i=>(ixN n s q i).map fun j=>ps.getD j []:=funext fun i=>yt9;rw[this];have a:((List.range n).flatMap fun i=>(ixN n s q i).map fun j=>ps.getD j [])=((List.range n).flatMap (ixN n s q)).map fun j=>ps.getD j []:=by rw[List.map_flatMap]
 rw[a];have:=J7 (n:=n) (s:=s) (q:=q)|>.map fun j=>ps.getD j [];rw[yww b]at this;exact this
theorem yw3(l:HdP n ps)(i:Nat)(d d':bB)(hi:(dutL ps n s q)[i]? =some d)(g:(dutL ps n s q)[i+1]? =some d'):ky d<ky d':=by
 have tr:∀a b c:bB,ltK b a=false->ltK c b=false->ltK c a=false:=fun a b c o p=>by
  unfold ltK at*
  simp only[decide_eq_false_iff_not]at*;omega
 have k:∀a b:bB,ltK a b=true->ltK b a=false:=fun a b h=>by
  unfold ltK at*
  simp only[decide_eq_false_iff_not,decide_eq_true_eq]at*;omega
 have o:(dutL ps n s q).Pairwise fun a b=>ltK b a=false:=Pdq.isort_sorted tr k _;have p:((List.range n).filterMap (gD ps n s q)).Pairwise fun a b=>ky a≠ky b:=by
  rw[List.pairwise_filterMap];refine List.pairwise_lt_range.imp_of_mem fun{a b} j hb v x w y z e=>?_;have j:=jo.1 j;have hb:=jo.1 hb;rw[(yq2 l j w).2,(yq2 l hb z).2]at e;have:=l.inj a b j hb e;omega
 have u:(dutL ps n s q).Pairwise fun a b=>ky a≠ky b:=((Pdq.isort_perm (lt:=ltK) ((List.range n).filterMap (gD ps n s q))).pairwise_iff (fun{a b} h e=>h e.symm)).2 p;have m:=pwG o (Am i) hi g;have A:=pwG u (Am i) hi g;unfold ltK at m;simp only[decide_eq_false_iff_not]at m;omega
end
section
variable{t:bA}{f:bL}{B:List (List Int)}{r:cB}{ps:List (List Int)}
theorem Eo{i:Nat}{d:bB}(h:gD ps ps.length (sF t f B r ps) (qF t f B r ps) i=some d):dc t f B r d.bE=cD ps.length (sF t f B r ps) (qF t f B r ps) i/\ (d.bE.length=1 \/d.bE.length=2)/\ ∃a b,d.bE=[ps.getD i []] \/(d.bE=[ps.getD a [],ps.getD b []]/\ b<ps.length/\ a=i/\ i≠b):=by
 unfold gD prD snD at h;unfold cD;cases hb:bh ps.length (sF t f B r ps) (qF t f B r ps) i with
 |some k=>
  rw[hb]at h;cases h;have:=(yks (show fk _ _ _ i _=some k from hb)).1;have e:=(yks (show fk _ _ _ i _=some k from hb)).2.1;exact⟨by show dc t f B r [ps.getD i [],ps.getD k []]=qF t f B r ps i k;unfold qF;rw[if_neg e],.inr rfl,i,k,.inr ⟨rfl,this,rfl,e⟩⟩
 |none=>
  rw[hb]at h;simp only[rA]at h ⊢;split at h
  ·cases h
  ·rename_i g;cases h;rw[if_neg g];exact⟨rfl,.inl rfl,0,0,.inl rfl⟩
theorem J4{i:Nat}(h:gD ps ps.length (sF t f B r ps) (qF t f B r ps) i=none):cD ps.length (sF t f B r ps) (qF t f B r ps) i=0:=by
 unfold gD prD snD at h;unfold cD;cases hb:bh ps.length (sF t f B r ps) (qF t f B r ps) i with
 |some k=>rw[hb]at h;cases h
 |none=>
  rw[hb]at h;simp only[rA]at h ⊢;split at h
  ·rename_i a;rw[if_pos a]
  ·cases h
theorem KA:((dutL ps ps.length (sF t f B r ps) (qF t f B r ps)).map fun d=>dc t f B r d.bE).sum=Wv ps.length (sF t f B r ps) (qF t f B r ps) 0 0:=by
 unfold dutL;rw[((Pdq.isort_perm _).map _).sum_nat,Em];have:∀m,m<=ps.length->(((List.range m).filterMap (gD ps ps.length (sF t f B r ps) (qF t f B r ps))).map fun d=>dc t f B r d.bE).sum=sumN (cD ps.length (sF t f B r ps) (qF t f B r ps)) m:=by
  intro m
  induction m with
  |zero=>intro _;rfl
  |succ m b=>
   intro e;rw[yf4,oD,List.sum_append,b (by omega),sumN];cases a:gD ps ps.length (sF t f B r ps) (qF t f B r ps) m with
   |none=>rw[J4 a];simp
   |some d=>simp[(Eo a).1]
 exact this _ (dQ _)
structure DutP(t:bA)(f:bL)(B:List (List Int))(r:cB)(d:bB):Prop where
 len:d.bE.length=1 \/d.bE.length=2
 big:∀p∈d.bE,p.length<=3000
 sm:d.bE.flatten.length<=srtN
 br:zq16 t f B r d=some 0
 isP:∀p∈d.bE,IsP B p
 tr:∀p∈d.bE,Trs t p
 gp:GapP t f r d.bE
 pd:zq47 t f r d=some (pdv t f r d.bE)
 cst:(dc t f B r d.bE:Int)=100000+pdv t f r d.bE
 rg:0<=pdv t f r d.bE/\ pdv t f r d.bE<=3600
theorem Ky(h:RuP t f B r)(l:∀p∈ps,p.length<=3000)(hs:SmP ps)(hW:Wv ps.length (sF t f B r ps) (qF t f B r ps) 0 0<BIG){d:bB}(hd:d∈dutL ps ps.length (sF t f B r ps) (qF t f B r ps)):DutP t f B r d:=by
 unfold dutL at hd;obtain⟨i,hi,A⟩:=qx.1 ((Pdq.isort_perm _).mem_iff.1 hd);have hi:=jo.1 hi;obtain⟨I,y,a,b,g⟩:=Eo A;have e:∀{j:Nat},j<ps.length->ps.getD j []∈ps:=fun{j} w=>by
  obtain⟨p,l⟩:=jak w;rw[dD,l];exact bT l
 have k:∀p∈d.bE,p.length<=3000:=fun p o=>by
  rcases g with g|⟨g,hb,rfl,_⟩
  ·rw[g]at o;rw[iR.1 o];exact l _ (e hi)
  ·rw[g]at o;simp only[dY,kI,or_false]at o;rcases o with rfl|rfl
   ·exact l _ (e hi)
   ·exact l _ (e hb)
 have u:d.bE.flatten.length<=srtN:=by
  have m:∀{j:Nat},j<ps.length->ps[j]? =some (ps.getD j []):=fun{j} w=>by
   obtain⟨p,l⟩:=jak w;rw[dD,l];rfl
  rcases g with g|⟨g,hb,rfl,v⟩
  ·rw[g];simpa using hs.1 _ (bT (m hi))
  ·rw[g];simpa using hs.2 _ _ _ _ v (m hi) (m hb)
 have x:dc t f B r d.bE<BIG:=by
  have:=yti (cD ps.length (sF t f B r ps) (qF t f B r ps)) hi;rw[<-Em]at this;omega
 obtain⟨_,_,g3,z,_⟩:=ydv (d:=d.bE) h.hb h.hA h.hP h.hB h.hR y k u;obtain⟨C,D,E,F,G,H,_⟩:=z x;exact⟨y,k,u,C,E.2.1,F,G,H,D,by rcases g3 with g3|g3<;>omega⟩
end
theorem yuo(a:List Int)(p:a.length<=9)(k:Int):Tot (iter (yhe a k) (((-1):Int),(0:Int))) fun v=>v= -1 \/∃j:Nat,v=(j:Int)/\ a[j]? =some k:=by
 refine .iter (fun q s=>s.2=((a.length-q:Nat):Int)/\ q<=a.length/\ (s.1= -1 \/∃j:Nat,s.1=(j:Int)/\ a[j]? =some k)) (n:=a.length) ⟨by simp,dQ _,.inl rfl⟩ ?_;rintro q ⟨v,u⟩ ⟨g,o,e⟩;simp only at g e;subst g;unfold yhe;refine .iteP (fun hc=>?_) (fun hc=>.dn e);obtain⟨b,hb⟩:=jak (l:=a) (i:=a.length-q) (by omega);refine .call (P:=fun v=>v= -1 \/∃j:Nat,v=(j:Int)/\ a[j]? =some k) (.eq (ixs hb) (.ite (fun m=>.ok (.inr ⟨_,rfl,by rw[hb];simpa using m⟩)) fun _=>.ok e)) fun w h=>.nx ⟨q-1,by omega,?_,by omega,h⟩;exact yw8 hc o (by omega)
theorem yun{t:bA}{f:bL}(h:AskF t f)(u:t.bn.length<=9){a:List Int}(hB:BeP t f a){i:Nat}(hi:i<a.length):Tot (iter (yhd t a) ((i:Int),([]:List Int))) fun b=>1<=b.length/\ b.length<=1801:=by
 refine .iter (fun q s=>s.2.length+q<=1801/\ ((s.1= -1/\ 1<=s.2.length) \/∃(k:Nat)(x:cZ),s.1=(k:Int)/\ t.bn[k]? =some x/\ 1800-x.d9<=(q:Int))) (n:=1801) ⟨by simp,.inr ?_⟩ ?_
 ·obtain⟨x,g⟩:=jak (l:=t.bn) (i:=i) (by rw[<-hB.1];exact hi);have:=(ydf h.1 g).2.1;exact⟨i,x,rfl,g,by omega⟩
 ·rintro q ⟨k,next⟩ ⟨v,e⟩;simp only at v e;unfold yhd;refine .iteP (fun hc=>?_) (fun hc=>.dn ?_)
  ·rcases e with⟨e,_⟩|⟨j,x,e,g,hs⟩
   ·omega
   ·subst e;have w:=(ydf h.1 g).2.1;refine .eq (ixs g) (.chk (by simp;omega) (.call (yuo a (by rw[hB.1];exact u) (j:Int)) fun A m=>.nx ⟨q-1,by omega,by simp;omega,?_⟩));rcases m with m|⟨j',m,hb⟩
    ·exact .inl ⟨m,by simp⟩
    ·right;rcases hB.2 j' _ hb with hb|⟨k',x',y,z,o,p,hF⟩
     ·omega
     ·have:k'=j:=by omega
      subst this;rw[g]at o;cases o;have:=yua h g p hF;exact⟨j',y,m,p,by omega⟩
  ·rcases e with⟨_,e⟩|⟨j,x,e,_,_⟩
   ·exact⟨e,by omega⟩
   ·omega
theorem yum{t:bA}{f:bL}(h:AskF t f)(o:t.bn.length<=9){a:List Int}(hB:BeP t f a):Tot (zq63 t a) fun B=>B.length<=9/\ ∀b∈B,1<=b.length/\ b.length<=1801:=by
 have p:=hB.1;unfold zq63;refine .call (P:=fun B=>B.length<=9/\ ∀b∈B,1<=b.length/\ b.length<=1801) ?_ fun B hB=>.ok hB;refine .iter (fun q s=>s.1=((a.length-q:Nat):Int)/\ q<=a.length/\ s.2.length+q<=9/\ ∀b∈s.2,1<=b.length/\ b.length<=1801) (n:=a.length) ⟨by simp,dQ _,by simp;omega,by simp⟩ ?_;rintro q ⟨v,B⟩ ⟨m,y,w,hb⟩;simp only at m w hb;subst m;unfold ylh;refine .iteP (fun hc=>?_) (fun hc=>.dn ⟨by omega,hb⟩);obtain⟨e,u⟩:=jak (l:=a) (i:=a.length-q) (by omega);refine .call (P:=fun g=>g.length+(q-1)<=9/\ ∀b∈g,1<=b.length/\ b.length<=1801) (.eq (ixs u) (.iteP (fun _=>.ok ⟨by omega,hb⟩) fun _=>.call (yun h o hB (by omega)) fun b k=>.chk (by simp;omega) (.ok ⟨by simp;omega,fun x hx=>?_⟩))) fun g j=>.nx ⟨q-1,by omega,?_,by omega,j⟩
 ·rcases fA.1 hx with hx|hx
  ·exact hb x hx
  ·rw[iR.1 hx];exact k
 ·show w64 (((a.length-q:Nat):Int)+1)=_;rw[jaj (by omega)];omega
theorem yf5{k:Nat}{c:bM}(h:Cur k c)(D:k<=10000000):Tot (zq97 c) fun r=>Cur (k+4000000) r.2.2.2.2/\ DT r.1/\ FB r.2.1/\ BB r.2.2.1:=by
 unfold zq97;refine .call (Tot.pc (ywh h (by omega)) (ywg h (by omega))) fun r ⟨⟨hc,hd⟩,w⟩=>?_;refine .call (P:=fun o=>Cur (k+4000) ⟨o.1,o.2.1,⟨o.2.2.1⟩⟩/\ o.2.2.2.length<=30) ?_ ?_
 ·refine .call (P:=fun o=>Cur (k+3900) ⟨o.2.1,o.2.2.1,⟨o.2.2.2⟩⟩/\ (o.1=true->6<r.1.bn.length)) (.iteP (fun A=>.call (ytg 10 hc (by omega)) fun y a=>.ok ⟨a.mono (by omega),fun _=>by omega⟩) fun _=>.ok ⟨hc.mono (by omega),nofun⟩) fun⟨J,K,M,N⟩ ⟨i,l⟩=>?_;refine .ite (fun C=>.chk (by have:=l C;omega) (.ok ⟨i.mono (by omega),?_⟩)) fun _=>.ok ⟨i.mono (by omega),hd.2⟩;simp only[gY,eF];have:=hd.2;omega
 ·rintro⟨v,H,I,g⟩ ⟨i,l⟩;simp only at i l;have e:DT ⟨r.1.bC,g⟩:=⟨hd.1,l⟩;refine .call (yw0 i (by omega) ⟨w,hd.1.1⟩) fun y ⟨a,u⟩=>?_;refine .call (yq5 a (by omega)) fun E j=>.eq (yf3 (t:=⟨r.1.bC,g⟩) e.tb u) ?_;refine .call (P:=fun b=>b=false->AskF ⟨r.1.bC,g⟩ y.1/\ g.length<=9) (.iteN (fun _=>.ok nofun) fun hA=>.ok fun h=>⟨hA,by have:(g.length:Int)<=9:=(by simpa using h);omega⟩) fun b hb=>.ite (fun _=>.ok ⟨j.mono (by omega),e,u,by simp,by simp⟩) fun p=>?_;obtain⟨hA,x⟩:=hb p;refine .call (yut (t:=⟨r.1.bC,g⟩) hA x) fun F z=>.call (yum (t:=⟨r.1.bC,g⟩) hA x z) fun G ⟨A,m⟩=>?_;exact .ok ⟨j.mono (by omega),e,u,by dsimp only;omega,fun b hb=>by have:=m b hb;omega⟩
section
variable{t:bA}{f:bL}{B:List (List Int)}{r:cB}
theorem yth:∀{l:List bB},(∀d∈l,DutP t f B r d)->(((l.map fun d=>dc t f B r d.bE).sum:Nat):Int)=100000*(l.length:Int)+(l.map fun d=>pdv t f r d.bE).sum/\ 0<=(l.map fun d=>pdv t f r d.bE).sum/\ (l.map fun d=>pdv t f r d.bE).sum<=3600*(l.length:Int)
 |[],_=>by simp
 |d::l,h=>by
  obtain⟨e,g,i⟩:=yth (l:=l) fun d hd=>h d (dZ _ hd);have hd:=h d (dU ..);have a:=hd.cst;have b:=hd.rg;simp only[dX,Aq,gZ];omega
theorem yi9(l:List bB):fls l=(l.flatMap fun d=>d.bE).flatten:=by
 unfold fls
 induction l with
 |nil=>rfl
 |cons d l a=>rw[qy,qy,nJ,a]
theorem LV(h:RuP t f B r){p:List Int}(g:IsP B p):p.Nodup:=by
 obtain⟨_,i,k,b,hb,j,e⟩:=g;have:=ycp h.hP.2.1;rw[List.Nodup,D5]at this;have a:b.Nodup:=this.1 b (bT hb);rw[<-e];exact(a.sublist (List.take_sublist _ _)).sublist (List.drop_sublist _ _)
theorem yue(h:RuP t f B r){a w:Nat}(hT:t.bn.length<=8)(b:bst t f B r (2^t.bn.length)=some (a,w)){L:List bB}(hL:L=dutL (PC t B a) (PC t B a).length (sF t f B r (PC t B a)) (qF t f B r (PC t B a))):
  CovP t f B r L/\ (∀d∈L,DutP t f B r d)/\ L.length<=8/\ (w:Int)=100000*(L.length:Int)+(L.map fun d=>pdv t f r d.bE).sum/\ ((L.flatMap fun d=>d.bE).length=(PC t B a).length):=by
 obtain⟨u,v,k,l,_⟩:=ybz b;have p:=yf0 h (c:=a);have hD:∀d∈L,DutP t f B r d:=fun d hd=>Ky h (yda h) (ykd h hT) (by rw[k]at l;exact l) (by rw[hL]at hd;exact hd);have j:(L.flatMap fun d=>d.bE).Perm (PC t B a):=by rw[hL];exact yq3 rfl
 have e:(fls L).Perm B.flatten:=by
  rw[yi9,<-yf1 h (c:=a)];exact j.flatten
 have g:L.length<=8:=by
  rw[hL];unfold dutL;rw[Pdq.isort_len];have:=ygx (gD (PC t B a) (PC t B a).length (sF t f B r (PC t B a)) (qF t f B r (PC t B a))) (PC t B a).length;omega
 refine⟨⟨fun d hd=>(hD d hd).br,fun i d d' m o=>?_,e.nodup_iff.2 (ycp h.hP.2.1),by rw[e.length_eq];exact h.hP.2.2⟩,hD,g,?_,j.length_eq⟩
 ·rw[hL]at m o;exact yw3 (AX h) i d d' m o
 ·have:=(yth hD).1;rw[<-this,hL,KA,k];rfl
end
theorem yuh(F:Nat->Bool):∀n,∃c,c<2^n/\ ∀j,j<n->c.testBit j=F j
 |0=>⟨0,by simp,fun j h=>by omega⟩
 |n+1=>by
  obtain⟨c,a,b⟩:=yuh F n;cases hF:F n with
  |false=>
   refine⟨c,by rw[Nat.pow_succ];omega,fun j g=>?_⟩;by_cases e:j=n
   ·subst e;rw[hF,JY a]
   ·exact b j (by omega)
  |true=>
   refine⟨2^n+c,by rw[Nat.pow_succ];omega,fun j g=>?_⟩;by_cases e:j=n
   ·subst e;rw[hF,Nat.testBit_two_pow_add_eq,JY a];rfl
   ·rw[Nat.testBit_two_pow_add_gt (by omega)];exact b j (by omega)
theorem yp1(g:Int->Bool):∀(p0:List Int)(e:Int)(a y:List Int),(∀x∈p0,g x=false)->(y=[] \/g e=true)->cutB g a (p0++e::y)=(a++p0++[e])::cutB g [] y
 |[],e,a,y,_,h=>by
  rw[jD,cutB,if_pos h];simp
 |x::p0,e,a,y,b,h=>by
  have i:=b x (dU ..);rw[lD,cutB,if_neg (fun hh=>by rcases hh with hh|hh;exact absurd hh (by simp);rw[i]at hh;cases hh),yp1 g p0 e (a++[x]) y (fun z j=>b z (dZ _ j)) h];simp
theorem yje(g:Int->Bool):∀(j:List Int)(e:Int)(b z p:List Int),g e=true->p∈cutB g [] z->p∈cutB g b (j++e::z)
 |[],e,b,z,p,h,i=>by
  rw[jD,cutB,if_pos (.inr h)];exact dZ _ i
 |a::j,e,b,z,p,h,i=>by
  rw[lD,cutB];split
  ·exact dZ _ (yje g j e [] z p h i)
  ·exact yje g j e (b++[a]) z p h i
theorem Ep{α:Type}:∀{l m:List α},l.Nodup->(∀x∈l,x∈m)->l.length<=m.length
 |[],_,_,_=>o9 _
 |a::l,m,g,hs=>by
  obtain⟨i,j,rfl⟩:=AL (hs a (dU ..));have b:=jW.1 g;have h:=Ep (l:=l) (m:=i++j) b.2 fun x e=>by
   have h1:=hs x (dZ _ e);simp only[fA,dY]at h1 ⊢;rcases h1 with h1|h1|h1
   ·exact .inl h1
   ·rw[h1]at e;exact absurd e b.1
   ·exact .inr h1
  simp only[gu,gZ]at h ⊢;omega
theorem yng{α:Type}:∀{l m:List α},l.Nodup->(∀x∈l,x∈m)->m.length<=l.length->l.Perm m
 |[],m,_,_,h=>by
  have:m=[]:=kK.1 (by simpa using h);rw[this]
 |a::l,m,g,hs,h=>by
  obtain⟨j,k,rfl⟩:=AL (hs a (dU ..));have b:=jW.1 g;have i:=yng (l:=l) (m:=j++k) b.2 (fun x e=>by
   have h1:=hs x (dZ _ e);simp only[fA,dY]at h1 ⊢;rcases h1 with h1|h1|h1
   ·exact .inl h1
   ·rw[h1]at e;exact absurd e b.1
   ·exact .inr h1) (by simp only[gu,gZ]at h ⊢;omega)
  exact(List.Perm.cons a i).trans List.perm_middle.symm
theorem ye8:∀{L:List (List Int)},(∀p∈L,p≠[])->L.flatten.Nodup->L.Nodup
 |[],_,_=>List.nodup_nil
 |p::L,g,a=>by
  rw[vU,kJ]at a;refine jW.2 ⟨fun h=>?_,ye8 (fun q i=>g q (dZ _ i)) a.2.1⟩;obtain⟨e,b⟩:=List.exists_mem_of_ne_nil p (g p (dU ..));exact a.2.2 e b e (mh.2 ⟨p,h,b⟩) rfl
def Qs(L:List bB):List (List Int):=L.flatMap fun d=>d.bE
section
variable{t:bA}{f:bL}{B:List (List Int)}{r:cB}{L:List bB}
structure iE(t:bA)(f:bL)(B:List (List Int))(r:cB)(L:List bB):Prop where
 h:RuP t f B r
 hT:t.bn.length<=8
 hc:CovP t f B r L
 hD:∀d∈L,(d.bE.length=1 \/d.bE.length=2)/\ ∀p∈d.bE,IsP B p
theorem iE.isP(H:iE t f B r L){p:List Int}(b:p∈Qs L):IsP B p:=by
 obtain⟨d,hd,a⟩:=rF.1 b;exact(H.hD d hd).2 p a
theorem iE.yj(H:iE t f B r L):(Qs L).flatten.Nodup:=by
 have:=H.hc.nd;rw[yi9]at this;exact this
theorem ydd{p:List Int}(m:IsP B p):∃b x p0 e y,b∈B/\ p=p0++[e]/\ b=x++(p0++e::y):=by
 obtain⟨a,i,k,b,hb,o,h⟩:=m;obtain⟨p0,e,rfl⟩:∃p0 e,p=p0++[e]:=⟨p.dropLast,p.getLast a,(Ec a).symm⟩;refine⟨b,b.take k,p0,e,b.drop (k+(p0++[e]).length),bT hb,rfl,?_⟩;have g:b=b.take (k+(p0++[e]).length)++b.drop (k+(p0++[e]).length):=(l9 _ _).symm;have l:b.take (k+(p0++[e]).length)=b.take k++(p0++[e]):=by
  have j:=(l9 k (b.take (k+(p0++[e]).length))).symm;rw[h,List.take_take,tV (by omega)]at j;exact j
 rw[l]at g;rw[eU,eU,tY]at g;exact g
theorem iE.perm(H:iE t f B r L):(Qs L).flatten.Perm B.flatten:=by
 refine yng H.yj (fun x i=>?_) ?_
 ·obtain⟨p,g,a⟩:=mh.1 i;obtain⟨b,j,p0,e,y,hb,rfl,rfl⟩:=ydd (H.isP g);refine mh.2 ⟨_,hb,?_⟩;simp only[fA,dY,kI,or_false]at a ⊢;rcases a with h1|h1
  ·exact .inr (.inl h1)
  ·exact .inr (.inr (.inl h1))
 ·rw[H.h.hP.2.2,<-H.hc.len,yi9];exact dQ _
theorem iE.F3(H:iE t f B r L){b:List Int}{x:Int}(hb:b∈B)(a:x∈b):∃p∈Qs L,x∈p:=by
 have:=H.perm.mem_iff.2 (mh.2 ⟨b,hb,a⟩);exact mh.1 this
def pK(L:List bB)(B:List (List Int))(e:Int):Bool:=((Qs L).any fun p=>p.getD (p.length-1) 0==e)&& !(B.any fun b=>b.getD (b.length-1) 0==e)
theorem ydb{α:Type}(p0:List α)(e z:α):(p0++[e]).getD ((p0++[e]).length-1) z=e:=by
 have h:(p0++[e])[(p0++[e]).length-1]? =some e:=by simp
 rw[dD,h];rfl
theorem K7(h:RuP t f B r){e:Int}(o:e∈B.flatten):∃x,t.bn[(tix t e).toNat]? =some x/\ x.Id=e/\ (tix t e).toNat<t.bn.length:=by
 obtain⟨b,hb,a⟩:=mh.1 o;have h0:=(h.hP.1 b hb).2.1 e a;obtain⟨k,x,i,g,j,_⟩:=wZ (p:=fun x:cZ=>x.Id==e) (l:=t.bn) (by unfold tix at h0;omega);have m:tix t e=(k:Int):=i;rw[m,gI];exact⟨x,g,by simpa using j,fK g⟩
theorem iE.cut(H:iE t f B r L):∃c,c<2^t.bn.length/\ ∀e∈B.flatten,cb t c e=pK L B e:=by
 obtain⟨c,i,k⟩:=yuh (fun j=>match t.bn[j]? with|some x=>pK L B x.Id|none=>false) t.bn.length;refine⟨c,i,fun e l=>?_⟩;obtain⟨x,a,b,g⟩:=K7 H.h l;unfold cb;rw[k _ g,a,<-b]
theorem iE.same(H:iE t f B r L){p g:List Int}{x:Int}(h:p∈Qs L)(k:x∈p)(b:g∈Qs L)(e:x∈g):p=g:=by
 obtain⟨i,hi⟩:=jJ h;obtain⟨j,a⟩:=jJ b;have:=yfa H.yj hi k a e;subst this;rw[hi]at a;exact gT a
theorem iE.bnd(H:iE t f B r L){b:List Int}(hb:b∈B):b.Nodup:=by
 have a:=ycp H.h.hP.2.1;rw[List.Nodup,D5]at a;exact a.1 b hb
theorem iE.JO(H:iE t f B r L){b a:List Int}{x:Int}(hb:b∈B)(l:x∈b)(e:a∈B)(k:x∈a):b=a:=by
 obtain⟨i,hi⟩:=jJ hb;obtain⟨j,g⟩:=jJ e;have:=yfa (ycp H.h.hP.2.1) hi l g k;subst this;rw[hi]at g;exact gT g
theorem LY{α:Type}{x p:List α}{a:α}{y:List α}(h:(x++(p++a::y)).Nodup):a∉p/\ a∉x/\ a∉y/\ ∀z∈p,z∉x/\ z∉y/\ z≠a:=by
 rw[kJ,kJ]at h;obtain⟨l,⟨m,k,g⟩,j⟩:=h;have e:=jW.1 k;refine⟨fun b=>g a b a (dU ..) rfl,fun b=>j a b a (by simp) rfl,e.1,fun z i=>⟨fun b=>j z b z (by simp[i]) rfl,fun b=>g z i z (dZ _ b) rfl,fun b=>g z i a (dU ..) b⟩⟩
theorem iE.inner(H:iE t f B r L){p0:List Int}{e:Int}(k:p0++[e]∈Qs L){z:Int}(m:z∈p0):pK L B z=false:=by
 have a:=LV H.h (H.isP k);have g:z≠e:=fun o=>by
  rw[kJ]at a;exact a.2.2 z m e (by simp) o
 unfold pK;rw[Bool.and_eq_false_iff];left;rw[List.any_eq_false];intro p b;simp only[beq_iff_eq];intro j;obtain⟨_,_,u,e',_,_,rfl,_⟩:=ydd (H.isP b);rw[ydb]at j;subst j;have:=H.same b (x:=e') (by simp) k (by simp[m]);have i:=congrArg (fun l:List Int=>l.getD (l.length-1) 0) this;simp only[ydb]at i;exact g i
theorem ynh{α:Type}{x p0:List α}{e:α}{y:List α}{z:α}:(x++(p0++e::y)).getD ((x++(p0++e::y)).length-1) z=(e::y).getD ((e::y).length-1) z:=by
 have a:(x++(p0++e::y)).length-1=(x++p0).length+((e::y).length-1):=by simp;omega
 rw[a,<-eU,dD,dD,kg (by omega)];congr 2;omega
theorem iE.F9(H:iE t f B r L){b x p0:List Int}{e:Int}{y:List Int}(hb:b∈B)(g:b=x++(p0++e::y))(A:p0++[e]∈Qs L)(w:y≠[]):pK L B e=true:=by
 unfold pK;rw[fP];refine⟨uo.2 ⟨_,A,by rw[ydb];simp⟩,?_⟩;rw[mO,List.any_eq_false];intro j k;simp only[beq_iff_eq];intro i;have l:=H.bnd hb;have p:e∈b:=by rw[g];simp
 have a:j≠[]:=(H.h.hP.1 j k).1;have m:e∈j:=by
  have u:j.length-1<j.length:=by have:=Aw.2 a;omega
  obtain⟨q,v⟩:=jak u;rw[dD,v]at i;have i:q=e:=i;rw[<-i];exact bT v
 have:=H.JO hb p k m;subst this;rw[g,ynh]at i;obtain⟨o,z,rfl⟩:∃o z,y=o++[z]:=⟨y.dropLast,y.getLast w,(Ec w).symm⟩;rw[show e::(o++[z])=(e::o)++[z] from rfl,ydb]at i;rw[g]at l;exact(LY l).2.2.1 (by rw[<-i];simp)
theorem iE.prev(H:iE t f B r L){b M:List Int}{a:Int}{p0:List Int}{e:Int}{y:List Int}(hb:b∈B)(i:b=(M++[a])++(p0++e::y))(O:p0++[e]∈Qs L):pK L B a=true:=by
 have E:a∈b:=by rw[i];simp
 obtain⟨Z,k,o⟩:=H.F3 hb E;obtain⟨U,x',T,e',C,I,rfl,g⟩:=ydd (H.isP k);have F:a∈U:=by
  rw[g];simp only[fA,dY,kI,or_false]at o ⊢;rcases o with h1|h1
  ·exact .inr (.inl h1)
  ·exact .inr (.inr (.inl h1))
 have:=H.JO hb E I F;subst this;have j:=H.bnd hb;by_cases G:a=e'
 ·subst G;refine H.F9 I g k fun X=>?_;subst X;have h1:=ynh (x:=x') (p0:=T) (e:=a) (y:=[]) (z:=(0:Int));rw[<-g,i]at h1;have N:=ynh (x:=M++[a]) (p0:=p0) (e:=e) (y:=y) (z:=(0:Int));rw[N]at h1;have J:a∈e::y:=by
   have l:(e::y).getD ((e::y).length-1) 0=a:=h1;have Q:(e::y).length-1<(e::y).length:=by simp
   obtain⟨q,S⟩:=jak Q;rw[dD,S]at l;have l:q=a:=l;rw[<-l];exact bT S
  rw[i,eU,kJ]at j;have D:=j.2.1;rw[tY,jW]at D;exact D.1 (by simp only[fA];exact .inr J)
 ·
  exfalso;have P:a∈T:=by
   simp only[fA,dY,kI,or_false]at o;exact o.resolve_right G
  obtain⟨q1,m,rfl⟩:=AL P;have V:(M++[a])++(p0++e::y)=x'++((q1++a::m)++e'::C):=by rw[<-i,g]
  have W:M++a::(p0++e::y)=(x'++q1)++a::(m++e'::C):=by
   have:=V;simp only[eU,tY,lD,jD]at this ⊢;exact this
  have K:a∉M/\ a∉x'++q1:=by
   have v:=j;rw[i,eU,tY,kJ]at v;have A:=j;rw[g,show x'++((q1++a::m)++e'::C)=(x'++q1)++a::(m++e'::C)by simp,kJ]at A;exact⟨fun l=>v.2.2 a l a (dU ..) rfl,fun l=>A.2.2 a l a (dU ..) rfl⟩
  have p:p0++e::y=m++e'::C:=NG K.1 K.2 W;have R:p0++[e]=(q1++a::m)++[e']:=by
   cases p0 with
   |nil=>
    cases m with
    |nil=>
     simp only[jD,ig]at p;exact H.same O (x:=e) (by simp) k (by rw[p.1];simp)
    |cons z m=>
     simp only[jD,lD,ig]at p;exact H.same O (x:=e) (by simp) k (by rw[p.1];simp)
   |cons w p0=>
    cases m with
    |nil=>
     simp only[jD,lD,ig]at p;exact H.same O (x:=w) (by simp) k (by rw[p.1];simp)
    |cons z m=>
     simp only[lD,ig]at p;exact H.same O (x:=w) (by simp) k (by rw[p.1];simp)
  have u:a∈p0++[e]:=by rw[R];simp
  rw[i,eU,kJ]at j;have D:=j.2.1;rw[tY,jW]at D;refine D.1 ?_;simp only[fA,dY,kI,or_false]at u ⊢;rcases u with h1|h1
  ·exact .inl h1
  ·exact .inr (.inl h1)
 where
 NG {x x' y C:List Int} {a:Int} (h1:a∉x) (N:a∉x') (h:x++a::y=x'++a::C):y=C:=by
  induction x generalizing x' with
  |nil=>
   cases x' with
   |nil=>simpa using h
   |cons z x'=>simp only[jD,lD,ig]at h;exact absurd (by rw[h.1];simp) N
  |cons w x Y=>
   cases x' with
   |nil=>simp only[jD,lD,ig]at h;exact absurd (by rw[<-h.1];simp) h1
   |cons z x'=>
    simp only[lD,ig]at h;exact Y (fun l=>h1 (dZ _ l)) (fun l=>N (dZ _ l)) h.2
theorem iE.pieces(H:iE t f B r L):∃c,c<2^t.bn.length/\ ydz t B c/\ (Qs L).Perm (PC t B c):=by
 obtain⟨c,D,o⟩:=H.cut;have u:∀p∈Qs L,p∈PC t B c:=fun p k=>by
  obtain⟨b,x,p0,e,y,hb,rfl,g⟩:=ydd (H.isP k);have E:∀z∈b,cb t c z=pK L B z:=fun z w=>o z (mh.2 ⟨b,hb,w⟩);have N:p0++[e]∈cutB (cb t c) [] (p0++e::y):=by
   rw[yp1 (cb t c) p0 e [] y (fun z w=>by rw[E z (by rw[g];simp[w])];exact H.inner k w) ?_]
   ·exact dU ..
   ·by_cases P:y=[]
    ·exact .inl P
    ·exact .inr (by rw[E e (by rw[g];simp)];exact H.F9 hb g k P)
  refine rF.2 ⟨b,hb,?_⟩;by_cases l:x=[]
  ·subst l;rw[g,jD];exact N
  ·obtain⟨M,a,rfl⟩:∃M a,x=M++[a]:=⟨x.dropLast,x.getLast l,(Ec l).symm⟩;have Q:=H.prev hb g k;have:=yje (cb t c) M a [] _ _ (by rw[E a (by rw[g];simp)];exact Q) N;rw[g,eU,tY];exact this
 have C:(Qs L).Nodup:=ye8 (fun p k=>(H.isP k).1) H.yj;have A:(PC t B c).Nodup:=ye8 (fun p k=>(yke H.h k).1) (AY H.h);refine⟨c,D,fun b hb=>?_,yng C u (Ep A fun p k=>?_)⟩
 ·have m:=(H.h.hP.1 b hb).1;have R:b.getD (b.length-1) 0∈b:=by
   have G:b.length-1<b.length:=by have:=Aw.2 m;omega
   obtain⟨q,O⟩:=jak G;rw[dD,O];exact bT O
  rw[o _ (mh.2 ⟨b,hb,R⟩)];unfold pK;rw[Bool.and_eq_false_iff];right;rw[Bool.not_eq_false'];exact uo.2 ⟨b,hb,by simp⟩
 ·obtain⟨x,l⟩:=List.exists_mem_of_ne_nil p (yke H.h k).1;have J:x∈B.flatten:=by rw[<-yf1 H.h (c:=c)];exact mh.2 ⟨p,k,l⟩
  obtain⟨b,hb,K⟩:=mh.1 J;obtain⟨S,v,I⟩:=H.F3 hb K;obtain⟨i,hi⟩:=jJ k;obtain⟨j,F⟩:=jJ (u S v);have:=yfa (AY H.h) hi l F I;subst this;rw[hi]at F;rw[gT F];exact v
end
theorem ypj:∀n,Ct.sgl (fun _=>1) (fun _=>false) n=n
 |0=>rfl
 |n+1=>by
  have a:=ypj n;unfold Ct.sgl;rw[a];simp
theorem yw9{s:Nat->Nat}{M:Nat}{P:Nat->Bool}:∀{n:Nat},(∀j,j<n->P j=false->s j<=M)->Ct.sgl s P n<=M*Ct.sgl (fun _=>1) P n
 |0,_=>o9 _
 |n+1,h=>by
  have b:=yw9 (s:=s) (M:=M) (P:=P) (n:=n) fun j e=>h j (by omega);have a:=h n (by omega);unfold Ct.sgl;cases hP:P n with
  |true=>simpa[hP]using b
  |false=>
   have:=a hP;simp only[bW,if_false];rw[Nat.mul_add,oz];omega
theorem ytj{n:Nat}:∀{l:List Nat},l.Nodup->(∀x∈l,x<n)->Ct.sgl (fun _=>1) (fun j=>l.contains j) n+l.length=n
 |[],_,_=>ypj n
 |a::l,o,g=>by
  have b:=jW.1 o;have u:=ytj (n:=n) b.2 fun x p=>g x (dZ _ p);have e:(fun j=>(a::l).contains j)=Ct.add1 (fun j=>l.contains j) a:=by
   funext j;unfold Ct.add1;rw[List.contains_cons,Bool.or_comm]
  have h:=Ct.sgl_add1 (s:=fun _=>1) (P:=fun j=>l.contains j) (i:=a) (by simpa using b.1) (m:=n);have k:=g a (dU ..);rw[if_pos k]at h;rw[e,gZ];omega
theorem K5{α:Type}{l:List α}(k:l.Nodup){i j:Nat}{a:α}(hi:l[i]? =some a)(m:l[j]? =some a):i=j:=by
 obtain⟨g,b⟩:=cK.1 hi;obtain⟨h,e⟩:=cK.1 m;rcases Al i j with q|q|q
 ·exact absurd (b.trans e.symm) (Au.1 k i j g h q)
 ·exact q
 ·exact absurd (e.trans b.symm) (Au.1 k j i h g q)
noncomputable def iZ(ps:List (List Int))(p:List Int):Nat:=Classical.epsilon fun i=>ps[i]? =some p
theorem yc4{ps:List (List Int)}{p:List Int}(h:p∈ps):ps[iZ ps p]? =some p:=Classical.epsilon_spec (p:=fun i=>ps[i]? =some p) (jJ h)
noncomputable def gy(ps:List (List Int)):List bB->List (Nat×Nat)
 |[]=>[]
 |d::L=>match d.bE with
  |[p,a]=>(iZ ps p,iZ ps a)::gy ps L
  |_=>gy ps L
theorem yj6{d:bB}(h:d.bE.length=1 \/d.bE.length=2):(∃p,d.bE=[p]) \/∃p a,d.bE=[p,a]:=by
 rcases h with h|h
 ·left;match hd:d.bE,h with
  |[p],_=>exact⟨p,rfl⟩
 ·right;match hd:d.bE,h with
  |[p,a],_=>exact⟨p,a,rfl⟩
theorem yuc(ps:List (List Int)):∀{L:List bB},(∀d∈L,d.bE.length=1 \/d.bE.length=2)->(Ct.flt (gy ps L)).Sublist ((Qs L).map (iZ ps))/\ L.length+(gy ps L).length=(Qs L).length/\ (Ct.flt (gy ps L)).length=2*(gy ps L).length
 |[],_=>⟨by simp[gy,Ct.flt,Qs],rfl,rfl⟩
 |d::L,h=>by
  obtain⟨g,l,j⟩:=yuc ps (L:=L) fun d hd=>h d (dZ _ hd);have k:Qs (d::L)=d.bE++Qs L:=by unfold Qs;rw[qy]
  rw[k];rcases yj6 (h d (dU ..))with⟨p,e⟩|⟨p,b,e⟩
  ·have a:gy ps (d::L)=gy ps L:=by rw[gy,e]
   rw[a,e];refine⟨?_,by simp;omega,j⟩;rw[oD];exact g.cons _
  ·have a:gy ps (d::L)=(iZ ps p,iZ ps b)::gy ps L:=by rw[gy,e]
   have i:Ct.flt ((iZ ps p,iZ ps b)::gy ps L)=iZ ps p::iZ ps b::Ct.flt (gy ps L):=rfl;rw[a,i,e];refine⟨?_,by simp;omega,by simp;omega⟩;rw[oD];exact(g.cons_cons _).cons_cons _
theorem yi5(ps:List (List Int)):∀{L:List bB}{x:Nat×Nat},x∈gy ps L->∃d∈L,∃p g,d.bE=[p,g]/\ x=(iZ ps p,iZ ps g)
 |[],x,b=>by cases b
 |d::L,x,b=>by
  unfold gy at b;split at b
  ·rename_i p g e;rcases dY.1 b with h1|h1
   ·exact⟨d,dU ..,p,g,e,h1⟩
   ·obtain⟨d',a,h⟩:=yi5 ps h1;exact⟨d',dZ _ a,h⟩
  ·obtain⟨d',a,h⟩:=yi5 ps b;exact⟨d',dZ _ a,h⟩
theorem ytw(ps:List (List Int)):∀{L:List bB}{d:bB}{p b:List Int},d∈L->d.bE=[p,b]->iZ ps p∈Ct.flt (gy ps L)/\ iZ ps b∈Ct.flt (gy ps L)
 |[],d,p,b,hd,_=>by cases hd
 |d0::L,d,p,b,hd,e=>by
  have a:∀x,x∈Ct.flt (gy ps L)->x∈Ct.flt (gy ps (d0::L)):=fun x g=>by
   rw[gy];split
   ·show x∈_::_::Ct.flt (gy ps L);exact dZ _ (dZ _ g)
   ·exact g
  rcases dY.1 hd with h1|h1
  ·subst h1;have h:gy ps (d::L)=(iZ ps p,iZ ps b)::gy ps L:=by rw[gy,e]
   rw[h];show iZ ps p∈iZ ps p::iZ ps b::Ct.flt (gy ps L)/\ iZ ps b∈iZ ps p::iZ ps b::Ct.flt (gy ps L);simp
  ·obtain⟨i,j⟩:=ytw ps h1 e;exact⟨a _ i,a _ j⟩
theorem Ei{q:Nat->Nat->Nat}{M:Nat}:∀{m:List (Nat×Nat)},(∀x∈m,q x.1 x.2<=M)->Ct.qs q m<=M*m.length
 |[],_=>o9 _
 |x::m,h=>by
  have e:=Ei (q:=q) (M:=M) (m:=m) fun y a=>h y (dZ _ a);have b:=h x (dU ..);show q x.1 x.2+Ct.qs q m<=_;rw[gZ,Nat.mul_add,oz];omega
section
variable{t:bA}{f:bL}{B:List (List Int)}{r:cB}{L:List bB}
theorem iE.sub(H:iE t f B r L){d:bB}(hd:d∈L):d.bE.Sublist (Qs L):=by
 obtain⟨a,b,rfl⟩:=AL hd;unfold Qs;rw[Az,qy];exact(List.sublist_append_left _ _).trans (List.sublist_append_right _ _)
theorem iE.JM(H:iE t f B r L){d:bB}(hd:d∈L):dc t f B r d.bE<=103600:=by
 have b:=H.hD d hd;have a:d.bE.flatten.length<=srtN:=by
  have l:d.bE.flatten.length<=(Qs L).flatten.length:=by
   obtain⟨j,k,e⟩:=AL hd;rw[e];unfold Qs;rw[Az,qy,nJ,nJ,gu,gu];omega
  have m:=H.perm.length_eq;have o:=H.h.hP.2.2;have u:=El;have v:=H.hT;omega
 obtain⟨_,_,g3,_,g⟩:=ydv (d:=d.bE) H.h.hb H.h.hA H.h.hP H.h.hB H.h.hR b.1 (fun p i=>by have:=yt5 H.h (b.2 p i);omega) a;rcases g3 with g3|g3
 ·exact absurd (H.hc.br d hd) (g g3)
 ·exact g3.2
theorem iE.cost(H:iE t f B r L):∃c,c<2^t.bn.length/\ ydz t B c/\ Vc t f B r c<=103600*L.length/\ L.length<=8:=by
 obtain⟨c,V,W,g⟩:=H.pieces;refine⟨c,V,W,?_⟩;have aa:=yf0 H.h (c:=c);have hT:=H.hT;unfold Vc;generalize ab:PC t B c=ps at*
 have m:∀d∈L,d.bE.length=1 \/d.bE.length=2:=fun d hd=>(H.hD d hd).1;obtain⟨s1,s2,s3⟩:=yuc ps m;have X:=g.length_eq;have w:(Qs L).Nodup:=ye8 (fun p i=>(H.isP i).1) H.yj;have k:∀p∈Qs L,p∈ps:=fun p i=>g.mem_iff.1 i;have R:((Qs L).map (iZ ps)).Nodup:=by
  refine List.pairwise_map.2 (w.imp_of_mem fun{a b} Y hb z O=>z ?_);have v:=yc4 (k a Y);have J:=yc4 (k b hb);rw[O,J]at v;exact(gT v).symm
 have C:(Ct.flt (gy ps L)).Nodup:=R.sublist s1;have y:∀x∈Ct.flt (gy ps L),x<ps.length:=fun x A=>by
  obtain⟨p,i,rfl⟩:=jE.1 (s1.subset A);exact fK (yc4 (k p i))
 have D:∀{p:List Int},p∈Qs L->ps.getD (iZ ps p) []=p:=fun{p} i=>by
  rw[dD,yc4 (k p i)];rfl
 have o:∀{d p},d∈L->p∈d.bE->p∈Qs L:=fun{d p} hd i=>rF.2 ⟨d,hd,i⟩;have U:∀x∈gy ps L,qF t f B r ps x.1 x.2<=103600:=fun x A=>by
  obtain⟨d,hd,p,I,e,rfl⟩:=yi5 ps A;have i:=o hd (p:=p) (by rw[e];simp);have F:=o hd (p:=I) (by rw[e];simp);have z:iZ ps p≠iZ ps I:=fun O=>by
   have v:=yc4 (k p i);have J:=yc4 (k I F);rw[O,J]at v;have u:=(H.sub hd);rw[e]at u;have:=w.sublist u;rw[jW]at this;exact this.1 (by rw[(gT v)];simp)
  unfold qF;rw[if_neg z,D i,D F,<-e];exact H.JM hd
 have hs:∀j,j<ps.length->(Ct.flt (gy ps L)).contains j=false->sF t f B r ps j<=103600:=fun j hj E=>by
  obtain⟨p,i⟩:=jak hj;have G:p∈Qs L:=g.mem_iff.2 (bT i);obtain⟨d,hd,l⟩:=rF.1 G;have Q:iZ ps p=j:=by
   have v:=yc4 (k p G);have T:ps.Nodup:=(g.nodup_iff.1 w);exact K5 T v i
  have Z:ps.getD j []=p:=by rw[dD,i];rfl
  unfold sF;rw[Z];rcases yj6 (m d hd)with⟨p0,e⟩|⟨p0,I,e⟩
  ·rw[e,iR]at l;rw[l,<-e];exact H.JM hd
  ·exfalso;obtain⟨K,M⟩:=ytw ps hd e;have hc:j∈Ct.flt (gy ps L):=by
    rw[e]at l;simp only[dY,kI,or_false]at l;rw[<-Q];rcases l with h|h
    ·rw[h];exact K
    ·rw[h];exact M
   have:=xX.2 hc;rw[this]at E;cases E
 have hP:(fun j=>Nat.testBit 0 j||(Ct.flt (gy ps L)).contains j)=fun j=>(Ct.flt (gy ps L)).contains j:=by
  funext j;rw[Nat.zero_testBit,xZ]
 have S:Ct.Mt ps.length (qF t f B r ps) BIG 0 (Nat.testBit 0) (gy ps L):=by
  refine⟨fun x A=>?_,C⟩;have h3:=U x A;obtain⟨d,hd,p,I,e,rfl⟩:=yi5 ps A;obtain⟨K,M⟩:=ytw ps hd e;exact⟨o9 _,y _ K,y _ M,Nat.zero_testBit _,Nat.zero_testBit _,by unfold BIG;omega⟩
 have hw:=(yj4 ps.length (sF t f B r ps) (qF t f B r ps) 0 0).2 _ S;have N:Ct.cm ps.length (sF t f B r ps) (qF t f B r ps) (Nat.testBit 0) (gy ps L)<=103600*L.length:=by
  unfold Ct.cm Ct.inM;rw[hP];have k1:=Ei U;have k2:=yw9 (P:=fun j=>(Ct.flt (gy ps L)).contains j) (n:=ps.length) hs;have k3:=ytj (n:=ps.length) C y;omega
 exact⟨pz hw N,by omega⟩
theorem LQ(H:iE t f B r L):∃b a p,fewR t f B r=(b,a,p,true)/\ b.length<=L.length:=by
 obtain⟨c,e,g,u,v⟩:=H.cost;unfold fewR;cases hb:bst t f B r (2^t.bn.length)with
 |none=>
  have:=ybz.bst_none hb c e g;unfold BIG at this;omega
 |some x=>
  obtain⟨a,w⟩:=x;obtain⟨k,l,m,o,i⟩:=ybz hb;have y:=i c e g;obtain⟨_,j,_,z,_⟩:=yue H.h H.hT hb rfl;have A:=(yth j).2.1;exact⟨_,_,_,rfl,by omega⟩
end
section
variable{t:bA}{f:bL}{B:List (List Int)}{r:cB}{L:List bB}
theorem ynm{k:Nat}{c:bM}{B:List (List Int)}(h:Cur k c)(K:k<=100000000)(hB:BB B):Tot (yqo c B) fun r=>Cur (k+20) r.2/\ r.1.length<=3000:=by
 have F:=hB.1;unfold yqo;refine .ite (fun _=>.ok ⟨h.mono (by omega),by simp⟩) fun h0=>?_;have I:B.length≠0:=fun h=>by rw[h]at h0;simp at h0
 refine .call (yct _ h (by omega)) fun r ⟨C,p0,M⟩=>?_;obtain⟨e,j,l⟩:∃e,idx B r.1=some e/\ e∈B:=by
  obtain⟨e,j,_,H⟩:=lX p0 (show r.1<(B.length:Int)by omega);exact⟨e,j,H⟩
 have G:=hB.2 e l;refine .eq j (.ite (fun _=>.ok ⟨C.mono (by omega),by simp⟩) fun y=>?_);have A:e.length≠0:=fun h=>by rw[h]at y;simp at y
 refine .call (yct _ C (by omega)) fun b ⟨m,N,q1⟩=>?_;have J:w64 ((e.length:Int)-b.1)=(e.length:Int)-b.1:=jaj (by omega);rw[J];refine .call (yct _ m (by omega)) fun i ⟨p,U,V⟩=>?_;have w:w64 (w64 (b.1+1)+i.1)=b.1+1+i.1:=by rw[jaj (x:=b.1+1) (by omega),jaj (by omega)]
 rw[w];refine .chk (by omega) ?_;unfold yjz;have z:((e.take (b.1+1+i.1).toNat).drop b.1.toNat).length<=2000:=by rw[gY,eF];omega
 refine .eq (a:=[]++((e.take (b.1+1+i.1).toNat).drop b.1.toNat)) (by rw[ja9 (by rw[mq];omega)];rfl) ?_;rw[jD];exact .call (P:=fun o=>Cur (k+20) ⟨o.1,o.2.1,⟨o.2.2.1⟩⟩/\ o.2.2.2.length<=3000) (.call (ytg 10 p (by omega)) fun O g=>.ite (fun _=>.call (yct 9 g (by omega)) fun Q ⟨u,_⟩=>.chk (by rw[lQ];omega) (.ok ⟨u.mono (by omega),by simp only[gu,lQ];omega⟩)) fun _=>.ok ⟨g.mono (by omega),by dsimp only;omega⟩) fun⟨v,R,S,T⟩ ⟨D,E⟩=>.ok ⟨D,E⟩
theorem ygq(hb:TB t){p:List Int}{e:Int}(b:p[0]? =some e)(h:0<=tix t e):∃v,zq80 t p=some v:=by
 have a:idx p 0=some e:=ixs (i:=0) b;unfold zq80;simp only[a,bF,yc9 hb,yfz h];exact⟨_,rfl⟩
theorem ygy{k:Nat}{c:bM}(hb:TB t)(h:Cur k c)(hk:k<=90000000)(hB:BB B):Tot (zq98 c t B) fun r=>r.1.bE.length<=4/\ ∀p∈r.1.bE,p.length<=3000:=by
 unfold zq98;refine .call (yco _ (by simp) h (by omega)) fun r ⟨hr,W⟩=>?_;have h4:1<=r.1/\ r.1<=4:=by simp at W;omega
 refine .call (P:=fun o=>Cur (k+200) ⟨o.1,o.2.1,⟨o.2.2.1⟩⟩/\ o.2.2.2.length<=4/\ ∀p∈o.2.2.2,p.length<=3000) ?_ fun⟨v4,v5,v6,v7⟩ ⟨hc,G,x⟩=>?_
 ·refine .iter (fun q (s:Int×(List UInt8)×Int×Int×(List (List Int)))=>s.1=(q:Int)/\ s.2.2.2.2.length+q<=4/\ (∀p∈s.2.2.2.2,p.length<=3000)/\ Cur (k+2+20*(4-q)) ⟨s.2.1,s.2.2.1,⟨s.2.2.2.1⟩⟩) (n:=r.1.toNat) ⟨by show r.1=_;omega,by show 0+r.1.toNat<=4;omega,by simp,hr.mono (by omega)⟩ ?_;rintro q ⟨b,w1,w2,w3,w4⟩ ⟨X,G,x,e⟩;simp only at X G x e;subst X;unfold yky;refine .iteP (fun O=>?_) (fun O=>.dn ⟨e.mono (by omega),by dsimp only;omega,x⟩);refine .call (ynm e (by omega) hB) fun r2 ⟨R,g⟩=>.chk (by rw[lQ];omega) (.nx ⟨q-1,by omega,?_,by simp only[gu,lQ];omega,fun p hpm=>?_,R.mono (by omega)⟩)
  ·show w64 ((q:Int)-1)=_;rw[jaj (by omega)];omega
  ·rcases fA.1 hpm with hpm|hpm
   ·exact x p hpm
   ·rw[iR.1 hpm];exact g
 simp only at hc G x;refine .call (P:=fun o=>o.length<=4/\ ∀p∈o,p.length<=3000) ?_ fun ae ⟨z,C⟩=>?_
 ·refine .iter (fun m (s:Int×List (List Int))=>∃j:Nat,s.1=((j+1:Nat):Int)/\ m+j=4/\ s.2.length<=4/\ ∀p∈s.2,p.length<=3000) (n:=4) ⟨0,rfl,rfl,G,x⟩ ?_;rintro m ⟨v8,H⟩ ⟨j,V,W,u,a⟩;simp only at V u a;subst V;unfold ykx;refine .call (P:=fun b=>b=true->j+1<H.length) (.iteP (fun hc=>.eq (ypw hb) (.ok fun _=>by omega)) (fun _=>.ok nofun)) fun b M=>.ite (fun N=>?_) (fun _=>.dn ⟨u,a⟩);have hj:=M N;have hw:w64 (((j+1:Nat):Int)-1)=(j:Int):=by rw[jaj (by omega)];omega
  obtain⟨I,v⟩:=jak (l:=H) (i:=j) (by omega);obtain⟨y,w⟩:=jak (l:=H) (i:=j+1) (by omega);have g:=a I (bT v);have A:=a y (bT w);rw[hw];refine .call (P:=fun o=>o.length<=4/\ ∀p∈o,p.length<=3000) (.eq (ixs v) (.eq (ixs w) (.call (ygu hB g) fun aa J=>.call (P:=fun _=>True) (.ite (fun ht=>?_) (fun _=>.ok trivial)) fun ad _=>.ite (fun _=>?_) (fun _=>.ok ⟨u,a⟩)))) fun o Q=>.nx ⟨m-1,by omega,j+1,jai (by omega),by omega,Q⟩
  ·refine .call (ygu hB A) fun ab K=>.ite (fun U=>?_) (fun _=>.ok trivial);have n2:I.length≠0:=fun h=>J ht (kK.1 h);have n3:y.length≠0:=fun h=>K U (kK.1 h);obtain⟨x2,E⟩:=jak (l:=I) (i:=0) (by omega);obtain⟨x3,F⟩:=jak (l:=y) (i:=0) (by omega);refine .eq (ixs (i:=0) E) (.eq (yc9 hb x2) (.iteP (fun Y=>.eq (ixs (i:=0) F) (.eq (yc9 hb x3) (.iteP (fun Z=>?_) (fun _=>.ok trivial)))) (fun _=>.ok trivial)));obtain⟨s2,S⟩:=ygq hb E Y;obtain⟨s3,T⟩:=ygq hb F Z;exact .eq T (.eq S (.ok trivial))
  ·have D:(H.set j y)[j+1]? =some y:=by rw[iN (by omega)];exact w
   refine .eq (ixs v) ?_;rw[gI,gI];refine .eq (ixs D) (.ok ⟨by rw[gH,gH];exact u,fun p hpm=>?_⟩);rcases tZ hpm with hpm|rfl
   ·rcases tZ hpm with hpm|rfl
    ·exact a p hpm
    ·exact A
   ·exact g
 ·exact .call (P:=fun o=>o.2.2.2.length<=4/\ ∀p∈o.2.2.2,p.length<=3000) (.call (ytg 24 hc (by omega)) fun ac _=>.ite (fun _=>.ok ⟨by simp,by simp⟩) fun _=>.ok ⟨z,C⟩) fun⟨af,ah,ai,aj⟩ Q=>.ok Q
theorem yq6{k:Nat}{c:bM}(hd:DT t)(I:FB f)(hB:BB B)(r:cB)(h:Cur k c)(U:k<=80000000):Tot (zq96 c t f B r) fun o=>o.1.length<=1000/\ ∀d∈o.1,d.bE.length<=4/\ ∀p∈d.bE,p.length<=3000:=by
 have hb:=hd.tb;obtain⟨v,v1,R,S⟩:=ygr hb I hB r;unfold zq96;refine .eq R (.call (P:=fun b=>b=false->v=true/\ t.bn.length<=8) (.ite (fun _=>.ok nofun) fun q=>.ok fun N=>⟨by simpa using q,by have:=of_decide_eq_false N;omega⟩) fun b j=>.ite (fun _=>?_) fun i=>?_)
 ·refine .call (ygy hb h (by omega) hB) fun X C=>.ok ⟨by simp,fun d hd=>?_⟩;rw[iR.1 hd];exact C
 ·obtain⟨K,hT⟩:=j i;obtain⟨hA,hP,hR⟩:=S K;have H:RuP t f B r:=⟨hb,hA,hP,hB,hR⟩;refine .eq (KD H hT) ?_;have g:(fewR t f B r).1.length<=8/\ ∀d∈(fewR t f B r).1,d.bE.length<=4/\ ∀p∈d.bE,p.length<=3000:=by
   unfold fewR;cases l:bst t f B r (2^t.bn.length)with
   |none=>exact⟨by simp,fun d hd=>by cases hd⟩
   |some x=>
    obtain⟨a,w⟩:=x;obtain⟨_,A,M,_,_⟩:=yue H hT l rfl;exact⟨M,fun d hd=>⟨by rcases(A d hd).len with h|h<;>omega,(A d hd).big⟩⟩
  refine .call (P:=fun o=>o.2.2.2.length<=1000/\ ∀d∈o.2.2.2,d.bE.length<=4/\ ∀p∈d.bE,p.length<=3000) ?_ fun⟨w1,w2,w3,w4⟩ J=>.ok J;refine .call (P:=fun o=>Cur (k+2) ⟨o.2.1,o.2.2.1,⟨o.2.2.2⟩⟩/\ (o.1=true->0<(fewR t f B r).1.length)) (.iteP (fun V=>.call (ytg 5 h (by omega)) fun Y D=>.ok ⟨D,fun _=>by omega⟩) fun _=>.ok ⟨h.mono (by omega),nofun⟩) fun⟨v5,v6,v7,v8⟩ ⟨u,y⟩=>?_;dsimp only at u y ⊢;refine .ite (fun m=>?_) fun _=>.ok ⟨by have:=g.1;show(fewR t f B r).1.length<=1000;omega,g.2⟩;have h0:=y m;refine .call (yct _ u (by omega)) fun O ⟨E,p0,W⟩=>.call (ytg 2 E (by omega)) fun Z F=>.ite (fun _=>.idx p0 (by omega) fun e z=>.chk (by have:=g.1;simp;omega) (.ok ⟨?_,fun d hd=>?_⟩)) fun _=>.call (ygy hb F (by omega) hB) fun Q G=>.idx p0 (by omega) fun T z=>.ok ⟨?_,fun d hd=>?_⟩
  ·have:=g.1;show((fewR t f B r).1++[e]).length<=1000;simp;omega
  ·have hd:d∈(fewR t f B r).1++[e]:=hd;rcases fA.1 hd with h|h
   ·exact g.2 d h
   ·rw[iR.1 h];exact g.2 e (bT z)
  ·have:=g.1;show((fewR t f B r).1.set _ _).length<=1000;rw[gH];omega
  ·have hd:d∈(fewR t f B r).1.set O.1.toNat Q.1:=hd;rcases tZ hd with h|h
   ·exact g.2 d h
   ·rw[h];exact G
theorem Kh{P:List (List Int)}(M:P.length<=4)(z:∀p∈P,p.length<=3000)(id:Int):Tot (zq48 P id) fun r=>(0<=r.1↔id∈P.flatten):=by
 unfold zq48;refine .flb ((Tot.iter (fun m (s:Int)=>∃i:Nat,s=(i:Int)/\ m+i=P.length/\ ∀p∈P.take i,id∉p) (Q:=fun b=>(∃(v:Nat)(q:Int),b=.ret ((v:Int),q)/\ id∈P.flatten) \/(b=.go ()/\ id∉P.flatten)) (n:=P.length) ⟨0,rfl,rfl,fun p z=>by simp at z⟩ ?_).mono fun b hB=>⟨fun q e=>?_,fun u e=>?_⟩)
 ·rintro m s ⟨i,rfl,N,D⟩;unfold ycx;dsimp only
  refine .iteP (fun G=>?_) fun E=>.dn (.inr ⟨rfl,fun F=>?_⟩)
  ·obtain⟨p,a⟩:=jak (l:=P) (i:=i) (by omega);have K:=z p (bT a);refine .eq (ixs a) (.eq (yby p (by omega) id) (.iteP (fun h0=>.dn (.inl ⟨i,_,rfl,?_⟩)) fun h0=>.nx ⟨m-1,by omega,i+1,jai (by omega),by omega,fun I w=>?_⟩))
   ·obtain⟨k,x,_,H,C,_⟩:=wZ (p:=fun e=>id==e) (l:=p) (by omega);have:id=x:=by simpa using C
    exact mh.2 ⟨p,bT a,by rw[this];exact bT H⟩
   ·rw[jap a]at w;rcases fA.1 w with h|h
    ·exact D I h
    ·rw[iR.1 h];intro o;have:=Hy (p:=fun e=>id==e) (l:=p) (by omega) id o;simp at this
  ·obtain⟨p,A,j⟩:=mh.1 F;exact D p (by rw[iw (by omega)];exact A) j
 ·rcases hB with⟨v,J,g,y⟩|⟨g,_⟩
  ·rw[g]at e;cases e;exact⟨fun _=>y,fun _=>by show(0:Int)<=(v:Int);omega⟩
  ·rw[g]at e;cases e
 ·rcases hB with⟨v,J,g,_⟩|⟨_,y⟩
  ·rw[g]at e;cases e
  ·exact .ok ⟨fun h=>by simp at h,fun h=>absurd h y⟩
theorem yui{L:List bB}(hL:L.length<=1000)(hd:∀d∈L,d.bE.length<=4/\ ∀p∈d.bE,p.length<=3000)(D:(fls L).Nodup){i:Nat}{d:bB}(hi:L[i]? =some d){id:Int}(h:id∈d.bE.flatten):zq25 L id=some (i:Int):=by
 have z:∀(j:Nat) d',j<i->L[j]? =some d'->id∉d'.bE.flatten:=fun j d' C o F=>by
  have E:fls L=fls (L.take i)++fls (L.drop i):=ykq L i;rw[E,kJ]at D;refine D.2.2 id ?_ id ?_ rfl
  ·unfold fls;exact rF.2 ⟨d',bT (by rw[kL C];exact o),F⟩
  ·unfold fls;refine rF.2 ⟨d,?_,h⟩;rw[um (fK hi),(cK.1 hi).2];exact dU ..
 unfold zq25 yvu yvv;have A:=fK hi;refine Tot.val (.call (P:=fun v=>v=(i:Int)) (.flb ((Tot.iter (fun m (s:Int)=>∃j:Nat,s=(j:Int)/\ m+j=i/\ j<=i) (Q:=fun b=>b=.ret (i:Int)) (n:=i) ⟨0,rfl,rfl,o9 _⟩ ?_).mono fun b hB=>⟨fun q e=>by rw[hB]at e;cases e;rfl,fun u e=>by rw[hB]at e;cases e⟩)) fun v H=>.ok H);rintro m s ⟨j,rfl,I,C⟩;unfold yhz;dsimp only
 refine .iteP (fun _=>?_) fun w=>absurd (show(j:Int)<(L.length:Int)by omega) w;obtain⟨d',a⟩:=jak (l:=L) (i:=j) (by omega);have g:=hd d' (bT a);refine .eq (ixs a) (.call (P:=fun b=>b=decide (id∈d'.bE.flatten)) ?_ fun b hb=>?_)
 ·unfold zq26;exact .call (Kh g.1 g.2 id) fun q G=>.ok (by rw[decide_eq_decide];exact G)
 ·subst hb;refine .iteP (fun x=>.dn ?_) fun k=>?_
  ·by_cases y:j=i
   ·rw[y]
   ·exact absurd x (z j d' (by omega) a)
  ·have:j≠i:=fun e=>by subst e;rw[hi]at a;cases a;exact k h
   exact .nx ⟨m-1,by omega,j+1,jai (by omega),by omega,by omega⟩
end
theorem yw1{P:List (List Int)}(j:P.length<=4)(b:∀p∈P,p.length<=3000):P.flatten.length<=srtN:=by
 have h:∀{Q:List (List Int)},(∀p∈Q,p.length<=3000)->Q.flatten.length<=3000*Q.length:=fun{Q}=>by
  induction Q with
  |nil=>intro _;simp
  |cons a Q e=>
   intro h;have g:=e fun p b=>h p (dZ _ b);have i:=h a (dU ..);simp only[vU,gu,gZ];omega
 have:=h b;unfold srtN;omega
theorem cover_true(F:List UInt8):ycn F=some true:=by
 unfold ycn;rw[Kl];refine Tot.val (.eq rfl (.iteP (fun _=>.ok rfl) fun _=>?_));refine .call (P:=fun o=>DT o.1/\ FB o.2.1/\ BB o.2.2.1/\ o.2.2.2.2.length<=1000/\ ∀d∈o.2.2.2.2,d.bE.length<=4/\ ∀p∈d.bE,p.length<=3000) ?_ fun⟨t,f,B,r,L⟩ ⟨hd,hf,hB,hL,x⟩=>?_
 ·unfold zq58;exact .call (yf5 (cur0 F) (by omega)) fun o ⟨h1,J,h3,h4⟩=>.call (yq6 J h3 h4 _ h1 (by omega)) fun r2 h5=>.ok ⟨J,h3,h4,h5.1,h5.2⟩
 dsimp only at hd hf hB hL x ⊢;have hb:=hd.tb;obtain⟨v,S,v2,v3⟩:=ygr hb hf hB r;cases v with
 |false=>
  refine .eq (a:=(false,false)) (by unfold zq6;rw[S];rfl) (.eq (a:=(false,false)) (by unfold zq59;rw[v2];rfl) (.eq (a:=false) rfl (.ite (nofun) fun _=>.eq (a:=true) rfl (.ite (fun _=>.ok rfl) nofun))))
 |true=>
  obtain⟨hA,hP,hR⟩:=v3 rfl;have H:RuP t f B r:=⟨hb,hA,hP,hB,hR⟩;have R:∀d∈L,d.bE.flatten.length<=srtN:=fun d g=>yw1 (x d g).1 (x d g).2;obtain⟨w,w1,w2,w3⟩:=yq7 H hL fun d g=>⟨(x d g).1,(x d g).2,R d g⟩;refine .eq (a:=(w,true)) (by unfold zq6;rw[S];simp only[bF,fT,bW,if_false,w1]) (.eq (a:=(w,true)) (by unfold zq59;rw[v2];simp only[bF,fT,bW,if_false,w2]) (.eq (a:=false) (by simp) (.ite (nofun) fun _=>?_)));cases w with
  |false=>exact .eq (a:=true) rfl (.ite (fun _=>.ok rfl) nofun)
  |true=>
   have C:=w3.1 rfl;refine .eq (a:=false) rfl (.ite (nofun) fun _=>?_);have Y:∀(i:Nat) d id,L[i]? =some d->id∈d.bE.flatten->zq4 t f B r L id=some ((i:Int),true):=fun i d id hi aa=>by
    have e1:=yui hL x C.nd hi aa;unfold zq4;rw[S,w1];simp only[bF,fT,bW,if_false,e1];unfold zq30;rw[if_neg (by simp)];rfl
   have I:Tot (iter (ybw (t,f,B,r,L)) (true,(0:Int))) fun b=>∃A:Bool,b=.go A/\ (A=true->∀d∈L,d.bE.length<=2):=by
    refine .iter (fun m (s:Bool×Int)=>∃i:Nat,s.2=(i:Int)/\ m+i=L.length/\ (s.1=true->∀d∈L.take i,d.bE.length<=2)) (n:=L.length) ⟨0,rfl,rfl,fun _ d hd=>by simp at hd⟩ ?_;rintro m ⟨A,k⟩ ⟨i,hk,hm,V⟩;dsimp only at hk V;subst hk;unfold ybw;dsimp only
    refine .iteP (fun af=>?_) fun ad=>.dn ⟨A,rfl,fun h=>by have:=V h;rwa [iw (by omega)]at this⟩;obtain⟨d,y⟩:=jak (l:=L) (i:=i) (by omega);have X:=x d (bT y);refine .call (P:=fun b=>b=true->A=true/\ d.bE.length<=2) (.ite (fun h=>.eq (ixs y) (.ok fun J=>⟨h,by have:=of_decide_eq_true J;omega⟩)) fun _=>.ok nofun) fun i1 Z=>?_;refine .flb ((Tot.iter (fun m (s:Int)=>∃j:Nat,s=(j:Int)/\ m+j=d.bE.length) (Q:=fun b=>b=.go ()) (n:=d.bE.length) ⟨0,rfl,by omega⟩ ?_).mono fun b hB=>⟨fun q e=>(by rw[hB]at e;cases e),fun u e=>.nx ⟨m-1,by omega,i+1,jai (by omega),by omega,fun h d' M=>?_⟩⟩)
    ·rintro m' s ⟨j,rfl,ah⟩;unfold ycl;dsimp only
     refine .eq (ixs y) (.iteP (fun ab=>?_) fun _=>.dn rfl);obtain⟨p,E⟩:=jak (l:=d.bE) (i:=j) (by omega);have ak:=X.2 p (bT E);refine .flb ((Tot.iter (fun m (s:Int)=>∃q:Nat,s=(q:Int)/\ m+q=p.length) (Q:=fun b=>b=.go ()) (n:=p.length) ⟨0,rfl,by omega⟩ ?_).mono fun b hB=>⟨fun q e=>(by rw[hB]at e;cases e),fun u e=>.nx ⟨m'-1,by omega,j+1,jai (by omega),by omega⟩⟩);rintro m2 s ⟨q,rfl,ai⟩;unfold ycm;dsimp only
     refine .eq (ixs y) (.eq (ixs E) (.iteP (fun ac=>?_) fun _=>.dn rfl));obtain⟨id,G⟩:=jak (l:=p) (i:=q) (by omega);have O:id∈d.bE.flatten:=mh.2 ⟨p,bT E,bT G⟩;exact .eq (ixs y) (.eq (ixs E) (.eq (ixs G) (.eq (Y i d id y O) (.eq (a:=false) (by simp) (.ite (nofun) fun _=>.nx ⟨m2-1,by omega,q+1,jai (by omega),by omega⟩)))))
    ·obtain⟨U,g2⟩:=Z h;rw[jap y]at M;rcases fA.1 M with h|h
     ·exact V U d' h
     ·rw[iR.1 h];exact g2
   refine .flb (I.mono fun b ⟨A,hB,J⟩=>⟨fun q e=>(by rw[hB]at e;cases e),fun u e=>?_⟩);rw[hB]at e;cases e;by_cases hT:t.bn.length<=8
   ·have o1:zq5 t f B r=some (fewR t f B r):=by
     unfold zq5;rw[S];simp only[bF,fT,bW,if_false,KC H hT]
    refine .eq o1 (.call (P:=fun b=>b=true) (.ite (fun _=>.ok rfl) fun D=>.iteP (fun _=>.ok rfl) fun T=>?_) fun b hb=>.ok hb);have D:A=true:=by simpa using D
    have hC:iE t f B r L:=by
     refine⟨H,hT,C,fun d g=>?_⟩;have W:=C.br d g;obtain⟨z,z1,_,z3⟩:=yjb H (x d g).1 (x d g).2 (R d g);rw[W]at z1;obtain⟨U,_,p,e,g3,_⟩:=z3 (gT z1).symm;have aj:=fK g3;have:=J D d g;exact⟨by omega,U⟩
    obtain⟨K,a,q,N,ae⟩:=LQ hC;rw[N];exact .ite (fun _=>.ok (decide_eq_true (by show(K.length:Int)<=(L.length:Int);omega))) fun q=>by cases q
   ·have o1:zq5 t f B r=some ([],0,0,false):=by
     have T:decide (8<(t.bn.length:Int))=true:=decide_eq_true (by omega);unfold zq5 zq28;rw[S];simp only[bF,fT,bW,if_false,T,if_true]
    exact .eq o1 (.call (P:=fun b=>b=true) (.ite (fun _=>.ok rfl) fun _=>.iteP (fun _=>.ok rfl) fun T=>absurd (by omega) T) fun b hb=>.ok hb)
end Go.Proofs.YtimecodbnhcnoaaGreat
