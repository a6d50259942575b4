/- The plain law: what the models compute, no program in sight. -/
import Derived.Test.YtimecodbnhcnoaaGreatCtK
namespace Go.Proofs.YtimecodbnhcnoaaGreat
open Go Go.Ab
set_option maxHeartbeats 4000000
set_option linter.unusedVariables false
set_option linter.unusedSimpArgs false
section
variable{t:Timetable}{f:Fleet}{B:List (List Int)}{r:Rules}{d:List (List Int)}
theorem ya2(hA:AskF t f)(hP:yaq t f B){p:List Int}(h:IsP B p):0<=pS t p/\ pS t p<=pE t p/\ pE t p<=1799:=by
 obtain⟨h0,i,k,b,hb,D,E⟩:=h;have J:p.length≠0:=fun A=>h0 (List.length_eq_zero_iff.1 A);obtain⟨_,C,hC⟩:=hP.1 b (List.mem_of_getElem? hb);have m:=fun{j:Nat}(w:j<p.length)=>ye4 hb D E w;have g:∀{j:Nat}{e:Int},p[j]? =some e->0<=tix t e:=fun{j e} x=>C e (List.mem_of_getElem? (by rw[m (ja7 x)];exact x));have u:∀j,j<p.length->(tr t (p.getD 0 0)).Start<=(tr t (p.getD j 0)).Start:=by
  intro j
  induction j with
  |zero=>intro _;exact Int.le_refl _
  |succ j F=>
   intro w;obtain⟨a,o⟩:=jaj (l:=p) (i:=j) (by omega);obtain⟨c,hc⟩:=jaj (l:=p) (i:=j+1) w;have v:=F (by omega);have hF:FolE t f a c:=hC (k+j) a c (by rw[m (by omega)];exact o) (by rw[Nat.add_assoc,m w];exact hc);have I:=yrk hA (yah (g o)).1 (yah (g hc)).1 hF;rw[yiv o]at v;rw[yiv hc];omega
 obtain⟨z,y⟩:=jaj (l:=p) (i:=p.length-1) (by omega);obtain⟨a,o⟩:=jaj (l:=p) (i:=0) (by omega);have G:=yba hA (g y);have H:=yba hA (g o);have v:=u (p.length-1) (by omega);unfold pS pE;rw[yiv y]at v ⊢;rw[yiv o]at v ⊢;omega
noncomputable def spn(t:Timetable)(d:List (List Int)):Int:=(d.map fun p=>pE t p-pS t p).sum
def brk(r:Rules)(g:List Int):Int:=(g.map fun g=>min g r.PaidBreak).sum
noncomputable def pdv(t:Timetable)(f:Fleet)(r:Rules)(d:List (List Int)):Int:=r.SignOn+r.SignOff+spn t d+brk r (gaps t f d)
theorem ydi{j:Nat}{p:List Int}(h:d[j]? =some p):spn t (d.take (j+1))=spn t (d.take j)+(pE t p-pS t p):=by
 unfold spn;rw[jap h,List.map_append,List.sum_append];simp
theorem yhw{g:List Int}{j:Nat}{x:Int}(h:g[j]? =some x):brk r (g.take (j+1))=brk r (g.take j)+min x r.PaidBreak:=by
 unfold brk;rw[jap h,List.map_append,List.sum_append];simp
theorem ywl(hA:AskF t f)(hP:yaq t f B)(b:∀p∈d,IsP B p):∀j,0<=spn t (d.take j)/\ spn t (d.take j)<=1799*j:=by
 intro j
 induction j with
 |zero=>simp[spn]
 |succ j e=>
  rcases Nat.lt_or_ge j d.length with h|h
  ·obtain⟨p,a⟩:=jaj h;have:=ya2 hA hP (b p (List.mem_of_getElem? a));rw[ydi a];omega
  ·rw[List.take_of_length_le (by omega)]at e ⊢;omega
theorem yxg(hR:ya4 r){g:List Int}(b:∀x∈g,¬x<r.MinBreak):∀j,0<=brk r (g.take j)/\ brk r (g.take j)<=900*j:=by
 obtain⟨_,_,_,c,i,_⟩:=hR;intro j
 induction j with
 |zero=>simp[brk]
 |succ j e=>
  rcases Nat.lt_or_ge j g.length with h|h
  ·obtain⟨x,a⟩:=jaj h;have:=b x (List.mem_of_getElem? a);rw[yhw a];omega
  ·rw[List.take_of_length_le (by omega)]at e ⊢;omega
theorem ywx{j:Nat}(h:j+1<d.length){p q:List Int}(a:d[j]? =some p)(b:d[j+1]? =some q):(gaps t f d)[j]? =some (gap t f p q):=by
 unfold gaps;rw[List.getElem?_map,List.getElem?_range (by omega)];simp only[Option.map_some,yoi a,yoi b]
theorem yq1(hb:TB t)(hA:AskF t f)(hP:yaq t f B)(hR:ya4 r)(N:d.length<=4)(z:∀p∈d,IsP B p)(hd:∀p∈d,Trs t p)(y:GapP t f r d):zq47 t f r ⟨d⟩=some (pdv t f r d)/\ zq77 t f r ⟨d⟩=some (pdv t f r d):=by
 have A:=hR;obtain⟨⟨R,S⟩,⟨F,K⟩,_,⟨T,U⟩,⟨V,d2⟩,_⟩:=A;have I:w64 (r.SignOn+r.SignOff)=r.SignOn+r.SignOff:=jak (by omega);have M:=yho t f d;have E:=ywl hA hP z;have br:=yxg hR y;constructor
 ·unfold zq47;rw[I];refine Tot.val (.call (P:=fun v=>v=r.SignOn+r.SignOff+spn t d) ?_ fun W L=>.eq (ywy hb hA N hd) (.call (P:=fun v=>v=pdv t f r d) ?_ fun Q h=>.ok h))
  ·refine .iter (fun m (s:Int×Int)=>∃j:Nat,s.2=(j:Int)/\ m+j=d.length/\ s.1=r.SignOn+r.SignOff+spn t (d.take j)) (n:=d.length) ⟨0,rfl,rfl,by simp[spn]⟩ ?_;rintro m ⟨v,J⟩ ⟨j,o,H,e⟩;simp only at o e;subst o;unfold yju;refine .iteP (fun hc=>?_) (fun hc=>.dn ?_)
   ·have k:j<d.length:=by simp only at hc;omega
    obtain⟨p,b⟩:=jaj (l:=d) (i:=j) k;have a:=List.mem_of_getElem? b;have O:=ya2 hA hP (z p a);have s1:=E j;refine .eq (ixs b) (.eq (yn9 hb hA (hd p a)) (.nx ⟨m-1,by omega,j+1,jah (by omega),by omega,?_⟩));simp only
    rw[jak (x:=pE t p-pS t p) (by omega),jak (by omega),ydi b];omega
   ·have hc:¬(j:Int)<(d.length:Int):=hc;rw[e,List.take_of_length_le (by omega)]
  ·subst L;have s1:=E d.length;rw[List.take_length]at s1;refine .iter (fun m (s:Int×Int)=>∃j:Nat,s.2=(j:Int)/\ m+j=(gaps t f d).length/\ s.1=r.SignOn+r.SignOff+spn t d+brk r ((gaps t f d).take j)) (n:=(gaps t f d).length) ⟨0,rfl,rfl,by simp[brk]⟩ ?_;rintro m ⟨v,J⟩ ⟨j,o,H,e⟩;simp only at o e;subst o;unfold yjt;refine .iteP (fun hc=>?_) (fun hc=>.dn ?_)
   ·have hc:(j:Int)<((gaps t f d).length:Int):=hc;obtain⟨g,u⟩:=jaj (l:=gaps t f d) (i:=j) (by omega);have C:=y g (List.mem_of_getElem? u);have F:=br j;refine .eq (ixs u) (.nx ⟨m-1,by omega,j+1,jah (by omega),by omega,?_⟩);show w64 (v+(if r.PaidBreak<g then r.PaidBreak else g))=_;have w:(if r.PaidBreak<g then r.PaidBreak else g)=min g r.PaidBreak:=by split<;>omega
    rw[w,jak (by omega),yhw u];omega
   ·have hc:¬(j:Int)<((gaps t f d).length:Int):=hc;rw[e,List.take_of_length_le (by omega)];rfl
 ·unfold zq77;rw[I];refine Tot.val (.call (P:=fun v=>v=pdv t f r d) ?_ fun Q h=>.ok h);refine .iter (fun m (s:Int×Int)=>∃j:Nat,s.2=(j:Int)/\ m+j=d.length/\ s.1=r.SignOn+r.SignOff+spn t (d.take j)+brk r ((gaps t f d).take (j-1))) (n:=d.length) ⟨0,rfl,rfl,by simp[spn,brk]⟩ ?_;rintro m ⟨v,J⟩ ⟨j,o,H,e⟩;simp only at o e;subst o;unfold yjh;refine .iteP (fun hc=>?_) (fun hc=>.dn ?_)
  ·have k:j<d.length:=by simp only at hc;omega
   obtain⟨p,b⟩:=jaj (l:=d) (i:=j) k;have a:=List.mem_of_getElem? b;have O:=ya2 hA hP (z p a);have s1:=E j;have F:=br (j-1);have G:w64 (w64 (v+pE t p)-pS t p)=v+(pE t p-pS t p):=by
    rw[jak (x:=v+pE t p) (by omega),jak (by omega)];omega
   refine .call (P:=fun x=>x=r.SignOn+r.SignOff+spn t (d.take (j+1))+brk r ((gaps t f d).take (j+1-1))) (.eq (ixs b) (.eq (endS hb hA (hd p a)) (.eq (ixs b) (.eq (yif hb (hd p a)) (.iteP (fun h0=>?_) (fun h0=>.ok ?_)))))) fun x w=>.nx ⟨m-1,by omega,j+1,jah (by omega),by omega,w⟩
   ·obtain⟨i,rfl⟩:∃i,j=i+1:=⟨j-1,by omega⟩;obtain⟨q,D⟩:=jaj (l:=d) (i:=i) (by omega);have u:=ywx (t:=t) (f:=f) k D b;have C:=y _ (List.mem_of_getElem? u);have K:=br i;rw[jff (by omega)];refine .eq (ixs D) (.eq (ixs b) (.eq (gapS hb hA (hd q (List.mem_of_getElem? D)) (hd p a)) (.eq (ytl _ _) (.ok ?_))));have w:(if gap t f q p<r.PaidBreak then gap t f q p else r.PaidBreak)=min (gap t f q p) r.PaidBreak:=by split<;>omega
    rw[w,G,ydi b,Nat.add_sub_cancel,yhw u,jak (by omega)];rw[e,Nat.add_sub_cancel];omega
   ·have:j=0:=by omega
    subst this;rw[G,e,ydi b];simp[brk];omega
  ·have hc:¬(j:Int)<(d.length:Int):=hc;rw[e,List.take_of_length_le (by omega),List.take_of_length_le (by omega)];rfl
theorem ywz(hA:AskF t f)(hP:yaq t f B){a b:List Int}(h:IsP B a)(hb:IsP B b)(i:Trs t a)(tb:Trs t b):gap t f a b<=pS t b-pE t a:=by
 have m:=ya2 hA hP h;have o:=ya2 hA hP hb;obtain⟨_,z,_,l,_,k,_,_,g⟩:=yal i;obtain⟨c,_,hc,_,j,_,_,e,_⟩:=yal tb;have:=(ydm hA k j).1;unfold gap;rw[g,e,jak (x:=pS t b-pE t a) (by omega),jak (by omega)];omega
theorem ywq(hA:AskF t f)(hP:yaq t f B)(hR:ya4 r){a:List Int}(b:IsP B a):0<=pdv t f r [a]/\ pdv t f r [a]<=3600:=by
 have o:=ya2 hA hP b;obtain⟨⟨g,h⟩,⟨i,j⟩,_,⟨k,l⟩,⟨m,d2⟩,_⟩:=hR;have e:pdv t f r [a]=r.SignOn+r.SignOff+(pE t a-pS t a):=by
  have:gaps t f [a]=[]:=rfl;unfold pdv;rw[this];simp[spn,brk]
 omega
theorem yqy(hA:AskF t f)(hP:yaq t f B)(hR:ya4 r){a b:List Int}(h:IsP B a)(hb:IsP B b)(j:Trs t a)(tb:Trs t b)(i:GapP t f r [a,b]):(0<=pdv t f r [a,b]/\ pdv t f r [a,b]<=3600)/\ pE t a<=pS t b:=by
 have y:=ya2 hA hP h;have z:=ya2 hA hP hb;have w:=ywz hA hP h hb j tb;obtain⟨⟨k,l⟩,⟨m,o⟩,_,⟨p,u⟩,⟨v,d2⟩,_⟩:=hR;have g:gaps t f [a,b]=[gap t f a b]:=rfl;have x:=i (gap t f a b) (by rw[g];exact List.mem_cons_self ..);have e:pdv t f r [a,b]=r.SignOn+r.SignOff+((pE t a-pS t a)+(pE t b-pS t b))+min (gap t f a b) r.PaidBreak:=by
  unfold pdv;rw[g];simp[spn,brk]
 omega
def prc(c:Nat):price:=⟨((c/100000:Nat):Int),((c%100000:Nat):Int)⟩
def BIG:Nat:=107374182400000
def spd(c:Nat):Int:=if c<BIG then(c:Int)-100000 else-1
noncomputable def dc(t:Timetable)(f:Fleet)(B:List (List Int))(r:Rules)(d:List (List Int)):Nat:=if zq18 t f B r ⟨d⟩=some 0 then 100000+(pdv t f r d).toNat else BIG
theorem yeb(hb:TB t)(hA:AskF t f)(hP:yaq t f B)(hB:BB B)(hR:ya4 r)(hl:d.length=1 \/d.length=2)(x:∀p∈d,p.length<=3000)(k:d.flatten.length<=srtN):
  zq45 d t f B r=some (prc (dc t f B r d))/\ zq86 t f B r ⟨d⟩=some (spd (dc t f B r d))/\ (dc t f B r d=BIG \/(100000<=dc t f B r d/\ dc t f B r d<=103600))/\
   (dc t f B r d<BIG->zq18 t f B r ⟨d⟩=some 0/\ (dc t f B r d:Int)=100000+pdv t f r d/\ yav B d/\ (∀p∈d,Trs t p)/\ GapP t f r d/\ zq47 t f r ⟨d⟩=some (pdv t f r d)/\ zq72 t f B r ⟨d⟩=some 0)/\ (dc t f B r d=BIG->zq18 t f B r ⟨d⟩≠some 0):=by
 obtain⟨v,l,z,A⟩:=yeg (r:=r) (d:=d) hb hA hP hB (by omega) x k;unfold zq45 zq86;rw[l,z];by_cases h0:v=0
 ·subst h0;obtain⟨g,i,j,_⟩:=A rfl;obtain⟨m,w⟩:=yq1 hb hA hP hR (by omega) g.2.1 i j;have o:0<=pdv t f r d/\ pdv t f r d<=3600:=by
   rcases hl with hl|hl
   ·obtain⟨a,rfl⟩:=List.length_eq_one_iff.1 hl;exact ywq hA hP hR (g.2.1 a (List.mem_cons_self ..))
   ·obtain⟨a,b,rfl⟩:∃a b,d=[a,b]:=by
     match d,hl with
     |[a,b],_=>exact⟨a,b,rfl⟩
    exact(yqy hA hP hR (g.2.1 a (by simp)) (g.2.1 b (by simp)) (i a (by simp)) (i b (by simp)) j).1
  have e:dc t f B r d=100000+(pdv t f r d).toNat:=by unfold dc;rw[if_pos l]
  have q1:(100000+(pdv t f r d).toNat)/100000=1:=by omega
  have y:(((100000+(pdv t f r d).toNat)%100000:Nat):Int)=pdv t f r d:=by omega
  refine⟨?_,?_,.inr (by rw[e];omega),fun _=>⟨rfl,by rw[e];omega,g,i,j,m,rfl⟩,fun h=>by rw[e]at h;unfold BIG at h;omega⟩
  ·simp only[Option.bind_some,bne_self_eq_false,Bool.false_eq_true,if_false,m];rw[e];unfold prc;rw[q1,y];rfl
  ·simp only[Option.bind_some,bne_self_eq_false,Bool.false_eq_true,if_false,w];rw[e];unfold spd;rw[if_pos (by unfold BIG;omega)];congr 1;omega
 ·have u:(v !=0)=true:=by simp[h0]
  have e:dc t f B r d=BIG:=by unfold dc;rw[if_neg (by rw[l];simp[h0])]
  refine⟨?_,?_,.inl e,fun h=>by rw[e]at h;exact absurd h (Nat.lt_irrefl _),fun _=>by simp[h0]⟩
  ·simp only[Option.bind_some,u,if_true];rw[e];rfl
  ·simp only[Option.bind_some,u,if_true];rw[e];unfold spd;rw[if_neg (Nat.lt_irrefl _)]
end
def Cc(m c:Nat):Prop:=c%100000<=3600*m/\ c/100000<=1073741824*m
theorem yhv{m a c:Nat}(h:Cc m c)(b:m<=a):Cc a c:=by
 unfold Cc at*
 have e:3600*m<=3600*a:=Nat.mul_le_mul_left _ b;have g:1073741824*m<=1073741824*a:=Nat.mul_le_mul_left _ b;omega
theorem yxf(m:Nat):Cc m 0:=by unfold Cc;omega
theorem ytg:prc 0=⟨0,0⟩:=by unfold prc;simp
theorem yrx{c:Nat}(h:c=BIG \/(100000<=c/\ c<=103600)):Cc 1 c:=by
 unfold Cc BIG at*
 omega
theorem yhj{m e a b:Nat}(i:Cc m a)(hb:Cc e b)(l:m+e<=20):zq50 (prc a) (prc b)=some (prc (a+b))/\ Cc (m+e) (a+b):=by
 unfold Cc at i hb;have g:(a+b)/100000=a/100000+b/100000:=by omega
 have h:(a+b)%100000=a%100000+b%100000:=by omega
 have j:a/100000<=21474836480:=by omega
 have k:b/100000<=21474836480:=by omega
 refine⟨?_,by unfold Cc;rw[g,h];omega⟩;unfold zq50 prc;rw[g,h];dsimp only
 rw[jak (by omega),jak (by omega)];rfl
theorem yhi(a b:Nat):∃r,zq20 (prc a) (prc b)=some r/\ (r<0↔a<b)/\ (r=0↔a=b):=by
 unfold zq20 prc;simp only[yef,Option.bind_some,yx0];refine⟨_,rfl,?_,?_⟩
 ·split<;>split at* <;>omega
 ·split<;>split at* <;>omega
theorem ynn(a j:Nat):decide (a=j)=(j==a):=by
 by_cases h:a=j
 ·subst h;simp
 ·have b:¬j=a:=fun e=>h e.symm;simp[h,b]
theorem yca{u i k:Nat}:Ct.add2 u.testBit i k=(u|||2^i|||2^k).testBit:=by
 funext j;unfold Ct.add2;rw[Nat.testBit_or,Nat.testBit_or,Nat.testBit_two_pow,Nat.testBit_two_pow,ynn,ynn]
theorem ynq{u i:Nat}:Ct.add1 u.testBit i=(u|||2^i).testBit:=by
 funext j;unfold Ct.add1;rw[Nat.testBit_or,Nat.testBit_two_pow,ynn]
structure Cst(n:Nat)(s:Nat->Nat)(q:Nat->Nat->Nat):Prop where
 le:n<=8
 s1:∀k,k<n->s k=BIG \/(100000<=s k/\ s k<=103600)
 q1:∀i k,i<n->k<n->q i k=BIG \/(100000<=q i k/\ q i k<=103600)
structure CuP(n:Nat)(s:Nat->Nat)(q:Nat->Nat->Nat)(ps:List (List Int))(sg:List price)(pr:List (List price)):Prop where
 pl:ps.length=n
 sl:sg.length=n
 se:∀k,k<n->sg[k]? =some (prc (s k))
 qe:∀i,i<n->∃row,pr[i]? =some row/\ ∀k,k<n->i≠k->row[k]? =some (prc (q i k))
def MmP(n:Nat)(s:Nat->Nat)(q:Nat->Nat->Nat)(a:List ((Int×Int)×price)):Prop:=
 ∀i u:Nat,i<=n->(getL (⟨0,0⟩:price) ((i:Int),(u:Int)) a).2=true->∃v,(getL (⟨0,0⟩:price) ((i:Int),(u:Int)) a).1=prc v/\ Ct.IsG n s q BIG i u.testBit v/\ Cc (n+(n-i)) v
theorem yq6(n:Nat)(s:Nat->Nat)(q:Nat->Nat->Nat):MmP n s q []:=fun _ _ _ h=>by cases h
theorem yws{n:Nat}{s:Nat->Nat}{q:Nat->Nat->Nat}{a:List ((Int×Int)×price)}(h:MmP n s q a){i u:Nat}{v:Nat}(m:Ct.IsG n s q BIG i u.testBit v)(hc:Cc (n+(n-i)) v):MmP n s q (putL ((i:Int),(u:Int)) (prc v) a):=by
 intro j w l e;rw[yni]at e ⊢;split at e
 ·rename_i b;rw[if_pos b];simp only[Prod.mk.injEq]at b;have g:i=j:=by omega
  have k:u=w:=by omega
  subst g;subst k;exact⟨v,rfl,m,hc⟩
 ·rename_i b;rw[if_neg b];exact h j w l e
section
variable{n:Nat}{s:Nat->Nat}{q:Nat->Nat->Nat}{ps:List (List Int)}{sg:List price}{pr:List (List price)}
theorem ya9{u:Nat}(b:n<=8)(a:u<2^n):u<4096:=ynd (by omega) a
theorem yud(hS:Cst n s q)(hC:CuP n s q ps sg pr){i:Nat}(hi:i<n){e:cutter->Int->Int->Option (price×(List ((Int×Int)×price)))}
  (o:∀a (u:Nat),MmP n s q a->u<2^n->Tot (e ⟨ps,sg,pr,a⟩ ((i+1:Nat):Int) (u:Int)) fun r=>(∃v,r.1=prc v/\ Ct.IsG n s q BIG (i+1) u.testBit v/\ Cc (n+(n-(i+1))) v)/\ MmP n s q r.2)
  {a:List ((Int×Int)×price)} (A:MmP n s q a) {k u:Nat} (j:k<n) (C:u<2^n):
  Tot (zq26 e ⟨ps,sg,pr,a⟩ (i:Int) (k:Int) (u:Int)) fun r=>MmP n s q r.2.2/\
   ((r.2.1=false/\ (i=k \/u.testBit i=true \/u.testBit k=true \/BIG<=q i k)) \/
   (r.2.1=true/\ i≠k/\ u.testBit i=false/\ u.testBit k=false/\ q i k<BIG/\ ∃w,r.1=prc (q i k+w)/\ Ct.IsG n s q BIG (i+1) (u|||2^i|||2^k).testBit w/\ (u|||2^i|||2^k)<2^n/\ Cc (n+(n-i)) (q i k+w))):=by
 have J:=hS.le;have M:w64 ((i:Int)+1)=((i+1:Nat):Int):=jah (by omega);obtain⟨row,l,m⟩:=hC.qe i hi;have p:=ya9 J C;unfold zq26;refine .call (P:=fun v=>(v=true/\ (i=k \/u.testBit i=true \/u.testBit k=true \/BIG<=q i k)) \/(v=false/\ i≠k/\ u.testBit i=false/\ u.testBit k=false/\ q i k<BIG)) ?_ fun v L=>?_
 ·refine .ite (fun y=>.ok (.inl ⟨rfl,.inl (by have:=beq_iff_eq.1 y;omega)⟩)) fun y=>.chk (by omega) ?_;have g:i≠k:=fun h=>by subst h;simp at y
  rw[ya3 p (by omega)];by_cases hb:u.testBit i=true
  ·rw[if_pos hb];exact .ite (fun _=>.ok (.inl ⟨rfl,.inr (.inl hb)⟩)) fun h=>by simp at h
  ·rw[if_neg hb];refine .ite (fun h=>by simp at h) fun _=>.chk (by omega) ?_;rw[ya3 p (by omega)];by_cases b:u.testBit k=true
   ·rw[if_pos b];exact .ite (fun _=>.ok (.inl ⟨rfl,.inr (.inr (.inl b))⟩)) fun h=>by simp at h
   ·rw[if_neg b];refine .ite (fun h=>by simp at h) fun _=>.eq (ixs l) (.eq (ixs (m k j g)) (.ok ?_));by_cases K:BIG<=q i k
    ·refine .inl ⟨?_,.inr (.inr (.inr K))⟩;rw[decide_eq_true_eq];unfold prc BIG at*;dsimp only;omega
    ·refine .inr ⟨?_,g,by simpa using hb,by simpa using b,by omega⟩;rw[decide_eq_false_iff_not];have:=hS.q1 i k hi j;unfold prc BIG at*;dsimp only;omega
 ·rcases L with⟨rfl,h⟩|⟨rfl,z,G,H,I⟩
  ·exact .ok ⟨A,.inl ⟨rfl,h⟩⟩
  ·obtain⟨N,O⟩:=ycl (u:=u) (by omega:n<=12) C hi;obtain⟨Q,D⟩:=ycl (u:=u|||2^i) (by omega:n<=12) O j;simp only[Bool.false_eq_true,if_false];rw[N,Q,M];refine .eq (ixs l) (.eq (ixs (m k j z)) (.chk (by omega) (.chk (by omega) (.call (o a _ A D) fun U ⟨⟨w,R,S,T⟩,x⟩=>?_))));rw[R];obtain⟨E,F⟩:=yhj (yrx (hS.q1 i k hi j)) T (by omega);exact .eq E (.ok ⟨x,.inr ⟨rfl,z,G,H,I,w,rfl,S,D,yhv F (by omega)⟩⟩)
theorem yua(hS:Cst n s q){P:Nat->Bool}:∀m,m<=n->Cc m (Ct.sgl s P m):=by
 intro m
 induction m with
 |zero=>intro _;exact yxf 0
 |succ m b=>
  intro e;have a:=b (by omega);unfold Ct.sgl;cases hP:P m
  ·exact(yhj a (yrx (hS.s1 m (by omega))) (by have:=hS.le;omega)).2
  ·exact yhv a (by omega)
theorem ynp(hS:Cst n s q)(hC:CuP n s q ps sg pr):∀(m N i:Nat)(e:List ((Int×Int)×price))(u:Nat),m+i=n->m<N->MmP n s q e->u<2^n->
  Tot (yew N ⟨ps,sg,pr,e⟩ (i:Int) (u:Int)) fun r=>(∃v,r.1=prc v/\ Ct.IsG n s q BIG i u.testBit v/\ Cc (n+(n-i)) v)/\ MmP n s q r.2
 |m,0,i,e,u,_,hN,_,_=>by omega
 |m,N+1,i,e,u,hm,hN,y,E=>by
  have hn:=hS.le;have aa:=hC.pl;have ab:=hC.sl;have R:=ya9 hn E;show Tot (ydv (yew N) ⟨ps,sg,pr,e⟩ (i:Int) (u:Int)) _;unfold ydv;dsimp only
  refine .eq rfl (.ite (fun K=>.ok ⟨y i u (by omega) K,y⟩) fun _=>?_);refine .call (P:=fun o=>MmP n s q o.1/\ ∃v,(⟨o.2.1,o.2.2⟩:price)=prc v/\ Ct.IsG n s q BIG i u.testBit v/\ Cc (n+(n-i)) v) ?_ fun⟨v8,v9,S⟩ ⟨Q,v,A,C,D⟩=>.ok ⟨⟨v,A,C,D⟩,by rw[A];exact yws Q C D⟩;cases m with
  |zero=>
   have M:i=n:=by omega
   subst M;have hb:((i:Int)==(ps.length:Int))=true:=by simp;omega
   simp only[hb,if_true];refine .call (P:=fun o=>(⟨o.1,o.2⟩:price)=prc (Ct.sgl s u.testBit i)) ?_ fun⟨v8,v9⟩ p=>.ok ⟨y,_,p,Ct.isG_end,yhv (yua hS i (Nat.le_refl _)) (by omega)⟩;refine .iter (fun m (a:Int×Int×Int)=>∃j:Nat,a.1=(j:Int)/\ m+j=i/\ (⟨a.2.1,a.2.2⟩:price)=prc (Ct.sgl s u.testBit j)) (n:=i) ⟨0,rfl,rfl,by unfold Ct.sgl;exact ytg.symm⟩ ?_;rintro m ⟨v3,v4,v5⟩ ⟨j,z,hj,g⟩;simp only at z g;subst z;unfold yj2;dsimp only
   refine .iteP (fun hc=>?_) (fun hc=>.dn ?_)
   ·refine .call (P:=fun o=>(⟨o.1,o.2⟩:price)=prc (Ct.sgl s u.testBit (j+1))) (.eq (ixs (hC.se j (by omega))) (.chk (by omega) ?_)) fun⟨v6,v7⟩ p=>.nx ⟨m-1,by omega,j+1,jah (by omega),by omega,p⟩;rw[ya3 R (by omega)];unfold Ct.sgl;have K:=yua hS (P:=u.testBit) j (by omega);cases hb:u.testBit j
    ·simp only[Bool.false_eq_true,if_false,g];exact .ite (fun _=>.eq (yhj K (yrx (hS.s1 j (by omega))) (by omega)).1 (.ok rfl)) fun h=>by simp at h
    ·simp only[if_true];exact .ite (fun h=>by simp at h) fun _=>.ok g
   ·have:j=i:=by omega
    subst this;exact g
  |succ m=>
   have hi:i<n:=by omega
   have hb:((i:Int)==(ps.length:Int))=false:=by simp;omega
   have hw:w64 ((i:Int)+1)=((i+1:Nat):Int):=jah (by omega);simp only[hb,Bool.false_eq_true,if_false];rw[hw];have F:∀e (u:Nat),MmP n s q e->u<2^n->Tot (yew N ⟨ps,sg,pr,e⟩ ((i+1:Nat):Int) (u:Int)) fun r=>(∃v,r.1=prc v/\ Ct.IsG n s q BIG (i+1) u.testBit v/\ Cc (n+(n-(i+1))) v)/\ MmP n s q r.2:=
    fun e u y E=>ynp hS hC m N (i+1) e u (by omega) (by omega) y E
   refine .call (F e u y E) fun r3 ⟨⟨v0,V,W,X⟩,L⟩=>?_;refine .call (P:=fun o=>MmP n s q o.1/\ ∃v,(⟨o.2.1,o.2.2⟩:price)=prc v/\ Ct.IsG n s q BIG i u.testBit v/\ Cc (n+(n-i)) v) ?_ fun⟨aj,ak,am⟩ p=>.ok p;refine .iter (fun m (a:Int×(List ((Int×Int)×price))×Int×Int)=>∃j:Nat,a.1=(j:Int)/\ m+j=n/\ MmP n s q a.2.1/\ ∃v,(⟨a.2.2.1,a.2.2.2⟩:price)=prc v/\ Ct.IsK n s q BIG i j u.testBit v/\ Cc (n+(n-i)) v) (n:=n) ⟨0,rfl,rfl,L,v0,V,Ct.isK_zero W,yhv X (by omega)⟩ ?_;rintro m' ⟨S,ac,ad,ae⟩ ⟨j,z,hj,x,v,g,hK,hc⟩;simp only at z g x;subst z;unfold yj1;dsimp only
   refine .iteP (fun O=>?_) (fun O=>.dn ⟨x,v,g,?_,hc⟩)
   ·refine .call (P:=fun o=>MmP n s q o.1/\ ∃v,(⟨o.2.1,o.2.2⟩:price)=prc v/\ Ct.IsK n s q BIG i (j+1) u.testBit v/\ Cc (n+(n-i)) v) ?_ fun⟨af,ah,ai⟩ p=>.nx ⟨m'-1,by omega,j+1,jah (by omega),by omega,p.1,p.2⟩;refine .call (yud hS hC hi F x (k:=j) (by omega) E) fun r4 ⟨G,Y⟩=>?_;rcases Y with⟨I,J⟩|⟨I,J,Z,b6,b7,w,T,b9,_,H⟩
    ·refine .call (P:=fun b=>b=false) (by simp only[I,Bool.false_eq_true,if_false];exact .ok rfl) fun b hb=>?_;subst hb;exact .ok ⟨G,v,g,Ct.isK_skip hK J,hc⟩
    ·obtain⟨r,c1,U,_⟩:=yhi (q i j+w) v;have l:=Ct.isK_cand hK hi (by omega) J Z b6 b7 (by rw[yca];exact b9);refine .call (P:=fun b=>b=decide (r<0)) (by simp only[I,if_true];rw[g,T];exact .eq c1 (.ok rfl)) fun b hb=>?_;subst hb;refine .iteP (fun h0=>.ok ⟨G,q i j+w,T,?_,H⟩) (fun h0=>.ok ⟨G,v,g,?_,hc⟩)
     ·have:=U.1 h0;rw[Nat.min_eq_right (by omega)]at l;exact l
     ·have:¬(q i j+w<v):=fun hh=>h0 (U.2 hh);rw[Nat.min_eq_left (by omega)]at l;exact l
   ·have:j=n:=by omega
    subst this;exact Ct.isK_end hK
theorem ydn(hS:Cst n s q)(hC:CuP n s q ps sg pr){i u:Nat}{a:List ((Int×Int)×price)}(hi:i<=n)(b:MmP n s q a)(e:u<2^n):
  Tot (zq23 ⟨ps,sg,pr,a⟩ (i:Int) (u:Int)) fun r=>(∃v,r.1=prc v/\ Ct.IsG n s q BIG i u.testBit v/\ Cc (n+(n-i)) v)/\ MmP n s q r.2:=by
 unfold zq23;have:=hS.le;exact ynp hS hC (n-i) _ i a u (by omega) (by omega) b e
end
structure PlP(n:Nat)(s:Nat->Nat)(q:Nat->Nat->Nat)(ps:List (List Int))(al:List Int)(pr:List (List Int)):Prop where
 pl:ps.length=n
 se:∀k,k<n->al[k]? =some (spd (s k))
 qe:∀i,i<n->∃row,pr[i]? =some row/\ ∀k,k<n->i≠k->row[k]? =some (spd (q i k))
def eo:Option Nat->Int
 |none=> -1
 |some c=>(c:Int)
def cbB:Option Nat->Option Nat->Bool
 |_,none=>false
 |none,some _=>true
 |some a,some b=>decide (b<a)
theorem comb(r w:Option Nat):(if decide (0<=eo w)=true then if decide (eo r<0)=true then some true else some (decide (eo w<eo r))else some false)=some (cbB r w)/\ (if cbB r w=true then eo w else eo r)=eo (Ct.minO r w):=by
 cases r with
 |none=>
  cases w with
  |none=>simp[eo,cbB,Ct.minO]
  |some b=>simp[eo,cbB,Ct.minO]
 |some a=>
  cases w with
  |none=>simp[eo,cbB,Ct.minO]
  |some b=>
   have e:¬((a:Int)<0):=by omega
   have i:(0:Int)<=(b:Int):=by omega
   by_cases h:b<a
   ·have:min a b=b:=by omega
    have g:(b:Int)<(a:Int):=by omega
    simp[eo,cbB,Ct.minO,e,h,this]
   ·have:min a b=a:=by omega
    have g:¬(b:Int)<(a:Int):=by omega
    simp[eo,cbB,Ct.minO,e,h,this]
theorem yk7{c:Nat}(h:c=BIG \/(100000<=c/\ c<=103600)):(spd c<0↔BIG<=c)/\ (c<BIG->spd c=(c:Int)-100000):=by
 unfold spd;constructor
 ·by_cases hc:c<BIG
  ·rw[if_pos hc];omega
  ·rw[if_neg hc];omega
 ·intro hc;rw[if_pos hc]
def Cmp2(n fb i D:Nat):Prop:=∀j,j<n->D.testBit j=false->(fb.testBit j=true↔j<i)
def Zc(n D:Nat):Nat:=Ct.sgl (fun _=>1) D.testBit n
structure Rb(n:Nat)(s:Nat->Nat)(q:Nat->Nat->Nat)(fb D:Nat)(r:Option Nat):Prop where
 t:∀i,Cmp2 n fb i D->Ct.IsT n s q BIG i D.testBit r
 b:∀c,r=some c->c<=103600*Zc n D
def KnP(n:Nat)(s:Nat->Nat)(q:Nat->Nat->Nat)(fb:Nat)(a:List Int):Prop:=a.length=2^n/\ ∀(D:Nat) v,a[D]? =some v->v= -2 \/∃r,v=eo r/\ Rb n s q fb D r
theorem ywu{n:Nat}{s:Nat->Nat}{q:Nat->Nat->Nat}{fb:Nat}{b:List Int}(h:KnP n s q fb b){D:Nat}{r:Option Nat}(g:Rb n s q fb D r):KnP n s q fb (b.set D (eo r)):=by
 refine⟨by rw[List.length_set];exact h.1,fun E v a=>?_⟩;rw[List.getElem?_set]at a;split at a
 ·rename_i e;subst e;split at a
  ·cases a;exact .inr ⟨r,rfl,g⟩
  ·cases a
 ·exact h.2 E v a
theorem ywi{n D a:Nat}(b:a<n)(h:D.testBit a=false):Zc n D=Zc n (D|||2^a)+1:=by
 unfold Zc;rw[Ct.sgl_add1 h,ynq,if_pos b]
theorem ywj(n D:Nat):Zc n D<=n:=by
 unfold Zc
 induction n with
 |zero=>exact Nat.le_refl _
 |succ n a=>unfold Ct.sgl;split<;>omega
theorem ybq{D a j:Nat}:(D|||2^a).testBit j=(D.testBit j||j==a):=by rw[Nat.testBit_or,Nat.testBit_two_pow,ynn]
theorem yq3{n fb i D a:Nat}(h:Cmp2 n fb i D):Cmp2 n fb i (D|||2^a):=fun j b hD=>h j b (by rw[ybq,Bool.or_eq_false_iff]at hD;exact hD.1)
theorem ynj{n D:Nat}(hD:D<2^n):D=2^n-1↔∀j,j<n->D.testBit j=true:=by
 constructor
 ·rintro rfl j a;rw[Nat.testBit_two_pow_sub_one];simpa using a
 ·intro h;refine Nat.eq_of_testBit_eq fun j=>?_;rw[Nat.testBit_two_pow_sub_one];by_cases a:j<n
  ·rw[h j a];simp[a]
  ·rw[Nat.testBit_lt_two_pow (Nat.lt_of_lt_of_le hD (Nat.pow_le_pow_right (by omega) (by omega)))];simp[a]
section
variable{n:Nat}{s:Nat->Nat}{q:Nat->Nat->Nat}{ps:List (List Int)}{al:List Int}{pr:List (List Int)}
theorem yhx(hS:Cst n s q)(hP:PlP n s q ps al pr){fb D i k:Nat}(F:fb<2^n)(hD:D<2^n)(hi:i<n)(C:k<n)(G:i≠k)(J:D.testBit i=false)(K:D.testBit k=false){g:l13Plan->Int->Option (Int×(List Int))}
  (A:∀l,KnP n s q fb l->Tot (g ⟨ps,al,pr,(fb:Int),l⟩ ((D|||2^i|||2^k:Nat):Int)) fun o=>(∃r,o.1=eo r/\ Rb n s q fb (D|||2^i|||2^k) r)/\ KnP n s q fb o.2) {l:List Int} (p:KnP n s q fb l):
  Tot (zq89 g ⟨ps,al,pr,(fb:Int),l⟩ (D:Int) (i:Int) (k:Int)) fun o=>KnP n s q fb o.2/\ ((o.1=eo none/\ (fb.testBit i=true \/BIG<=q i k)) \/
   (fb.testBit i=false/\ q i k<BIG/\ ∃w,Rb n s q fb (D|||2^i|||2^k) w/\ o.1=eo (w.map (q i k+ ·)))):=by
 have L:=hS.le;obtain⟨row,z,e⟩:=hP.qe i hi;have e:=e k C G;have j:=yk7 (hS.q1 i k hi C);unfold zq89;dsimp only
 rw[yai (a:=i) (by omega),yai (a:=k) (by omega)];refine .chk (by omega) (.call (P:=fun v=>(v=true/\ (fb.testBit i=true \/BIG<=q i k)) \/(v=false/\ fb.testBit i=false/\ q i k<BIG)) ?_ fun v N=>?_)
 ·rw[ya3 (ya9 L F) (by omega)];by_cases hb:fb.testBit i=true
  ·rw[if_pos hb];exact .ite (fun _=>.ok (.inl ⟨rfl,.inl hb⟩)) fun h=>by simp at h
  ·rw[if_neg hb];refine .ite (fun h=>by simp at h) fun _=>.eq (ixs z) (.eq (ixs e) (.ok ?_));by_cases y:BIG<=q i k
   ·exact .inl ⟨decide_eq_true (j.1.2 y),.inr y⟩
   ·exact .inr ⟨decide_eq_false fun h=>y (j.1.1 h),by simpa using hb,by omega⟩
 ·rcases N with⟨rfl,h⟩|⟨rfl,I,E⟩
  ·exact .ok ⟨p,.inl ⟨rfl,h⟩⟩
  ·obtain⟨O,Q⟩:=ycl (u:=D) (by omega:n<=12) hD hi;obtain⟨R,U⟩:=ycl (u:=D|||2^i) (by omega:n<=12) Q C;simp only[Bool.false_eq_true,if_false];rw[O,R];refine .chk (by omega) (.chk (by omega) (.call (A l p) fun r ⟨⟨w,S,H⟩,m⟩=>?_));rw[S];cases w with
   |none=>exact .iteP (fun _=>.ok ⟨m,.inr ⟨I,E,none,H,rfl⟩⟩) fun h=>absurd (show eo none<0 by decide) h
   |some c=>
    have hc:=H.b c rfl;have T:=ywj n (D|||2^i|||2^k);have y:=hS.q1 i k hi C;refine .iteP (fun h=>by simp only[eo]at h;omega) fun _=>.eq (ixs z) (.eq (ixs e) (.ok ⟨m,.inr ⟨I,E,some c,H,?_⟩⟩));rw[j.2 E];show w64 (w64 (100000+((q i k:Int)-100000))+(c:Int))=((q i k+c:Nat):Int);have M:q i k<=103600:=by rcases y with h|h<;>omega
    rw[jak (x:=100000+((q i k:Int)-100000)) (by omega),jak (by omega)];omega
def AtK(a K:Nat)(p:Nat×Nat):Prop:=(p.1=a/\ a<p.2/\ p.2<K) \/(p.2=a/\ a<p.1/\ p.1<K)
def AtC(a K:Nat)(m:List (Nat×Nat)):Prop:=∀p∈m,p.1=a \/p.2=a->AtK a K p
theorem yhs(hS:Cst n s q)(hP:PlP n s q ps al pr){fb:Nat}(L:fb<2^n):∀(m N:Nat)(H:List Int)(D:Nat),Zc n D=m->m<N->KnP n s q fb H->D<2^n->
  Tot (yer N ⟨ps,al,pr,(fb:Int),H⟩ (D:Int)) fun o=>(∃r,o.1=eo r/\ Rb n s q fb D r)/\ KnP n s q fb o.2
 |m,0,H,D,_,hN,_,_=>by omega
 |m,N+1,H,D,hm,hN,A,hD=>by
  have hn:=hS.le;have ak:=hP.pl;have ab:=ya9 hn hD;have aG:0<2^n:=Nat.two_pow_pos n;have aE:2^n<=256:=(Nat.pow_le_pow_right (by omega) hn:2^n<=2^8);show Tot (ydo (yer N) ⟨ps,al,pr,(fb:Int),H⟩ (D:Int)) _;unfold ydo;dsimp only
  rw[ak,yai (a:=n) (by omega),yij (by omega),jak (x:=((2^n:Nat):Int)-1) (by omega)];refine .chk (by omega) (.ite (fun he=>?_) fun he=>?_)
  ·have hf:D=2^n-1:=by have:=beq_iff_eq.1 he;omega
   exact .ok ⟨⟨some 0,rfl,fun i _=>Ct.isT_done ((ynj hD).1 hf),fun c hc=>by cases hc;omega⟩,A⟩
  ·obtain⟨v0,Y⟩:=jaj (l:=H) (i:=D) (by rw[A.1];exact hD);refine .eq (ixs Y) (.ite (fun h2=>.eq (ixs Y) (.ok ⟨(A.2 D v0 Y).resolve_left fun e=>by rw[e]at h2;simp at h2,A⟩)) fun _=>?_);have ax:∃a,a<n/\ D.testBit a=false:=by
    refine Classical.byContradiction fun hc=>?_;have:D=2^n-1:=(ynj hD).2 fun j hj=>by
     cases hb:D.testBit j
     ·exact absurd ⟨j,hj,hb⟩ hc
     ·rfl
    rw[this]at he;have S:(((2^n-1:Nat):Int)==((2^n:Nat):Int)-1)=true:=beq_iff_eq.2 (by omega);rw[S]at he;cases he
   obtain⟨a0,aH,T⟩:=ax;refine .call (P:=fun v=>∃a:Nat,v=(a:Int)/\ a<n/\ D.testBit a=false/\ ∀j,j<a->D.testBit j=true) ?_ ?_
   ·refine .iter (fun m v=>∃j:Nat,v=(j:Int)/\ m+j=n/\ j<=a0/\ ∀i,i<j->D.testBit i=true) (n:=n) ⟨0,rfl,rfl,by omega,fun i h=>by omega⟩ ?_;rintro m' v ⟨j,rfl,hj,aJ,ah⟩;unfold yi7;dsimp only
    rw[yai (a:=j) (by omega),ya3 ab (by omega)];refine .chk (by omega) ?_;by_cases hb:D.testBit j=true
    ·rw[if_pos hb];have aA:j≠a0:=fun e=>by subst e;rw[T]at hb;cases hb
     refine .ite (fun _=>.nx ⟨m'-1,by omega,j+1,jah (by omega),by omega,by omega,fun i hi=>?_⟩) fun h=>by simp at h
     by_cases e:i=j
     ·subst e;exact hb
     ·exact ah i (by omega)
    ·rw[if_neg hb];exact .ite (fun h=>by simp at h) fun _=>.dn ⟨j,rfl,by omega,by simpa using hb,ah⟩
   rintro _ ⟨a,rfl,E,C,af⟩;have ap:=hS.s1 a E;have X:=yk7 ap;obtain⟨o1,o2⟩:=ycl (u:=D) (by omega:n<=12) hD E;have aD:=ywi E C;have aL:=ywj n D;rw[yai (a:=a) (by omega)];refine .call (P:=fun o=>KnP n s q fb o.2/\ ∃r,o.1=eo r/\ (∀i,Cmp2 n fb i D->Ct.IsC n s q BIG i D.testBit (AtC a (a+1)) r)/\ ∀c,r=some c->c<=103600*Zc n D) ?_ ?_
   ·have ad:∀m,Ct.Alone a m↔AtC a (a+1) m:=fun m=>by
     unfold Ct.Alone AtC;rw[Ct.mem_flt];constructor
     ·intro h p F e;exact absurd ⟨p,F,by rcases e with e|e;exact .inl e.symm;exact .inr e.symm⟩ h
     ·rintro h ⟨p,F,e⟩;have:=h p F (by rcases e with e|e;exact .inl e.symm;exact .inr e.symm);unfold AtK at this;omega
    refine .eq (ixs (hP.se a E)) (.iteP (fun h0=>.chk (by omega) ?_) fun h0=>.ok ⟨A,none,rfl,fun i hc=>?_,fun c h=>by cases h⟩)
    ·have M:s a<BIG:=by
      rcases Nat.lt_or_ge (s a) BIG with h|h
      ·exact h
      ·have:=X.1.2 h;omega
     rw[o1];refine .call (yhs hS hP L (Zc n (D|||2^a)) N H (D|||2^a) rfl (by omega) A o2) fun r ⟨⟨w,w1,w2⟩,ai⟩=>?_;have hC:∀i,Cmp2 n fb i D->Ct.IsC n s q BIG i D.testBit (AtC a (a+1)) (w.map (s a+ ·)):=fun i hc=>by
      have:=Ct.isC_alone (i:=i) E C (w:=w) (by rw[ynq];exact w2.t i (yq3 hc));rw[if_pos M]at this;exact this.congr fun m _=>ad m
     rw[w1];cases w with
     |none=>exact .iteP (fun h=>absurd h (by decide)) fun _=>.ok ⟨ai,none,rfl,hC,fun c h=>by cases h⟩
     |some c=>
      have aI:=w2.b c rfl;refine .iteP (fun h=>.eq (ixs (hP.se a E)) (.ok ⟨ai,some (s a+c),?_,hC,fun c' e=>by cases e;rw[aD];omega⟩)) fun h=>absurd (show(0:Int)<=(c:Int)by omega) h;rw[X.2 M];show w64 (w64 (100000+((s a:Int)-100000))+(c:Int))=((s a+c:Nat):Int);rw[jak (x:=100000+((s a:Int)-100000)) (by omega),jak (by omega)];omega
    ·have M:¬s a<BIG:=fun h=>h0 (by rw[X.2 h];rcases ap with e|e<;>omega)
     have hx:Ct.IsC n s q BIG i D.testBit (Ct.Alone a) none:=⟨fun c e=>(by cases e),fun m _ hA hF=>absurd (hF a E (by
      unfold Ct.inM;rw[C,Bool.false_or,Bool.eq_false_iff];exact fun h=>hA (List.contains_iff_mem.1 h))) M⟩
     exact hx.congr fun m _=>ad m
   ·rintro⟨k,v⟩ ⟨aj,r0,e0,aB,T⟩;dsimp only
    have aC:w64 ((a:Int)+1)=((a+1:Nat):Int):=jah (by omega);rw[aC];have aq:∀k,k<n->a≠k->D.testBit k=false->∀H,KnP n s q fb H->Tot (yer N ⟨ps,al,pr,(fb:Int),H⟩ ((D|||2^a|||2^k:Nat):Int)) fun o=>(∃r,o.1=eo r/\ Rb n s q fb (D|||2^a|||2^k) r)/\ KnP n s q fb o.2:=fun k hk au ar H A=>by
     obtain⟨_,o4⟩:=ycl (u:=D|||2^a) (by omega:n<=12) o2 hk;have aK:=ywi (D:=D|||2^a) hk (by rw[ybq,ar];simp[au.symm]);exact yhs hS hP L (Zc n (D|||2^a|||2^k)) N H _ rfl (by omega) A o4
    have swap:∀k,D|||2^k|||2^a=D|||2^a|||2^k:=fun k=>by rw[Nat.or_assoc,Nat.or_comm (2^k),<-Nat.or_assoc]
    refine .call (P:=fun o=>KnP n s q fb o.2/\ ∃r,o.1=eo r/\ Rb n s q fb D r) ?_ ?_
    ·refine .iter (fun m (x:Int×Int×List Int)=>∃j:Nat,x.2.1=(j:Int)/\ m+j=n/\ a<j/\ KnP n s q fb x.2.2/\ ∃r,x.1=eo r/\ (∀i,Cmp2 n fb i D->Ct.IsC n s q BIG i D.testBit (AtC a j) r)/\ ∀c,r=some c->c<=103600*Zc n D) (n:=n-(a+1)) ⟨a+1,rfl,by omega,by omega,aj,r0,e0,aB,T⟩ ?_;rintro m' ⟨k1,v1,v2⟩ ⟨j,e1,hj,ac,G,r,S,hr,K⟩;simp only at e1 S G;subst e1;unfold yi6;dsimp only
     rw[ak];refine .iteP (fun ay=>?_) (fun ay=>.dn ⟨G,r,S,fun i hc=>?_,K⟩)
     ·refine .call (P:=fun o=>KnP n s q fb o.2/\ ∃r,o.1=eo r/\ (∀i,Cmp2 n fb i D->Ct.IsC n s q BIG i D.testBit (AtC a (j+1)) r)/\ ∀c,r=some c->c<=103600*Zc n D) ?_ fun⟨k2,v4⟩ ⟨g1,g2⟩=>.nx ⟨m'-1,by omega,j+1,jah (by omega),by omega,by omega,g1,g2⟩;have z:j<n:=by omega
      rw[yai (a:=j) (by omega)];refine .chk (by omega) ?_;rw[ya3 ab (by omega)];by_cases g:D.testBit j=true
      ·rw[if_pos g];refine .ite (fun _=>.ok ⟨G,r,S,fun i hc=>(hr i hc).congr fun m hm=>?_,K⟩) fun h=>by simp at h
       refine⟨fun h p F e=>?_,fun h p F e=>?_⟩
       ·have:=h p F e;unfold AtK at this ⊢;omega
       ·have:=h p F e;obtain⟨_,_,_,g4,g5,_⟩:=hm.hd p F;have n1:p.1≠j:=fun e=>by rw[e,g]at g4;cases g4
        have n2:p.2≠j:=fun e=>by rw[e,g]at g5;cases g5
        unfold AtK at this ⊢;omega
      ·rw[if_neg g];have g:D.testBit j=false:=by simpa using g
       refine .ite (fun h=>by simp at h) fun _=>?_;have aF:=ywi (D:=D|||2^a) z (by rw[ybq,g];simp;omega);have qb:∀(i k:Nat)(w:Option Nat),i<n->k<n->q i k<BIG->Rb n s q fb (D|||2^a|||2^j) w->∀c,w.map (q i k+ ·)=some c->c<=103600*Zc n D:=fun i k w hi hk hq hw c hc=>by
        cases w with
        |none=>cases hc
        |some c'=>
         cases hc;have:=hw.b c' rfl;have:=hS.q1 i k hi hk;show q i k+c'<=_;rcases this with h|h<;>omega
       have mb:∀{r w:Option Nat},(∀c,r=some c->c<=103600*Zc n D)->(∀c,w=some c->c<=103600*Zc n D)->∀c,Ct.minO r w=some c->c<=103600*Zc n D:=fun{r w} h1 h2 c hc=>by
        cases r with
        |none=>exact h2 c hc
        |some x=>
         cases w with
         |none=>exact h1 c hc
         |some y=>
          have e:=Option.some.inj hc;have:=h1 x rfl;omega
       refine .call (P:=fun o=>KnP n s q fb o.2/\ ∃r,o.1=eo r/\ (∀i,Cmp2 n fb i D->Ct.IsC n s q BIG i D.testBit (fun m=>∀p∈m,p.1=a \/p.2=a->AtK a j p \/p=(a,j)) r)/\ ∀c,r=some c->c<=103600*Zc n D) ?_ ?_
       ·refine .call (yhx hS hP L hD E z (by omega) C g (aq j z (by omega) g) G) fun r1 ⟨I,W⟩=>?_;rcases W with⟨O,b2⟩|⟨O,b2,w,Z,b4⟩
        ·obtain⟨Q,R⟩:=comb r none;rw[O,S];refine .eq Q ?_;refine .ite (fun h=>by cases r<;>cases h) fun _=>.ok ⟨I,r,rfl,fun i hc=>Ct.isC_no (hr i hc) ?_,K⟩
         rcases b2 with b2|b2
         ·exact .inl ((hc a E C).1 b2)
         ·exact .inr (.inr (.inr (.inl b2)))
        ·obtain⟨Q,R⟩:=comb r (w.map (q a j+ ·));rw[b4,S];have hC:∀i,Cmp2 n fb i D->Ct.IsC n s q BIG i D.testBit (fun m=>∀p∈m,p.1=a \/p.2=a->AtK a j p \/p=(a,j)) (Ct.minO r (w.map (q a j+ ·))):=fun i hc=>Ct.isC_add (hr i hc) (.inl rfl) (by
          rcases Nat.lt_or_ge a i with h|h
          ·have:=(hc a E C).2 h;rw[O]at this;cases this
          ·exact h) E z C g b2 (by omega) (by rw[yca];exact Z.t i (yq3 (yq3 hc)))
         have J:=mb K (qb a j w E z b2 Z);refine .eq Q (.ite (fun h=>.ok ⟨I,_,?_,hC,J⟩) fun h=>.ok ⟨I,_,?_,hC,J⟩)
         ·rw[<-R,if_pos h]
         ·rw[<-R,if_neg (by rw[h];simp)]
       ·rintro⟨k3,v3⟩ ⟨I,r3,e3,am,ae⟩;simp only at e3 I;dsimp only
        have aa:∀i (r:Option Nat),Ct.IsC n s q BIG i D.testBit (fun m=>∀p∈m,p.1=a \/p.2=a->(AtK a j p \/p=(a,j)) \/p=(j,a)) r->Ct.IsC n s q BIG i D.testBit (AtC a (j+1)) r:=fun i r h=>h.congr fun m hm=>by
         refine⟨fun h p F e=>?_,fun h p F e=>?_⟩
         ·rcases h p F e with(h|h)|h
          ·unfold AtK at h ⊢;omega
          ·subst h;exact .inl ⟨rfl,ac,Nat.lt_succ_self _⟩
          ·subst h;exact .inr ⟨rfl,ac,Nat.lt_succ_self _⟩
         ·have h:=h p F e;obtain⟨p1,p2⟩:=p;unfold AtK at h ⊢;simp only[Prod.mk.injEq]at h ⊢;omega
        refine .call (yhx hS hP L hD z E (by omega) g C (fun H A=>by rw[swap j];exact aq j z (by omega) g H A) I) fun r1 ⟨U,W⟩=>?_;rcases W with⟨O,b2⟩|⟨O,b2,w,Z,b4⟩
        ·obtain⟨Q,R⟩:=comb r3 none;rw[O,e3];refine .eq Q ?_;refine .ite (fun h=>by cases r3<;>cases h) fun _=>.ok ⟨U,r3,rfl,fun i hc=>aa i _ (Ct.isC_no (am i hc) ?_),ae⟩
         rcases b2 with b2|b2
         ·exact .inl ((hc j z g).1 b2)
         ·exact .inr (.inr (.inr (.inl b2)))
        ·obtain⟨Q,R⟩:=comb r3 (w.map (q j a+ ·));rw[b4,e3];rw[swap j]at Z;have hC:∀i,Cmp2 n fb i D->Ct.IsC n s q BIG i D.testBit (AtC a (j+1)) (Ct.minO r3 (w.map (q j a+ ·))):=fun i hc=>aa i _ (Ct.isC_add (am i hc) (.inr rfl) (by
          rcases Nat.lt_or_ge j i with h|h
          ·have:=(hc j z g).2 h;rw[O]at this;cases this
          ·exact h) z E g C b2 (by omega) (by rw[yca,swap j];exact Z.t i (yq3 (yq3 hc))))
         have J:=mb ae (qb j a w z E b2 Z);refine .eq Q (.ite (fun h=>.ok ⟨U,_,?_,hC,J⟩) fun h=>.ok ⟨U,_,?_,hC,J⟩)
         ·rw[<-R,if_pos h]
         ·rw[<-R,if_neg (by rw[h];simp)]
     ·have z:j=n:=by omega
      subst z;refine(hr i hc).congr fun m hm=>⟨fun _=>trivial,fun _ p F e=>?_⟩;obtain⟨_,g2,g3,g4,g5,_⟩:=hm.hd p F;have aA:p.1≠p.2:=fun e=>by
       obtain⟨m',_,az⟩:=hm.front F;have:=az.nd;simp[Ct.flt,e]at this
      have n1:¬p.1<a:=fun h=>by rw[af _ h]at g4;cases g4
      have n2:¬p.2<a:=fun h=>by rw[af _ h]at g5;cases g5
      unfold AtK;omega
    ·rintro⟨k4,v6⟩ ⟨V,r6,e6,ao⟩;simp only at e6 V;obtain⟨e4,aw⟩:=jaj (l:=v6) (i:=D) (by rw[V.1];exact hD);refine .eq (ixs aw) (.ok ⟨⟨r6,e6,ao⟩,?_⟩);rw[Int.toNat_natCast,e6];exact ywu V ao
theorem yht(hS:Cst n s q)(hP:PlP n s q ps al pr){fb D:Nat}{e:List Int}(a:fb<2^n)(b:KnP n s q fb e)(hD:D<2^n):Tot (zq90 ⟨ps,al,pr,(fb:Int),e⟩ (D:Int)) fun o=>(∃r,o.1=eo r/\ Rb n s q fb D r)/\ KnP n s q fb o.2:=by
 unfold zq90;have:=hS.le;have:=ywj n D;exact yhs hS hP a _ _ e D rfl (by omega) b hD
end
namespace Ct
theorem ytk{P:Nat->Prop}(h:∃x,P x):∃x,P x/\ ∀y,P y->x<=y:=by
 refine Classical.byContradiction fun hc=>?_;have:∀n x,x<=n->¬P x:=by
  intro n
  induction n with
  |zero=>
   intro x b a;exact hc ⟨x,a,fun y _=>by omega⟩
  |succ n g=>
   intro x b a;refine hc ⟨x,a,fun y e=>?_⟩;rcases Nat.lt_or_ge y x with h|h
   ·exact absurd e (g y (by omega))
   ·exact h
 obtain⟨x,b⟩:=h;exact this x x (Nat.le_refl _) b
theorem isG_ex(n:Nat)(s:Nat->Nat)(q:Nat->Nat->Nat)(B i:Nat)(P:Nat->Bool):∃v,IsG n s q B i P v:=by
 obtain⟨v,⟨m,a,b⟩,e⟩:=ytk (P:=fun v=>∃m,Mt n q B i P m/\ cm n s q P m=v) ⟨_,[],⟨fun p h=>by simp at h,by simp[flt]⟩,rfl⟩;exact⟨v,⟨m,a,b⟩,fun m g=>e _ ⟨m,g,rfl⟩⟩
theorem isG_drop{n:Nat}{s:Nat->Nat}{q:Nat->Nat->Nat}{B i:Nat}{P:Nat->Bool}{v:Nat}(h:IsG n s q B i P v)(L:∀k w,k<n->i≠k->P i=false->P k=false->q i k<B->IsG n s q B (i+1) (add2 P i k) w->q i k+w≠v):IsG n s q B (i+1) P v:=by
 obtain⟨⟨m,o,E⟩,F⟩:=h;have key:∀p∈m,p.1≠i:=fun p a e=>by
  obtain⟨N,C,j⟩:=o.front a;obtain⟨b,u⟩:=p;simp only at e;subst e;obtain⟨Q,H,x,y,z,A⟩:=o.hd _ a;simp only at H x y z A;have l:b≠u:=fun e=>by have:=j.nd;simp[flt,e]at this
  obtain⟨w,D⟩:=isG_ex n s q B (b+1) (add2 P b u);refine L u w x l y z A D ?_;have J:=j.tail;have R:=D.2 N (J.heads fun p a=>by
   have g:=J.hd p a;have:p.1≠b:=fun e=>by have:=g.2.2.2.1;simp[add2,e]at this
   omega)
  rw[ylh C,yco]at E;obtain⟨⟨O,G,K⟩,_⟩:=D;have M:=F ((b,u)::O) ((G.heads (i':=b) fun p a=>by have:=(G.hd p a).1;omega).cons (Nat.le_refl _) H x y z A l);rw[yco,K]at M;omega
 exact⟨⟨m,o.heads fun p a=>by have:=key p a;have:=(o.hd p a).1;omega,E⟩,fun m I=>F m (I.heads fun p a=>by have:=(I.hd p a).1;omega)⟩
end Ct
noncomputable def Wv(n:Nat)(s:Nat->Nat)(q:Nat->Nat->Nat)(i u:Nat):Nat:=Classical.epsilon fun v=>Ct.IsG n s q BIG i u.testBit v
theorem yk5(n:Nat)(s:Nat->Nat)(q:Nat->Nat->Nat)(i u:Nat):Ct.IsG n s q BIG i u.testBit (Wv n s q i u):=Classical.epsilon_spec (Ct.isG_ex n s q BIG i u.testBit)
theorem yha{n:Nat}{s:Nat->Nat}{q:Nat->Nat->Nat}{i u v:Nat}(h:Ct.IsG n s q BIG i u.testBit v):Wv n s q i u=v:=(yk5 n s q i u).uniq h
def okF(n:Nat)(s:Nat->Nat)(q:Nat->Nat->Nat)(i u k:Nat):Prop:=i≠k/\ u.testBit i=false/\ u.testBit k=false/\ q i k<BIG/\ q i k+Wv n s q (i+1) (u|||2^i|||2^k)=Wv n s q i u
noncomputable instance(n:Nat)(s:Nat->Nat)(q:Nat->Nat->Nat)(i u k:Nat):Decidable (okF n s q i u k):=Classical.propDecidable _
noncomputable def fk(n:Nat)(s:Nat->Nat)(q:Nat->Nat->Nat)(i u:Nat):Option Nat:=(List.range n).find? fun k=>decide (okF n s q i u k)
theorem yrn{n:Nat}{s:Nat->Nat}{q:Nat->Nat->Nat}{i u k:Nat}(b:k<n)(h:okF n s q i u k)(e:∀j,j<k->¬okF n s q i u j):fk n s q i u=some k:=by
 unfold fk;rw[List.find?_range_eq_some];exact⟨decide_eq_true h,List.mem_range.2 b,fun j a=>by simp[e j a]⟩
theorem yld{n:Nat}{s:Nat->Nat}{q:Nat->Nat->Nat}{i u:Nat}(b:∀j,j<n->¬okF n s q i u j):fk n s q i u=none:=by
 unfold fk;rw[List.find?_eq_none];intro j a;simp[b j (List.mem_range.1 a)]
theorem yix{n:Nat}{s:Nat->Nat}{q:Nat->Nat->Nat}{i u k:Nat}(h:fk n s q i u=some k):k<n/\ okF n s q i u k:=by
 unfold fk at h;have a:=List.find?_some h;have b:=List.mem_of_find?_eq_some h;exact⟨List.mem_range.1 b,of_decide_eq_true a⟩
noncomputable def stU(n:Nat)(s:Nat->Nat)(q:Nat->Nat->Nat):Nat->Nat
 |0=>0
 |i+1=>match fk n s q i (stU n s q i)with
  |some k=>stU n s q i|||2^i|||2^k
  |none=>stU n s q i
noncomputable def bh(n:Nat)(s:Nat->Nat)(q:Nat->Nat->Nat)(i:Nat):Option Nat:=fk n s q i (stU n s q i)
theorem yig{n:Nat}{s:Nat->Nat}{q:Nat->Nat->Nat}:∀i,i<=n->stU n s q i<2^n
 |0,_=>Nat.two_pow_pos n
 |i+1,h=>by
  have a:=yig (n:=n) (s:=s) (q:=q) i (by omega);unfold stU;split
  ·rename_i k b;exact Nat.or_lt_two_pow (Nat.or_lt_two_pow a (Nat.pow_lt_pow_right (by omega) (by omega))) (Nat.pow_lt_pow_right (by omega) (yix b).1)
  ·exact a
def prD(ps:List (List Int))(n:Nat)(s:Nat->Nat)(q:Nat->Nat->Nat)(b:Nat->Option Nat)(j:Nat):Option Duty:=(b j).map fun k=>⟨[ps.getD j [],ps.getD k []]⟩
def snD(ps:List (List Int))(u j:Nat):Option Duty:=if u.testBit j=true then none else some ⟨[ps.getD j []]⟩
theorem yd9{α:Type}(f:Nat->Option α)(i:Nat):(List.range (i+1)).filterMap f=(List.range i).filterMap f++(f i).toList:=by
 rw[List.range_succ,List.filterMap_append];cases h:f i<;>simp[h]
theorem ye5{α:Type}(f:Nat->Option α)(i:Nat):((List.range i).filterMap f).length<=i:=by
 have:=List.length_filterMap_le f (List.range i)
 rwa [List.length_range]at this
section
variable{n:Nat}{s:Nat->Nat}{q:Nat->Nat->Nat}{ps:List (List Int)}{sg:List price}{pr:List (List price)}
theorem yrq(hS:Cst n s q)(hC:CuP n s q ps sg pr){g:List ((Int×Int)×price)}(T:MmP n s q g):
  Tot (iter (yf2 ⟨ps,sg,pr,g⟩) ((0:Int),(0:Int),g,([]:List Duty))) fun o=>o.1=(stU n s q n:Int)/\ o.2.2=(List.range n).filterMap (prD ps n s q (bh n s q)):=by
 have hn:=hS.le;have ad:=hC.pl;refine .iter (fun m (a:Int×Int×(List ((Int×Int)×price))×(List Duty))=>∃i:Nat,a.2.1=(i:Int)/\ m+i=n/\ a.1=(stU n s q i:Int)/\ MmP n s q a.2.2.1/\ a.2.2.2=(List.range i).filterMap (prD ps n s q (bh n s q))) (n:=n) ⟨0,rfl,rfl,rfl,T,rfl⟩ ?_;rintro m ⟨u',v,v1,out⟩ ⟨i,e1,hi,M,F,E⟩;simp only at e1 M F E;subst e1;subst M;unfold yf2;dsimp only
 refine .iteP (fun W=>?_) fun W=>.dn ?_
 ·have A:i<n:=by omega
  have J:=yig (n:=n) (s:=s) (q:=q) i (by omega);refine .call (P:=fun o=>o.1=(stU n s q (i+1):Int)/\ MmP n s q o.2.1/\ o.2.2=(List.range (i+1)).filterMap (prD ps n s q (bh n s q))) ?_ fun⟨i1,v2,p1⟩ ⟨g1,g2,g3⟩=>.nx ⟨m-1,by omega,i+1,jah (by omega),by omega,g1,g2,g3⟩;refine .call (ydn hS hC (by omega) F J) fun r ⟨⟨w,w1,w2,_⟩,U⟩=>?_;have K:=yha w2;refine .call (P:=fun o=>o.1=(stU n s q (i+1):Int)/\ MmP n s q o.2.1/\ o.2.2=(List.range (i+1)).filterMap (prD ps n s q (bh n s q))) ?_ fun⟨i2,v6,p2⟩ ho=>.ok ho;refine .iter (fun m (a:Int×(List ((Int×Int)×price)))=>∃k:Nat,a.1=(k:Int)/\ m+k=n/\ MmP n s q a.2/\ ∀j,j<k->¬okF n s q i (stU n s q i) j) (n:=n) ⟨0,rfl,rfl,U,fun j h=>by omega⟩ ?_;rintro m' ⟨v3,v4⟩ ⟨k,e4,hk,z,C⟩;simp only at e4 z;subst e4;unfold yjz;dsimp only
  refine .iteP (fun V=>?_) fun V=>.dn ?_
  ·have p:k<n:=by omega
   have I:∀g (u:Nat),MmP n s q g->u<2^n->Tot (zq23 ⟨ps,sg,pr,g⟩ ((i+1:Nat):Int) (u:Int)) fun r=>(∃v,r.1=prc v/\ Ct.IsG n s q BIG (i+1) u.testBit v/\ Cc (n+(n-(i+1))) v)/\ MmP n s q r.2:=fun g u T J=>ydn hS hC (by omega) T J;refine .call (yud hS hC A I z p J) fun r1 ⟨N,b2⟩=>?_;have L:¬okF n s q i (stU n s q i) k->∀j,j<k+1->¬okF n s q i (stU n s q i) j:=fun h j hj=>by
    by_cases e:j=k
    ·subst e;exact h
    ·exact C j (by omega)
   rcases b2 with⟨O,Q⟩|⟨O,Q,b5,b6,b7,w',b8,b9,ac,ab⟩
   ·refine .call (P:=fun b=>b=false) (by simp only[O,Bool.false_eq_true,if_false];exact .ok rfl) fun b hb=>?_;subst hb;refine .nx ⟨m'-1,by omega,k+1,jah (by omega),by omega,N,L ?_⟩;rintro⟨R,D,Y,c4,_⟩;rcases Q with h|h|h|h
    ·exact R h
    ·rw[h]at D;cases D
    ·rw[h]at Y;cases Y
    ·omega
   ·have y:=yha b9;obtain⟨rr,R,_,D⟩:=yhi (q i k+w') w;refine .call (P:=fun b=>b=(rr==0)) (by simp only[O,if_true];rw[b8,w1];exact .eq R (.ok rfl)) fun b hb=>?_;subst hb;refine .ite (fun h0=>?_) fun h0=>?_
    ·have X:okF n s q i (stU n s q i) k:=⟨Q,b5,b6,b7,by rw[y,K];exact D.1 (by simpa using h0)⟩;have x:=yrn p X C;obtain⟨M,G⟩:=jaj (l:=ps) (i:=i) (by omega);obtain⟨S,H⟩:=jaj (l:=ps) (i:=k) (by omega);have aa:=ye5 (prD ps n s q (bh n s q)) i;refine .eq (ixs G) (.eq (ixs H) (.chk (by rw[E,List.length_singleton];omega) (.chk (by omega) (.chk (by omega) (.dn ?_)))));obtain⟨_,o2⟩:=ycl (u:=2^i) (by omega:n<=12) (Nat.pow_lt_pow_right (by omega) A) p;refine⟨?_,N,?_⟩
     ·simp only
      rw[yij (a:=i) (by omega),(ycl (u:=2^i) (by omega:n<=12) (Nat.pow_lt_pow_right (by omega) A) p).1,or64 (ya9 hn J) (ya9 hn o2),<-Nat.or_assoc];show _=((stU n s q (i+1):Nat):Int);rw[stU,x]
     ·simp only
      rw[E,yd9];have:prD ps n s q (bh n s q) i=some ⟨[M,S]⟩:=by
       unfold prD bh;rw[x];simp only[Option.map_some,List.getD_eq_getElem?_getD,G,H,Option.getD_some]
      rw[this];rfl
    ·refine .nx ⟨m'-1,by omega,k+1,jah (by omega),by omega,N,L ?_⟩;rintro⟨_,_,_,_,Z⟩;rw[y,K]at Z;have:=D.2 Z;subst this;simp at h0
  ·have p:k=n:=by omega
   subst p;have x:=yld C;refine⟨?_,z,?_⟩
   ·simp only
    rw[stU,x]
   ·simp only
    rw[E,yd9];have:prD ps k s q (bh k s q) i=none:=by
     unfold prD bh;rw[x];rfl
    rw[this];simp
 ·have:i=n:=by omega
  subst this;exact⟨rfl,E⟩
theorem yoa(y:n<=8)(z:ps.length=n){g:List ((Int×Int)×price)}{u:Nat}(A:u<2^n){out:List Duty}(x:out.length<=8):
  iter (yf1 ⟨ps,sg,pr,g⟩ (u:Int)) ((0:Int),out)=some (out++(List.range n).filterMap (snD ps u)):=by
 refine Tot.val (.iter (fun m (a:Int×List Duty)=>∃j:Nat,a.1=(j:Int)/\ m+j=n/\ a.2=out++(List.range j).filterMap (snD ps u)) (n:=n) ⟨0,rfl,rfl,by simp⟩ ?_);rintro m ⟨E,D⟩ ⟨j,p,C,b⟩;simp only at p b;subst p;unfold yf1;dsimp only
 refine .iteP (fun k=>?_) fun k=>.dn ?_
 ·obtain⟨e,v⟩:=jaj (l:=ps) (i:=j) (by omega);have w:=ye5 (snD ps u) j;refine .call (P:=fun o=>o=out++(List.range (j+1)).filterMap (snD ps u)) (.eq (ixs v) (.chk (by omega) ?_)) fun o x=>.nx ⟨m-1,by omega,j+1,jah (by omega),by omega,x⟩;rw[ya3 (ya9 y A) (by omega),yd9];by_cases hb:u.testBit j=true
  ·rw[if_pos hb];exact .ite (fun h=>by simp at h) fun _=>.ok (by rw[b];unfold snD;rw[if_pos hb];simp)
  ·rw[if_neg hb];refine .ite (fun _=>.chk (by rw[b,List.length_append,List.length_singleton];omega) (.ok ?_)) fun h=>by simp at h
   rw[b];unfold snD;rw[if_neg hb];simp[List.getD_eq_getElem?_getD,v]
 ·have:j=n:=by omega
  subst this;exact b
end
theorem g_t2{n:Nat}{s:Nat->Nat}{q:Nat->Nat->Nat}(hS:Cst n s q){i v:Nat}{P:Nat->Bool}{r:Option Nat}(g:Ct.IsG n s q BIG i P v)(l:Ct.IsT n s q BIG i P r):(v<BIG->r=some v)/\ (BIG<=v->r=none):=by
 have m:=hS.le;refine Ct.g_t (C:=103600) g l (fun k j h=>?_) (fun a b e hb h=>?_) ?_
 ·have:=hS.s1 k j;omega
 ·have:=hS.q1 a b e hb;omega
 ·unfold BIG;omega
theorem ytq{n:Nat}{s:Nat->Nat}{q:Nat->Nat->Nat}{B i v:Nat}{P:Nat->Bool}(h:Ct.IsG n s q B i P v)(hP:P i=true):Ct.IsG n s q B (i+1) P v:=
 Ct.isG_drop h fun k w _ _ a=>by rw[hP]at a;cases a
section
variable{n:Nat}{s:Nat->Nat}{q:Nat->Nat->Nat}{ps:List (List Int)}{al:List Int}{pr:List (List Int)}
theorem yhh(F:n<=8)(k:ps.length=n){A:Int}{G:List Int}{fb:Nat}:Tot (zq91 ⟨ps,al,pr,A,G⟩ (fb:Int)) fun x=>∃y,x=⟨ps,al,pr,(fb:Int),y⟩/\ KnP n s q fb y:=by
 have C:0<2^n:=Nat.two_pow_pos n;have w:2^n<=256:=(Nat.pow_le_pow_right (by omega) F:2^n<=2^8);unfold zq91;dsimp only
 rw[k,yai (a:=n) (by omega),yij (by omega),Int.toNat_natCast];refine .chk (by omega) (.chk (by omega) ?_);refine .iter (fun m (a:Int×List Int)=>∃j:Nat,a.1=(j:Int)/\ m+j=2^n/\ a.2.length=2^n/\ ∀i,i<j->a.2[i]? =some (-2)) (n:=2^n) ⟨0,rfl,by omega,by simp,fun i h=>by omega⟩ ?_;rintro m ⟨v,z⟩ ⟨j,u,H,b,p⟩;simp only at u b p;subst u;unfold yi4;dsimp only
 refine .iteP (fun g=>?_) fun g=>.dn ⟨z,rfl,b,fun D v o=>.inl ?_⟩
 ·obtain⟨e,E⟩:=jaj (l:=z) (i:=j) (by omega);refine .eq (ixs E) (.nx ⟨m-1,by omega,j+1,jah (by omega),by omega,by simp only;rw[List.length_set];exact b,fun i hi=>?_⟩);simp only
  rw[Int.toNat_natCast,List.getElem?_set];by_cases e:j=i
  ·subst e;simp;omega
  ·rw[if_neg e];exact p i (by omega)
 ·have:=ja7 o;rw[p D (by omega)]at o;cases o;rfl
noncomputable def bhI(n:Nat)(s:Nat->Nat)(q:Nat->Nat->Nat)(i:Nat):Int:=(((bh n s q i).getD n:Nat):Int)
noncomputable def bhL(n:Nat)(s:Nat->Nat)(q:Nat->Nat->Nat)(i:Nat):List Int:=(List.range i).map (bhI n s q)++List.replicate (n-i) (n:Int)
theorem yno{i:Nat}(hi:i<n):(bhL n s q i)[i]? =some (n:Int):=by
 unfold bhL;rw[List.getElem?_append_right (by simp)];simp only[List.length_map,List.length_range,Nat.sub_self];rw[List.getElem?_replicate,if_pos (by omega)]
theorem ylj{i:Nat}(hi:i<=n):(bhL n s q i).length=n:=by unfold bhL;simp;omega
theorem yb8{i:Nat}(hi:i<n):bhL n s q (i+1)=(bhL n s q i).set i (bhI n s q i):=by
 unfold bhL;rw[List.set_append_right _ _ (by simp)];simp only[List.length_map,List.length_range,Nat.sub_self];obtain⟨c,hc⟩:∃c,n-i=c+1:=⟨n-i-1,by omega⟩;have a:n-(i+1)=c:=by omega
 rw[hc,a,List.replicate_succ,List.set_cons_zero,List.range_succ,List.map_append,List.append_assoc];rfl
theorem yr0(hS:Cst n s q)(hP:PlP n s q ps al pr){f0:Int}{k0:List Int}(hW:Wv n s q 0 0<BIG):Tot (zq88 ⟨ps,al,pr,f0,k0⟩) fun o=>o.1=bhL n s q n/\ o.2.pieces_=ps:=by
 have hn:=hS.le;have E:=hP.pl;have S:0<2^n:=Nat.two_pow_pos n;unfold zq88;dsimp only
 rw[E];refine .chk (by omega) (.call (yhh (s:=s) (q:=q) (fb:=0) hn E) fun x ⟨kn,hx,y⟩=>?_);subst hx;dsimp only
 refine .call (yht hS hP (D:=0) S y S) fun r1 ⟨⟨r,e1,hr⟩,aq⟩=>?_;have ac:Cmp2 n 0 0 0:=fun j _ _=>by simp
 have ar:=(g_t2 hS (yk5 n s q 0 0) (hr.t 0 ac)).1 hW;subst ar;refine .call (P:=fun o=>o=List.replicate n (n:Int)) ?_ ?_
 ·rw[Int.toNat_natCast];refine .iter (fun m (a:Int×List Int)=>∃j:Nat,a.1=(j:Int)/\ m+j=n/\ j<=n/\ a.2=List.replicate j (n:Int)++List.replicate (n-j) 0) (n:=n) ⟨0,rfl,rfl,by omega,by simp⟩ ?_;rintro m ⟨v,v1⟩ ⟨j,e1,N,ay,e2⟩;simp only at e1 e2;subst e1;unfold yjc;dsimp only
  rw[E];refine .iteP (fun W=>?_) fun W=>.dn ?_
  ·obtain⟨e,he⟩:=jaj (l:=v1) (i:=j) (by rw[e2];simp;omega);refine .eq (ixs he) (.nx ⟨m-1,by omega,j+1,jah (by omega),by omega,by omega,?_⟩);simp only
   obtain⟨c,hc⟩:∃c,n-j=c+1:=⟨n-j-1,by omega⟩;have ak:n-(j+1)=c:=by omega
   rw[e2,Int.toNat_natCast,List.set_append_right _ _ (by simp),List.length_replicate,Nat.sub_self,hc,ak,List.replicate_succ (n:=c),List.set_cons_zero,List.replicate_succ' (n:=j),List.append_assoc];rfl
  ·have:j=n:=by omega
   subst this;rw[e2];simp
 rintro _ rfl;refine .call (P:=fun o=>o.1=ps/\ o.2.2.2.2.1=bhL n s q n) ?_ fun⟨aF,aG,aH,aI,d7,aJ⟩ ⟨g1,g2⟩=>.ok ⟨g2,g1⟩;refine .iter (fun m (a:Int×Int×Int×Int×(List (List Int))×(List Int)×(List (List Int))×Int×(List Int)×(List Int))=>∃i fb w:Nat,a.2.2.2.1=(i:Int)/\ m+i=n/\ a.1=(stU n s q i:Int)/\ a.2.1=(fb:Int)/\ fb<2^n/\ a.2.2.1=(w:Int)/\ Ct.IsG n s q BIG i (stU n s q i).testBit w/\ w<BIG/\ Cmp2 n fb i (stU n s q i)/\
  a.2.2.2.2.1=ps/\ a.2.2.2.2.2.1=al/\ a.2.2.2.2.2.2.1=pr/\ a.2.2.2.2.2.2.2.1=(fb:Int)/\ a.2.2.2.2.2.2.2.2.1=bhL n s q i/\ KnP n s q fb a.2.2.2.2.2.2.2.2.2) (n:=n) ⟨0,0,Wv n s q 0 0,rfl,rfl,rfl,rfl,S,e1,yk5 n s q 0 0,hW,ac,rfl,rfl,rfl,rfl,by unfold bhL;simp,aq⟩ ?_
 rintro m ⟨dn,fo,lf,k,v,v1,v2,v3,lst,v4⟩ ⟨i,fb,w,a1,a2,a3,a4,a5,a6,a7,a8,a9,I,J,K,aa,ab,Q⟩;simp only at a1 a3 a4 a6 I J K aa ab Q;subst a1;subst a3;subst a4;subst a6;replace I:=I.symm;replace J:=J.symm;replace K:=K.symm;subst I;subst J;subst K;subst aa;subst ab;unfold yja;dsimp only
 rw[E];refine .iteP (fun W=>?_) fun W=>.dn ?_
 ·have g:i<n:=by omega
  have hu:=yig (n:=n) (s:=s) (q:=q) i (by omega);have aA:=yig (n:=n) (s:=s) (q:=q) (i+1) (by omega);have F:=yha a7;refine .call (P:=fun o=>∃fb w:Nat,o.1=(stU n s q (i+1):Int)/\ o.2.1=(fb:Int)/\ fb<2^n/\ o.2.2.1=(w:Int)/\ Ct.IsG n s q BIG (i+1) (stU n s q (i+1)).testBit w/\ w<BIG/\ Cmp2 n fb (i+1) (stU n s q (i+1))/\
   o.2.2.2.1=ps/\ o.2.2.2.2.1=al/\ o.2.2.2.2.2.1=pr/\ o.2.2.2.2.2.2.1=(fb:Int)/\ o.2.2.2.2.2.2.2.1=bhL n s q (i+1)/\ KnP n s q fb o.2.2.2.2.2.2.2.2) ?_ fun⟨b1,b2,b3,b4,b5,b6,b7,b8,b9⟩ ⟨aj,w',c⟩=>.nx ⟨m-1,by omega,i+1,aj,w',jah (by omega),by omega,c⟩
  rw[yai (a:=i) (by omega),ya3 (ya9 hn hu) (by omega)];refine .chk (by omega) ?_;by_cases hb:(stU n s q i).testBit i=true
  ·rw[if_pos hb];refine .ite (fun _=>.ok ?_) fun h=>by simp at h
   have p:fk n s q i (stU n s q i)=none:=yld fun j _ ⟨_,R,_⟩=>by rw[hb]at R;cases R
   have z:stU n s q (i+1)=stU n s q i:=by rw[stU,p]
   refine⟨fb,w,by rw[z],rfl,a5,rfl,by rw[z];exact ytq a7 hb,a8,?_,rfl,rfl,rfl,rfl,?_,Q⟩
   ·rw[z];intro j N hD;have:=a9 j N hD;have ai:j≠i:=fun e=>by subst e;rw[hb]at hD;cases hD
    rw[this];omega
   ·rw[yb8 g];have:bhI n s q i=(n:Int):=by unfold bhI bh;rw[p];rfl
    rw[this];exact(jm7 (yno g)).symm
  ·rw[if_neg hb];have U:(stU n s q i).testBit i=false:=by simpa using hb
   refine .ite (fun h=>by simp at h) fun _=>?_;refine .call (P:=fun o=>KnP n s q fb o.2/\ o.1=bhL n s q (i+1)) ?_ ?_
   ·refine .iter (fun m (a:Int×List Int×List Int)=>∃k:Nat,a.1=(k:Int)/\ m+k=n/\ KnP n s q fb a.2.2/\ ((a.2.1=bhL n s q i/\ ∀j,j<k->¬okF n s q i (stU n s q i) j) \/(a.2.1=bhL n s q (i+1)/\ ∃k,fk n s q i (stU n s q i)=some k))) (n:=n) ⟨0,rfl,rfl,Q,.inl ⟨rfl,fun j h=>by omega⟩⟩ ?_;rintro m' ⟨aB,d4,aC⟩ ⟨k,e4,hk,G,hd⟩;simp only at e4 G hd;subst e4;unfold yjb;dsimp only
    rw[E];rcases hd with⟨rfl,X⟩|⟨rfl,k',ae⟩
    ·refine .call (P:=fun b=>b=decide (k<n)) (.iteP (fun h=>.eq (ixs (yno g)) (.ok (by rw[decide_eq_true (show k<n by omega)];simp))) fun h=>.ok (by rw[decide_eq_false (show¬k<n by omega)])) fun b T=>?_;subst T;refine .iteP (fun y=>?_) fun y=>.dn ⟨G,?_⟩
     ·have Y:¬okF n s q i (stU n s q i) k->∀j,j<k+1->¬okF n s q i (stU n s q i) j:=fun h j N=>by
       by_cases e:j=k
       ·subst e;exact h
       ·exact X j (by omega)
      refine .call (P:=fun o=>KnP n s q fb o.2/\ ((o.1=bhL n s q i/\ ∀j,j<k+1->¬okF n s q i (stU n s q i) j) \/(o.1=bhL n s q (i+1)/\ ∃k,fk n s q i (stU n s q i)=some k))) ?_ fun⟨d5,aD⟩ ⟨g1,g2⟩=>.nx ⟨m'-1,by omega,k+1,jah (by omega),by omega,g1,g2⟩;refine .call (P:=fun b=>(b=true/\ (k=i \/(stU n s q i).testBit k=true)) \/(b=false/\ i≠k/\ (stU n s q i).testBit k=false)) ?_ ?_
      ·refine .ite (fun h=>.ok (.inl ⟨rfl,.inl (by have:=beq_iff_eq.1 h;omega)⟩)) fun h=>?_;rw[yai (a:=k) (by omega),ya3 (ya9 hn hu) (by omega)];refine .chk (by omega) ?_;by_cases M:(stU n s q i).testBit k=true
       ·rw[if_pos M];exact .ok (.inl ⟨rfl,.inr M⟩)
       ·rw[if_neg M];exact .ok (.inr ⟨rfl,fun e=>by subst e;simp at h,by simpa using M⟩)
      rintro b (⟨rfl,h⟩|⟨rfl,h1,R⟩)
      ·refine .ok ⟨G,.inl ⟨rfl,Y ?_⟩⟩;rintro⟨c1,_,c3,_⟩;rcases h with h|h
       ·exact c1 h.symm
       ·rw[h]at c3;cases c3
      ·obtain⟨_,o2⟩:=ycl (u:=stU n s q i) (by omega:n<=12) hu g;obtain⟨_,o4⟩:=ycl (u:=stU n s q i|||2^i) (by omega:n<=12) o2 y;refine .call (yhx hS hP a5 hu g y h1 U R (fun kn y=>yht hS hP a5 y o4) G) fun r2 ⟨V,H⟩=>?_;have ao:fb.testBit i=false:=by
        cases h:fb.testBit i
        ·rfl
        ·have:=(a9 i g U).1 h;omega
       rcases H with⟨b1,b2⟩|⟨b1,b2,w2,b3,b4⟩
       ·have hq:BIG<=q i k:=by
         rcases b2 with h|h
         ·rw[ao]at h;cases h
         ·exact h
        rw[b1];refine .ite (fun h=>by have h:eo none=(w:Int):=beq_iff_eq.1 h;simp only[eo]at h;omega) fun _=>.ok ⟨V,.inl ⟨rfl,Y fun⟨_,_,_,c4,_⟩=>by omega⟩⟩
       ·have am:Cmp2 n fb (i+1) (stU n s q i|||2^i|||2^k):=fun j N hD=>by
         rw[ybq,ybq,Bool.or_eq_false_iff,Bool.or_eq_false_iff]at hD;have:=a9 j N hD.1.1;have ai:j≠i:=fun e=>by have:=hD.1.2;simp[e]at this
         rw[this];omega
        have ad:=g_t2 hS (yk5 n s q (i+1) (stU n s q i|||2^i|||2^k)) (b3.t (i+1) am);have O:r2.1=(w:Int)↔okF n s q i (stU n s q i) k:=by
         rw[b4];rcases Nat.lt_or_ge (Wv n s q (i+1) (stU n s q i|||2^i|||2^k)) BIG with h|h
         ·rw[ad.1 h];constructor
          ·intro e;refine⟨h1,U,R,b2,?_⟩;rw[F];simp only[eo,Option.map_some]at e;omega
          ·rintro⟨_,_,_,_,Z⟩;rw[F]at Z;simp only[eo,Option.map_some];omega
         ·rw[ad.2 h];constructor
          ·intro e;simp only[eo,Option.map_none]at e;omega
          ·rintro⟨_,_,_,_,Z⟩;rw[F]at Z;omega
        refine .ite (fun h=>?_) fun h=>.ok ⟨V,.inl ⟨rfl,Y fun A=>by have:=O.2 A;simp[this]at h⟩⟩;have A:=O.1 (beq_iff_eq.1 h);have p:=yrn y A X;refine .eq (ixs (yno g)) (.ok ⟨V,.inr ⟨?_,k,p⟩⟩);simp only
        rw[yb8 g,Int.toNat_natCast];have:bhI n s q i=(k:Int):=by unfold bhI bh;rw[p];rfl
        rw[this]
     ·have ah:k=n:=by omega
      subst ah;have p:=yld X;simp only
      rw[yb8 g];have:bhI k s q i=(k:Int):=by unfold bhI bh;rw[p];rfl
      rw[this];exact(jm7 (yno g)).symm
    ·have C:(bhL n s q (i+1))[i]? =some (k':Int):=by
      rw[yb8 g,List.getElem?_set_self (by rw[ylj (by omega)];exact g)];unfold bhI bh;rw[ae];rfl
     have az:=(yix ae).1;refine .call (P:=fun b=>b=false) (.iteP (fun h=>.eq (ixs C) (.ok ?_)) fun _=>.ok rfl) fun b T=>?_
     ·rw[beq_eq_false_iff_ne];omega
     ·subst T;exact .dn ⟨G,rfl⟩
   ·rintro⟨d6,aE⟩ ⟨af,e6⟩;simp only at af e6;subst e6;have C:(bhL n s q (i+1))[i]? =some (bhI n s q i):=by
     rw[yb8 g,List.getElem?_set_self (by rw[ylj (by omega)];exact g)]
    refine .eq (ixs C) ?_;cases p:fk n s q i (stU n s q i)with
    |some k=>
     have L:bhI n s q i=(k:Int):=by unfold bhI bh;rw[p];rfl
     obtain⟨y,A⟩:=yix p;obtain⟨c1,c2,c3,c4,Z⟩:=A;obtain⟨row,au,H⟩:=hP.qe i g;have H:=H k y c1;obtain⟨o1,o2⟩:=ycl (u:=stU n s q i) (by omega:n<=12) hu g;obtain⟨o3,o4⟩:=ycl (u:=stU n s q i|||2^i) (by omega:n<=12) o2 y;have z:stU n s q (i+1)=stU n s q i|||2^i|||2^k:=by rw[stU,p]
     have hq:=hS.q1 i k g y;rw[L];rw[L]at C;refine .iteP (fun _=>.eq (ixs au) (.eq (ixs C) (.eq (ixs H) (.chk (by omega) (.eq (ixs C) ?_))))) fun h=>absurd h (by omega);rw[yai (a:=k) (by omega),o1,o3,(yk7 hq).2 c4];refine .chk (by omega) (.ok ⟨fb,Wv n s q (i+1) (stU n s q i|||2^i|||2^k),by rw[z],rfl,a5,?_,by rw[z];exact yk5 _ _ _ _ _,by rw[F]at Z;omega,?_,rfl,rfl,rfl,rfl,rfl,af⟩)
     ·rw[F]at Z;have ax:BIG=107374182400000:=rfl;simp only
      rw[jak (x:=(w:Int)-100000) (by omega),jak (by rcases hq with h|h<;>omega)]
      omega
     ·rw[z];intro j N hD;rw[ybq,ybq,Bool.or_eq_false_iff,Bool.or_eq_false_iff]at hD;have:=a9 j N hD.1.1;have ai:j≠i:=fun e=>by have:=hD.1.2;simp[e]at this
      rw[this];omega
    |none=>
     have L:bhI n s q i=(n:Int):=by unfold bhI bh;rw[p];rfl
     have z:stU n s q (i+1)=stU n s q i:=by rw[stU,p]
     obtain⟨o1,o2⟩:=ycl (u:=fb) (by omega:n<=12) a5 g;rw[L];refine .iteP (fun h=>absurd h (by omega)) fun _=>.chk (by omega) ?_;rw[o1];refine .call (yhh (s:=s) (q:=q) hn E) fun x ⟨kn,hx,y⟩=>?_;subst hx;refine .ok ⟨fb|||2^i,w,by rw[z],rfl,o2,rfl,?_,a8,?_,rfl,rfl,rfl,rfl,rfl,y⟩
     ·rw[z];refine Ct.isG_drop a7 fun k w' hk ap h1 R h3 aw he=>?_;have A:okF n s q i (stU n s q i) k:=⟨ap,h1,R,h3,by rw[F,yha (by rw[<-yca];exact aw)];exact he⟩;unfold fk at p;have:=List.find?_eq_none.1 p k (List.mem_range.2 hk);simp[A]at this
     ·rw[z];intro j N hD;have:=a9 j N hD;rw[ybq,Bool.or_eq_true,this,beq_iff_eq];omega
 ·have:i=n:=by omega
  subst this;exact⟨rfl,rfl⟩
end
def ky(d:Duty):Int:=(d.Pieces.getD 0 []).getD 0 0
def ltK(x y:Duty):Bool:=decide (ky x<ky y)
def Kd(d:Duty):Prop:=∃p e,d.Pieces[0]? =some p/\ p[0]? =some e/\ ky d=e
theorem yto{p:List Int}{e:Int}{l:List (List Int)}(h:p[0]? =some e):Kd ⟨p::l⟩:=⟨p,e,rfl,h,by unfold ky;simp[List.getD_eq_getElem?_getD,h]⟩
theorem yxa(x y:Duty)(A:Kd x)(C:Kd y):∃c,zq24 x y=some c/\ decide (c<0)=ltK x y:=by
 obtain⟨p,e,v,w,z⟩:=A;obtain⟨k,e',a,b,g⟩:=C;have l:idx x.Pieces 0=some p:=ixs (i:=0) v;have m:idx p 0=some e:=ixs (i:=0) w;have o:idx y.Pieces 0=some k:=ixs (i:=0) a;have u:idx k 0=some e':=ixs (i:=0) b;unfold zq24 ltK;simp only[l,m,o,u,Option.bind_some,yef,z,g];refine⟨_,rfl,?_⟩;by_cases h:e<e'
 ·simp[h]
 ·by_cases j:e'<e
  ·simp[h,j]
  ·simp[h,j]
theorem yol(l:List Duty)(g:l.length<=12)(hU:∀x∈l,Kd x):yqj l=some (Pdq.isort ltK l):=by
 have a:yqi l 0 (l.length:Int) (fun b e=>zq24 b e)=some (Pdq.isort ltK l):=Pdq.insertion_stU (U:=Kd) (cmp:=zq24) yxa l (by omega) hU;unfold yqj ysm yqg;refine Tot.val (Tot.call (yx2 _ (by dsimp only;rw[yqt (by omega) (by omega)];omega) (by dsimp only;rw[yqt (by omega) (by omega)];omega)) fun r _=>.call (P:=fun s=>s=Pdq.isort ltK l) ?_ fun s hs=>.ok hs);refine .iter (fun m (_:Unit)=>True) (n:=0) trivial ?_;rintro m ⟨⟩ _;unfold ygb;exact .iteP (fun _=>.eq a (.dn rfl)) fun h=>absurd h (by rw[jak (by omega)];omega)
theorem yub(l:List Duty)(R:l.length<=100)(hU:∀x∈l,Kd x){d:Duty}(hd:Kd d):zq92 l d=some (Pdq.insE ltK d l):=by
 obtain⟨p,e,L,M,N⟩:=hd;have D:idx d.Pieces 0=some p:=ixs (i:=0) L;have E:idx p 0=some e:=ixs (i:=0) M;unfold zq92;refine Tot.val (.call (P:=fun v=>∃k:Nat,v=(k:Int)/\ k<=l.length/\ (∀y∈l.drop k,ltK d y=true)/\ ∀y,0<k->l[k-1]? =some y->ltK d y=false) ?_ ?_)
 ·refine .iter (fun m v=>v=(m:Int)/\ m<=l.length/\ ∀y∈l.drop m,ltK d y=true) (n:=l.length) ⟨rfl,Nat.le_refl _,by simp⟩ ?_;rintro m _ ⟨rfl,O,hP⟩;unfold yi3;refine .call (P:=fun b=>(b=true/\ 0<m/\ ∃y,l[m-1]? =some y/\ ltK d y=true) \/(b=false/\ ∀y,0<m->l[m-1]? =some y->ltK d y=false)) ?_ ?_
  ·refine .iteP (fun h=>?_) fun h=>.ok (.inr ⟨rfl,fun y h0=>by omega⟩);obtain⟨y,g⟩:=jaj (l:=l) (i:=m-1) (by omega);obtain⟨C,e',I,J,K⟩:=hU y (List.mem_of_getElem? g);have F:idx y.Pieces 0=some C:=ixs (i:=0) I;have G:idx C 0=some e':=ixs (i:=0) J;have A:w64 ((m:Int)-1)=((m-1:Nat):Int):=by rw[jak (by omega)];omega
   rw[A];refine .eq (ixs g) (.eq F (.eq G (.eq D (.eq E (.ok ?_)))));have u:ltK d y=decide (e<e'):=by unfold ltK;rw[N,K]
   by_cases a:e<e'
   ·exact .inl ⟨decide_eq_true a,by omega,y,g,by rw[u];exact decide_eq_true a⟩
   ·refine .inr ⟨decide_eq_false a,fun S _ j=>?_⟩;rw[g]at j;cases j;rw[u];exact decide_eq_false a
  ·rintro b (⟨rfl,Q,y,g,a⟩|⟨rfl,w⟩)
   ·have A:w64 ((m:Int)-1)=((m-1:Nat):Int):=by rw[jak (by omega)];omega
    refine .nx ⟨m-1,by omega,A,by omega,fun z hz=>?_⟩;have:l.drop (m-1)=y::l.drop m:=by
     have H:m-1+1=m:=by omega
     rw[List.drop_eq_getElem_cons (i:=m-1) (by omega),H,(List.getElem?_eq_some_iff.1 g).2]
    rw[this]at hz;rcases List.mem_cons.1 hz with rfl|hz
    ·exact a
    ·exact hP z hz
   ·exact .dn ⟨m,rfl,O,hP,w⟩
 ·rintro _ ⟨k,rfl,u,hP,w⟩;have:=Pdq.insE_slot (lt:=ltK) (x:=d) l.length (o:=l) (k:=k) rfl u hP w;refine .chk (by omega) (.chk (by rw[List.length_nil,List.length_drop,List.length_take];omega) (.chk (by simp;omega) (.chk (by omega) (.chk (by simp;omega) (.ok ?_)))));rw[<-this];simp
theorem yq2{α:Type}{f g h:Nat->Option α}(o:∀i,h i=match f i with|some a=>some a|none=>g i):∀{l:List Nat},(∀i∈l,f i=none \/g i=none)->(l.filterMap f++l.filterMap g).Perm (l.filterMap h)
 |[],_=>by simp
 |i::l,hd=>by
  have m:=yq2 o (l:=l) fun j p=>hd j (List.mem_cons_of_mem _ p);have e:=o i;rcases hd i (List.mem_cons_self ..)with k|hg
  ·rw[k]at e;simp only at e;cases hg:g i with
   |none=>
    rw[hg]at e;rw[List.filterMap_cons_none k,List.filterMap_cons_none hg,List.filterMap_cons_none e];exact m
   |some b=>
    rw[hg]at e;rw[List.filterMap_cons_none k,List.filterMap_cons_some hg,List.filterMap_cons_some e];exact List.perm_middle.trans (m.cons b)
  ·cases k:f i with
   |none=>
    rw[k,hg]at e;rw[List.filterMap_cons_none k,List.filterMap_cons_none hg,List.filterMap_cons_none e];exact m
   |some a=>
    rw[k]at e;rw[List.filterMap_cons_some k,List.filterMap_cons_none hg,List.filterMap_cons_some e];exact m.cons a
theorem yre{l l':List Duty}(m:l.Perm l')(o:∀x∈l,∀y∈l,ky x=ky y->x=y):Pdq.isort ltK l=Pdq.isort ltK l':=by
 have tr:∀a b c:Duty,ltK b a=false->ltK c b=false->ltK c a=false:=fun a b c g i=>by
  unfold ltK at*
  simp only[decide_eq_false_iff_not]at*;omega
 have e:∀a b:Duty,ltK a b=true->ltK b a=false:=fun a b h=>by
  unfold ltK at*
  simp only[decide_eq_false_iff_not,decide_eq_true_eq]at*;omega
 refine List.Perm.eq_of_pairwise (le:=fun a b=>ltK b a=false) (fun x y j k g i=>?_) (Pdq.isort_sorted tr e l) (Pdq.isort_sorted tr e l') ((Pdq.isort_perm l).trans (m.trans (Pdq.isort_perm l').symm));have j:=(Pdq.isort_perm l).mem_iff.1 j;have k:=m.mem_iff.2 ((Pdq.isort_perm l').mem_iff.1 k);refine o x j y k ?_;unfold ltK at g i;simp only[decide_eq_false_iff_not]at g i;omega
section
variable{n:Nat}{s:Nat->Nat}{q:Nat->Nat->Nat}{ps:List (List Int)}
theorem ya8:∀(i x:Nat),(stU n s q i).testBit x=true↔∃j k,j<i/\ bh n s q j=some k/\ (x=j \/x=k)
 |0,x=>by
  unfold stU;simp
 |i+1,x=>by
  have b:=ya8 i x;rw[stU];cases h:fk n s q i (stU n s q i)with
  |none=>
   simp only
   rw[b];constructor
   ·rintro⟨j,k,h1,a⟩;exact⟨j,k,by omega,a⟩
   ·rintro⟨j,k,h1,a,h3⟩;have:j≠i:=fun e=>by subst e;unfold bh at a;rw[h]at a;cases a
    exact⟨j,k,by omega,a,h3⟩
  |some k=>
   simp only
   rw[ybq,ybq,Bool.or_eq_true,Bool.or_eq_true,b,beq_iff_eq,beq_iff_eq];have hb:bh n s q i=some k:=h;constructor
   ·rintro((⟨j,k',h1,a⟩|h1)|h1)
    ·exact⟨j,k',by omega,a⟩
    ·exact⟨i,k,by omega,hb,.inl h1⟩
    ·exact⟨i,k,by omega,hb,.inr h1⟩
   ·rintro⟨j,k',h1,a,h3⟩;by_cases e:j=i
    ·subst e;rw[hb]at a;cases a;rcases h3 with h3|h3
     ·exact .inl (.inr h3)
     ·exact .inr h3
    ·exact .inl (.inl ⟨j,k',by omega,a,h3⟩)
noncomputable def gD(ps:List (List Int))(n:Nat)(s:Nat->Nat)(q:Nat->Nat->Nat)(i:Nat):Option Duty:=match prD ps n s q (bh n s q) i with
 |some d=>some d
 |none=>snD ps (stU n s q n) i
noncomputable def dutL(ps:List (List Int))(n:Nat)(s:Nat->Nat)(q:Nat->Nat->Nat):List Duty:=Pdq.isort ltK ((List.range n).filterMap (gD ps n s q))
structure HdP(n:Nat)(ps:List (List Int)):Prop where
 ex:∀i,i<n->∃e,(ps.getD i [])[0]? =some e
 inj:∀i j,i<n->j<n->(ps.getD i []).getD 0 0=(ps.getD j []).getD 0 0->i=j
theorem yoj(b:HdP n ps){i:Nat}{d:Duty}(hi:i<n)(h:gD ps n s q i=some d):Kd d/\ ky d=(ps.getD i []).getD 0 0:=by
 obtain⟨e,a⟩:=b.ex i hi;unfold gD prD snD at h;cases hb:bh n s q i with
 |some k=>
  rw[hb]at h;cases h;exact⟨yto a,rfl⟩
 |none=>
  rw[hb]at h;simp only[Option.map_none]at h;split at h
  ·cases h
  ·cases h;exact⟨yto a,rfl⟩
theorem ytu(b:HdP n ps){x:Duty}{m:Nat}(e:m<=n)(h:x∈(List.range m).filterMap (gD ps n s q)):∃i,i<n/\ gD ps n s q i=some x:=by
 obtain⟨i,hi,a⟩:=List.mem_filterMap.1 h;have:=List.mem_range.1 hi;exact⟨i,by omega,a⟩
theorem yq0(i:Nat)(hi:i<n):prD ps n s q (bh n s q) i=none \/snD ps (stU n s q n) i=none:=by
 cases hb:bh n s q i with
 |none=>left;unfold prD;rw[hb];rfl
 |some k=>
  right;have:=(ya8 (n:=n) (s:=s) (q:=q) n i).2 ⟨i,k,hi,hb,.inl rfl⟩;unfold snD;rw[if_pos this]
theorem yw9(hS:Cst n s q){sg:List price}{pr:List (List price)}(hC:CuP n s q ps sg pr)(k:HdP n ps){e:List ((Int×Int)×price)}(w:MmP n s q e):Tot (zq25 ⟨ps,sg,pr,e⟩) fun r=>r.1=dutL ps n s q:=by
 have A:=hS.le;unfold zq25;refine .call (yrq hS hC w) fun⟨D,F,E⟩ ⟨o,p⟩=>?_;simp only at o p;subst o;subst p;have a:=yq2 (f:=prD ps n s q (bh n s q)) (g:=snD ps (stU n s q n)) (h:=gD ps n s q) (fun i=>by unfold gD;cases prD ps n s q (bh n s q) i<;>rfl) (l:=List.range n) fun i hi=>yq0 i (List.mem_range.1 hi)
 have C:=a.length_eq;have z:=ye5 (gD ps n s q) n;refine .eq (yoa A hC.pl (yig n (Nat.le_refl _)) (by have:=ye5 (prD ps n s q (bh n s q)) n;omega)) (.eq (yol _ (by omega) fun x b=>?_) (.ok ?_))
 ·obtain⟨i,hi,b⟩:=ytu k (Nat.le_refl _) (a.mem_iff.1 b);exact(yoj k hi b).1
 ·refine yre a fun x b y m u=>?_;obtain⟨i,hi,b⟩:=ytu k (Nat.le_refl _) (a.mem_iff.1 b);obtain⟨j,v,m⟩:=ytu k (Nat.le_refl _) (a.mem_iff.1 m);rw[(yoj k hi b).2,(yoj k v m).2]at u;have:=k.inj i j hi v u;subst this;rw[b]at m;exact Option.some.inj m
theorem yw7(hn:n<=8)(aa:ps.length=n)(R:HdP n ps)(J:∀p∈ps,p.length<=4000000000){x:l13Plan}(hx:x.pieces_=ps):iter (yfe (bhL n s q n,x)) ((0:Int),([]:List Duty))=some (dutL ps n s q):=by
 have w:=ylj (n:=n) (s:=s) (q:=q) (Nat.le_refl n);have b:∀i,i<n->(bhL n s q n)[i]? =some (bhI n s q i):=fun i hi=>by
  unfold bhL;rw[List.getElem?_append_left (by simp;exact hi),List.getElem?_map,List.getElem?_range hi];rfl
 have own:∀{i:Nat},i<n->∃e,ps[i]? =some e/\ yck e=some e/\ ps.getD i []=e:=fun{i} hi=>by
  obtain⟨e,H⟩:=jaj (l:=ps) (i:=i) (by omega);refine⟨e,H,?_,by rw[List.getD_eq_getElem?_getD,H];rfl⟩;have:=J e (List.mem_of_getElem? H);unfold yck;rw[ja9 (by rw[List.length_nil];omega)];rfl
 refine Tot.val (.iter (fun m (a:Int×List Duty)=>∃i:Nat,a.1=(i:Int)/\ m+i=n/\ a.2=Pdq.isort ltK ((List.range i).filterMap (gD ps n s q))) (n:=n) ⟨0,rfl,rfl,rfl⟩ ?_);rintro m ⟨v1,O⟩ ⟨i,V,hi,A⟩;simp only at V A;subst V;unfold yfe;dsimp only
 rw[w,hx];refine .iteP (fun U=>?_) fun U=>.dn ?_
 ·have u:i<n:=by omega
  have Y:O.length<=i:=by rw[A,Pdq.isort_len];exact ye5 _ _
  have hU:∀y∈O,Kd y:=fun y N=>by
   rw[A]at N;obtain⟨j,I,N⟩:=ytu R (m:=i) (by omega) ((Pdq.isort_perm _).mem_iff.1 N);exact(yoj R I N).1
  obtain⟨e,H,L,E⟩:=own u;obtain⟨e0,F⟩:=R.ex i u;rw[E]at F;refine .call (P:=fun o=>o=Pdq.isort ltK ((List.range (i+1)).filterMap (gD ps n s q))) (.eq (ixs (b i u)) ?_) fun o Z=>.nx ⟨m-1,by omega,i+1,jah (by omega),by omega,Z⟩;rw[yd9];cases hb:bh n s q i with
  |some k=>
   have C:bhI n s q i=(k:Int):=by unfold bhI;rw[hb];rfl
   have T:=(yix (show fk n s q i (stU n s q i)=some k from hb)).1;obtain⟨e',S,M,K⟩:=own T;have v:=b i u;rw[C]at v ⊢;refine .iteP (fun _=>.eq (ixs H) (.eq L (.eq (ixs v) (.eq (ixs S) (.eq M (.eq (yub O (by omega) hU (yto F)) (.ok ?_))))))) fun h=>absurd h (by omega);have:gD ps n s q i=some ⟨[e,e']⟩:=by unfold gD prD;rw[hb];simp only[Option.map_some,E,K]
   rw[this,A];exact(Pdq.isort_snoc _ _).symm
  |none=>
   have C:bhI n s q i=(n:Int):=by unfold bhI;rw[hb];rfl
   have z:(i:Int)∈bhL n s q n↔(stU n s q n).testBit i=true:=by
    rw[ya8];constructor
    ·intro h;obtain⟨j,I⟩:=List.getElem?_of_mem h;have G:=ja7 I;rw[w]at G;rw[b j G]at I;have I:=Option.some.inj I;cases D:bh n s q j with
     |none=>
      have:bhI n s q j=(n:Int):=by unfold bhI;rw[D];rfl
      omega
     |some k=>
      have:bhI n s q j=(k:Int):=by unfold bhI;rw[D];rfl
      exact⟨j,k,G,D,.inr (by omega)⟩
    ·rintro⟨j,k,W,Q,X⟩;rcases X with rfl|rfl
     ·rw[hb]at Q;cases Q
     ·have:bhI n s q j=(i:Int):=by unfold bhI;rw[Q];rfl
      have:=b j W;rw[‹bhI n s q j=(i:Int)›]at this;exact List.mem_of_getElem? this
   rw[C];refine .iteP (fun h=>absurd h (by omega)) fun _=>.eq (yb6 _ (by omega) _) ?_;by_cases g:(stU n s q n).testBit i=true
   ·rw[decide_eq_true (z.2 g)];refine .ok ?_;have:gD ps n s q i=none:=by unfold gD prD snD;rw[hb,if_pos g];rfl
    rw[this,A];simp
   ·rw[decide_eq_false (fun h=>g (z.1 h))];refine .eq (ixs H) (.eq L (.eq (yub O (by omega) hU (yto F)) (.ok ?_)));have:gD ps n s q i=some ⟨[e]⟩:=by unfold gD prD snD;rw[hb,if_neg g];simp only[Option.map_none,E]
    rw[this,A];exact(Pdq.isort_snoc _ _).symm
 ·have:i=n:=by omega
  subst this;exact A
end
def cb(t:Timetable)(c:Nat)(e:Int):Bool:=c.testBit (tix t e).toNat
def cutB(g:Int->Bool):List Int->List Int->List (List Int)
 |_,[]=>[]
 |cur,e::l=>if l=[] \/g e=true then(cur++[e])::cutB g [] l else cutB g (cur++[e]) l
def pcs(g:Int->Bool)(B:List (List Int)):List (List Int):=B.flatMap (cutB g [])
theorem yee(g:Int->Bool):∀(l a:List Int),l≠[]->(cutB g a l).flatten=a++l
 |[],_,h=>absurd rfl h
 |e::l,a,_=>by
  unfold cutB;split
  ·rename_i h;by_cases b:l=[]
   ·subst b;simp[cutB]
   ·rw[List.flatten_cons,yee g l [] b];simp
  ·rename_i h;rw[yee g l _ fun i=>h (.inl i)];simp
theorem yed(g:Int->Bool){b:List Int}:∀(l a pre:List Int),b=pre++a++l->∀p∈cutB g a l,p≠[]/\ ∃k,k+p.length<=b.length/\ (b.take (k+p.length)).drop k=p
 |[],a,pre,_,p,hp=>by unfold cutB at hp;cases hp
 |e::l,a,pre,hb,p,hp=>by
  unfold cutB at hp;have h:b=(pre++(a++[e]))++l:=by rw[hb];simp
  split at hp
  ·rcases List.mem_cons.1 hp with rfl|hp
   ·refine⟨by simp,pre.length,by rw[h];simp,?_⟩;have i:pre.length+(a++[e]).length=(pre++(a++[e])).length:=List.length_append.symm;rw[h,i,List.take_left,List.drop_left]
   ·exact yed g l [] (pre++(a++[e])) (by rw[h];simp) p hp
  ·exact yed g l (a++[e]) pre (by rw[h,List.append_assoc]) p hp
section
variable{t:Timetable}{f:Fleet}{B:List (List Int)}{c:Nat}
theorem yec(g:t.Trips.length<=8)(hc:c<2^t.Trips.length){e:Int}(b:0<=tix t e):∃a:Nat,tix t e=(a:Int)/\ a<=12/\ cb t c e=c.testBit a/\ c<4096:=by
 have h:=yah b;refine⟨(tix t e).toNat,h.2.2.1.symm,by omega,rfl,ynd (by omega) hc⟩
def yel(t:Timetable)(B:List (List Int))(c:Nat):Prop:=∀b∈B,cb t c (b.getD (b.length-1) 0)=false
noncomputable instance(t:Timetable)(B:List (List Int))(c:Nat):Decidable (yel t B c):=Classical.propDecidable _
theorem ybn(hb:TB t)(hB:BB B)(E:t.Trips.length<=8)(hE:∀b∈B,b≠[]/\ ∀e∈b,0<=tix t e)(hc:c<2^t.Trips.length):zq33 t B (c:Int)=some (decide (yel t B c))/\ zq84 t B (c:Int)=some (decide (yel t B c)):=by
 have N:=hB.1;have K:2^t.Trips.length<=256:=(Nat.pow_le_pow_right (by omega) E:_<=2^8);have g:∀{b:List Int},b∈B->∃e,b[b.length-1]? =some e/\ w64 ((b.length:Int)-1)=((b.length-1:Nat):Int)/\ 0<=tix t e/\ b.getD (b.length-1) 0=e:=fun{b} x=>by
  have P:b.length≠0:=fun h=>(hE b x).1 (List.length_eq_zero_iff.1 h);have:=hB.2 b x;obtain⟨e,w⟩:=jaj (l:=b) (i:=b.length-1) (by omega);exact⟨e,w,by rw[jak (by omega)];omega,(hE b x).2 e (List.mem_of_getElem? w),yiv w⟩
 have k:∀{step:Int->Option (Lp Int (Fl Bool Unit))},(∀(i:Nat) b,B[i]? =some b->step (i:Int)=if cb t c (b.getD (b.length-1) 0)=true then some (.dn (.ret false))else some (.nx (w64 ((i:Int)+1))))->step (B.length:Int)=some (.dn (.go ()))->Ab.flb (iter step (0:Int)) (fun _=>some true)=some (decide (yel t B c)):=fun{step} hs w=>by
  refine je8 (.iter (fun m v=>∃i:Nat,v=(i:Int)/\ m+i=B.length/\ ∀b∈B.take i,cb t c (b.getD (b.length-1) 0)=false) (n:=B.length) ⟨0,rfl,rfl,by simp⟩ ?_);rintro m v ⟨i,rfl,x,hP⟩;rcases Nat.lt_or_ge i B.length with h|h
  ·obtain⟨b,o⟩:=jaj h;rw[hs i b o];by_cases j:cb t c (b.getD (b.length-1) 0)=true
   ·rw[if_pos j];exact .dn (.inr ⟨rfl,fun O=>by have:=O b (List.mem_of_getElem? o);rw[j]at this;cases this⟩)
   ·rw[if_neg j];refine .nx ⟨m-1,by omega,i+1,jah (by omega),by omega,fun L hb'=>?_⟩;rw[jap o]at hb';rcases List.mem_append.1 hb' with hb'|hb'
    ·exact hP L hb'
    ·rw[List.mem_singleton.1 hb'];simpa using j
  ·have:i=B.length:=by omega
   subst this;rw[w,List.take_length]at*
   exact .dn (.inl ⟨rfl,hP⟩)
 constructor
 ·unfold zq33;have h0:decide ((c:Int)<0)=false:=decide_eq_false (by omega);have D:decide (((2^t.Trips.length:Nat):Int)<=(c:Int))=false:=decide_eq_false (by omega);rw[h0,yij (by omega),D,ja9 (by omega)];simp only[Bool.false_eq_true,if_false,Option.bind_some];refine k (fun i b hi=>?_) (by unfold yfx;simp);have u:decide ((i:Int)<(B.length:Int))=true:=by have:=ja7 hi;rw[decide_eq_true_eq];omega
  obtain⟨e,y,z,A,C⟩:=g (List.mem_of_getElem? hi);obtain⟨a,G,H,I,J⟩:=yec E hc A;have p:chk ((0:Int)<=(a:Int))=some ():=ja9 (by omega);simp only[yfx,u,if_true,jal,hi,Option.bind_some,z,y,yen hb,C,G,p,ya3 J H,I];cases c.testBit a<;>simp
 ·unfold zq84;have M:w64 (((2^t.Trips.length:Nat):Int)-1)=((2^t.Trips.length-1:Nat):Int):=by
   have:=Nat.two_pow_pos t.Trips.length;rw[jak (by omega)];omega
  have F:yau (c:Int) 0 ((2^t.Trips.length-1:Nat):Int)=some true:=by
   unfold yau;have D:decide ((0:Int)<=(c:Int))=true:=decide_eq_true (by omega);have K:decide ((c:Int)<=((2^t.Trips.length-1:Nat):Int))=true:=decide_eq_true (by omega);simp[D,K];omega
  rw[yai (by omega),yij (by omega),M,F,ja9 (by omega)];simp only[Bool.not_true,Bool.false_eq_true,if_false,Option.bind_some];refine k (fun i b hi=>?_) (by unfold yfc;simp);have u:decide ((i:Int)<(B.length:Int))=true:=by have:=ja7 hi;rw[decide_eq_true_eq];omega
  obtain⟨e,y,z,A,C⟩:=g (List.mem_of_getElem? hi);obtain⟨a,G,H,I,J⟩:=yec E hc A;have p:chk ((0:Int)<=(a:Int))=some ():=ja9 (by omega);simp only[yfc,u,if_true,jal,hi,Option.bind_some,z,y,yd5 hb,C,G,yai (show a<=4096 by omega),p,ya3 J H,I];cases c.testBit a<;>simp
theorem yxb(hb:TB t)(hB:BB B)(O:t.Trips.length<=8)(hc:c<2^t.Trips.length){v:Nat}{b:List Int}(w:B[v]? =some b)(hE:∀e∈b,0<=tix t e){out:List (List Int)}(S:out.length<=1000000):
  iter (yfb t B (c:Int) (v:Int)) ((0:Int),out,([]:List Int))=some (out++cutB (cb t c) [] b):=by
 have Q:=hB.2 b (List.mem_of_getElem? w);refine Tot.val (.iter (fun m (a:Int×List (List Int)×List Int)=>∃k:Nat,a.1=(k:Int)/\ m+k=b.length/\ a.2.2.length<=k/\ a.2.1.length<=out.length+k/\ a.2.1++cutB (cb t c) a.2.2 (b.drop k)=out++cutB (cb t c) [] b) (n:=b.length) ⟨0,rfl,rfl,by simp,by simp,by simp⟩ ?_);rintro m ⟨V,T,W⟩ ⟨k,H,R,C,A,g⟩;simp only at H A C g;subst H;unfold yfb;refine .eq (ixs w) (.iteP (fun u=>?_) fun u=>.dn ?_)
 ·obtain⟨e,y⟩:=jaj (l:=b) (i:=k) (by omega);have E:=hE e (List.mem_of_getElem? y);obtain⟨a,I,J,G,K⟩:=yec O hc E;have z:b.drop k=e::b.drop (k+1):=by rw[List.drop_eq_getElem_cons (by omega),(List.getElem?_eq_some_iff.1 y).2]
  rw[z]at g;have F:w64 ((b.length:Int)-1)=((b.length-1:Nat):Int):=by rw[jak (by omega)];omega
  have p:b.drop (k+1)=[]↔k=b.length-1:=by rw[List.drop_eq_nil_iff];omega
  refine .call (P:=fun o=>o.2.length<=k+1/\ o.1.length<=out.length+(k+1)/\ o.1++cutB (cb t c) o.2 (b.drop (k+1))=out++cutB (cb t c) [] b) (.eq (ixs w) (.eq (ixs y) (.chk (by rw[List.length_singleton];omega) (.eq (ixs w) (.call (P:=fun x=>(x=true/\ (b.drop (k+1)=[] \/cb t c e=true)) \/(x=false/\ ¬(b.drop (k+1)=[] \/cb t c e=true))) ?_ ?_))))) fun⟨U,X⟩ ⟨L,M,N⟩=>.nx ⟨m-1,by omega,k+1,jah (by omega),by omega,L,M,N⟩
  ·rw[F];refine .ite (fun h=>.ok (.inl ⟨rfl,.inl (p.2 (by have:=beq_iff_eq.1 h;omega))⟩)) fun h=>?_;have D:k≠b.length-1:=fun e=>by rw[e]at h;simp at h
   refine .eq (ixs w) (.eq (ixs y) (.eq (yd5 hb e) ?_));rw[I,yai (by omega),ya3 K J];refine .chk (by omega) ?_;by_cases j:c.testBit a=true
   ·rw[if_pos j];exact .ok (.inl ⟨rfl,.inr (by rw[G];exact j)⟩)
   ·rw[if_neg j];exact .ok (.inr ⟨rfl,by rintro(h|h);exact D (p.1 h);rw[G]at h;exact j h⟩)
  ·rintro x (⟨rfl,h⟩|⟨rfl,h⟩)
   ·rw[cutB,if_pos h]at g;refine .chk (by rw[List.length_singleton];omega) (.ok ⟨by simp,by simp;omega,?_⟩);simp only[List.append_assoc,List.singleton_append]at g ⊢;exact g
   ·rw[cutB,if_neg h]at g;exact .ok ⟨by simp;omega,by simp;omega,g⟩
 ·have u:¬(k:Int)<(b.length:Int):=u;rw[List.drop_of_length_le (by omega),cutB,List.append_nil]at g;exact g
theorem yrt(hb:TB t)(S:t.Trips.length<=8)(hc:c<2^t.Trips.length){b:List Int}(T:b.length<=2000)(hE:∀e∈b,0<=tix t e){out:List (List Int)}(X:out.length<=1000000):
  iter (yf4 t (c:Int) b) ((0:Int),(0:Int),out)=some (out++cutB (cb t c) [] b):=by
 refine Tot.val (.iter (fun m (a:Int×Int×List (List Int))=>∃j k:Nat,a.1=(j:Int)/\ a.2.1=(k:Int)/\ j<=k/\ m+k=b.length/\ a.2.2.length<=out.length+k/\ a.2.2++cutB (cb t c) ((b.take k).drop j) (b.drop k)=out++cutB (cb t c) [] b) (n:=b.length) ⟨0,0,rfl,rfl,Nat.le_refl _,rfl,by simp,by simp⟩ ?_);rintro m ⟨v1,v2,Z⟩ ⟨j,k,I,J,U,W,D,p⟩;simp only at I J D p;subst I;subst J;unfold yf4;refine .iteP (fun v=>?_) fun v=>.dn ?_
 ·obtain⟨e,z⟩:=jaj (l:=b) (i:=k) (by omega);have F:=hE e (List.mem_of_getElem? z);obtain⟨a,K,L,H,M⟩:=yec S hc F;have C:b.drop k=e::b.drop (k+1):=by rw[List.drop_eq_getElem_cons (by omega),(List.getElem?_eq_some_iff.1 z).2]
  rw[C]at p;have G:w64 ((b.length:Int)-1)=((b.length-1:Nat):Int):=by rw[jak (by omega)];omega
  have y:w64 ((k:Int)+1)=((k+1:Nat):Int):=jah (by omega);have u:b.drop (k+1)=[]↔k=b.length-1:=by rw[List.drop_eq_nil_iff];omega
  have w:(b.take (k+1)).drop j=(b.take k).drop j++[e]:=by rw[jap z,List.drop_append_of_le_length (by rw[List.length_take];omega)]
  refine .call (P:=fun o=>∃j:Nat,o.1=(j:Int)/\ j<=k+1/\ o.2.length<=out.length+(k+1)/\ o.2++cutB (cb t c) ((b.take (k+1)).drop j) (b.drop (k+1))=out++cutB (cb t c) [] b) (.eq (ixs z) (.call (P:=fun x=>(x=true/\ (b.drop (k+1)=[] \/cb t c e=true)) \/(x=false/\ ¬(b.drop (k+1)=[] \/cb t c e=true))) ?_ ?_)) fun⟨Y,v3⟩ ⟨j',N,O,Q,R⟩=>.nx ⟨m-1,by omega,j',k+1,N,y,O,by omega,Q,R⟩
  ·rw[G];refine .ite (fun h=>.ok (.inl ⟨rfl,.inl (u.2 (by have:=beq_iff_eq.1 h;omega))⟩)) fun h=>?_;have E:k≠b.length-1:=fun e=>by rw[e]at h;simp at h
   refine .eq (yen hb e) ?_;rw[K,ya3 M L];refine .chk (by omega) ?_;by_cases g:c.testBit a=true
   ·rw[if_pos g];exact .ok (.inl ⟨rfl,.inr (by rw[H];exact g)⟩)
   ·rw[if_neg g];exact .ok (.inr ⟨rfl,by rintro(h|h);exact E (u.1 h);rw[H]at h;exact g h⟩)
  ·rw[y];rintro x (⟨rfl,h⟩|⟨rfl,h⟩)
   ·rw[cutB,if_pos h,<-w]at p;have A:ycw ((b.take (k+1)).drop j)=some ((b.take (k+1)).drop j):=by
     unfold ycw;rw[ja9 (by rw[List.length_nil,List.length_drop,List.length_take];omega)];rfl
    refine .chk (by omega) ?_;rw[Int.toNat_natCast,Int.toNat_natCast];refine .eq A (.chk (by rw[List.length_singleton];omega) (.ok ⟨k+1,rfl,Nat.le_refl _,by simp;omega,?_⟩));have V:(b.take (k+1)).drop (k+1)=[]:=by rw[List.drop_eq_nil_iff,List.length_take];omega
    simp only[V,List.append_assoc,List.singleton_append];exact p
   ·rw[cutB,if_neg h,<-w]at p;exact .ok ⟨j,rfl,by omega,by dsimp only;omega,p⟩
 ·have v:¬(k:Int)<(b.length:Int):=v;rw[List.drop_of_length_le (i:=k) (by omega),cutB,List.append_nil]at p;exact p
theorem ylf(hb:TB t)(S:t.Trips.length<=8)(hc:c<2^t.Trips.length){b:List Int}(T:b.length<=2000)(hE:∀e∈b,0<=tix t e){out:List (List Int)}(X:out.length<=1000000):
  iter (yf3 t (c:Int) b) ((0:Int),(0:Int),out)=some (out++cutB (cb t c) [] b):=by
 refine Tot.val (.iter (fun m (a:Int×Int×List (List Int))=>∃j k:Nat,a.1=(j:Int)/\ a.2.1=(k:Int)/\ j<=k/\ m+k=b.length/\ a.2.2.length<=out.length+k/\ a.2.2++cutB (cb t c) ((b.take k).drop j) (b.drop k)=out++cutB (cb t c) [] b) (n:=b.length) ⟨0,0,rfl,rfl,Nat.le_refl _,rfl,by simp,by simp⟩ ?_);rintro m ⟨v1,v2,Z⟩ ⟨j,k,I,J,U,W,D,p⟩;simp only at I J D p;subst I;subst J;unfold yf3;refine .iteP (fun v=>?_) fun v=>.dn ?_
 ·obtain⟨e,z⟩:=jaj (l:=b) (i:=k) (by omega);have F:=hE e (List.mem_of_getElem? z);obtain⟨a,K,L,H,M⟩:=yec S hc F;have C:b.drop k=e::b.drop (k+1):=by rw[List.drop_eq_getElem_cons (by omega),(List.getElem?_eq_some_iff.1 z).2]
  rw[C]at p;have G:w64 ((b.length:Int)-1)=((b.length-1:Nat):Int):=by rw[jak (by omega)];omega
  have y:w64 ((k:Int)+1)=((k+1:Nat):Int):=jah (by omega);have u:b.drop (k+1)=[]↔k=b.length-1:=by rw[List.drop_eq_nil_iff];omega
  have w:(b.take (k+1)).drop j=(b.take k).drop j++[e]:=by rw[jap z,List.drop_append_of_le_length (by rw[List.length_take];omega)]
  refine .call (P:=fun o=>∃j:Nat,o.1=(j:Int)/\ j<=k+1/\ o.2.length<=out.length+(k+1)/\ o.2++cutB (cb t c) ((b.take (k+1)).drop j) (b.drop (k+1))=out++cutB (cb t c) [] b) (.eq (ixs z) (.call (P:=fun x=>(x=true/\ (b.drop (k+1)=[] \/cb t c e=true)) \/(x=false/\ ¬(b.drop (k+1)=[] \/cb t c e=true))) ?_ ?_)) fun⟨Y,v3⟩ ⟨j',N,O,Q,R⟩=>.nx ⟨m-1,by omega,j',k+1,N,y,O,by omega,Q,R⟩
  ·rw[G];refine .ite (fun h=>.ok (.inl ⟨rfl,.inl (u.2 (by have:=beq_iff_eq.1 h;omega))⟩)) fun h=>?_;have E:k≠b.length-1:=fun e=>by rw[e]at h;simp at h
   refine .eq (yen hb e) ?_;rw[K,ya3 M L];refine .chk (by omega) ?_;by_cases g:c.testBit a=true
   ·rw[if_pos g];exact .ok (.inl ⟨rfl,.inr (by rw[H];exact g)⟩)
   ·rw[if_neg g];exact .ok (.inr ⟨rfl,by rintro(h|h);exact E (u.1 h);rw[H]at h;exact g h⟩)
  ·rw[y];rintro x (⟨rfl,h⟩|⟨rfl,h⟩)
   ·rw[cutB,if_pos h,<-w]at p;have A:ycw ((b.take (k+1)).drop j)=some ((b.take (k+1)).drop j):=by
     unfold ycw;rw[ja9 (by rw[List.length_nil,List.length_drop,List.length_take];omega)];rfl
    refine .chk (by omega) ?_;rw[Int.toNat_natCast,Int.toNat_natCast];refine .eq A (.chk (by rw[List.length_singleton];omega) (.ok ⟨k+1,rfl,Nat.le_refl _,by simp;omega,?_⟩));have V:(b.take (k+1)).drop (k+1)=[]:=by rw[List.drop_eq_nil_iff,List.length_take];omega
    simp only[V,List.append_assoc,List.singleton_append];exact p
   ·rw[cutB,if_neg h,<-w]at p;exact .ok ⟨j,rfl,by omega,by dsimp only;omega,p⟩
 ·have v:¬(k:Int)<(b.length:Int):=v;rw[List.drop_of_length_le (i:=k) (by omega),cutB,List.append_nil]at p;exact p
theorem yhr(g:Int->Bool):∀(l a:List Int),(cutB g a l).length<=l.length
 |[],_=>Nat.le_refl _
 |e::l,a=>by
  unfold cutB;split
  ·have:=yhr g l [];simp;omega
  ·have:=yhr g l (a++[e]);simp;omega
theorem ydk(g:Int->Bool){j:Nat}{b:List Int}(h:B[j]? =some b):pcs g (B.take (j+1))=pcs g (B.take j)++cutB g [] b:=by
 unfold pcs;rw[jap h,List.flatMap_append];simp
theorem yk9(hB:BB B)(g:Int->Bool):∀j,j<=B.length->(pcs g (B.take j)).length<=2000*j:=by
 intro j
 induction j with
 |zero=>intro _;simp[pcs]
 |succ j a=>
  intro m;obtain⟨b,hb⟩:=jaj (l:=B) (i:=j) (by omega);have e:=a (by omega);have h:=yhr g b [];have k:=hB.2 b (List.mem_of_getElem? hb);rw[ydk g hb,List.length_append];omega
theorem yez(hb:TB t)(hB:BB B)(x:t.Trips.length<=8)(hc:c<2^t.Trips.length)(hE:∀b∈B,∀e∈b,0<=tix t e):zq87 t B (c:Int)=some (pcs (cb t c) B):=by
 have w:=hB.1;unfold zq87;refine Tot.val (.call (P:=fun o=>o=pcs (cb t c) B) (.iter (fun m (a:Int×List (List Int))=>∃j:Nat,a.1=(j:Int)/\ m+j=B.length/\ a.2=pcs (cb t c) (B.take j)) (n:=B.length) ⟨0,rfl,rfl,by simp[pcs]⟩ ?_) fun o y=>.ok y);rintro m ⟨v,k⟩ ⟨j,p,z,u⟩;simp only at p u;subst p;subst u;unfold yjd;refine .iteP (fun h=>?_) fun h=>.dn ?_
 ·obtain⟨b,g⟩:=jaj (l:=B) (i:=j) (by omega);have A:=yk9 hB (cb t c) j (by omega);exact .eq (yxb hb hB x hc g (hE b (List.mem_of_getElem? g)) (by omega)) (.nx ⟨m-1,by omega,j+1,jah (by omega),by omega,(ydk _ g).symm⟩)
 ·have h:¬(j:Int)<(B.length:Int):=h;rw[List.take_of_length_le (by omega)]
theorem yik(hb:TB t)(hB:BB B)(x:t.Trips.length<=8)(hc:c<2^t.Trips.length)(hE:∀b∈B,∀e∈b,0<=tix t e):zq21 t B (c:Int)=some (pcs (cb t c) B):=by
 have w:=hB.1;unfold zq21;refine Tot.val (.call (P:=fun o=>o=pcs (cb t c) B) (.iter (fun m (a:Int×List (List Int))=>∃j:Nat,a.1=(j:Int)/\ m+j=B.length/\ a.2=pcs (cb t c) (B.take j)) (n:=B.length) ⟨0,rfl,rfl,by simp[pcs]⟩ ?_) fun o y=>.ok y);rintro m ⟨v,k⟩ ⟨j,p,z,u⟩;simp only at p u;subst p;subst u;unfold yj4;refine .iteP (fun h=>?_) fun h=>.dn ?_
 ·obtain⟨b,g⟩:=jaj (l:=B) (i:=j) (by omega);have A:=yk9 hB (cb t c) j (by omega);refine .eq (ixs g) (.eq (yrt hb x hc (hB.2 b (List.mem_of_getElem? g)) (hE b (List.mem_of_getElem? g)) (by omega)) (.nx ⟨m-1,by omega,j+1,jah (by omega),by omega,(ydk _ g).symm⟩))
 ·have h:¬(j:Int)<(B.length:Int):=h;rw[List.take_of_length_le (by omega)]
theorem ybp(hb:TB t)(hB:BB B)(x:t.Trips.length<=8)(hc:c<2^t.Trips.length)(hE:∀b∈B,∀e∈b,0<=tix t e):zq22 t B (c:Int)=some (pcs (cb t c) B):=by
 have w:=hB.1;unfold zq22;refine Tot.val (.call (P:=fun o=>o=pcs (cb t c) B) (.iter (fun m (a:Int×List (List Int))=>∃j:Nat,a.1=(j:Int)/\ m+j=B.length/\ a.2=pcs (cb t c) (B.take j)) (n:=B.length) ⟨0,rfl,rfl,by simp[pcs]⟩ ?_) fun o y=>.ok y);rintro m ⟨v,k⟩ ⟨j,p,z,u⟩;simp only at p u;subst p;subst u;unfold yj3;refine .iteP (fun h=>?_) fun h=>.dn ?_
 ·obtain⟨b,g⟩:=jaj (l:=B) (i:=j) (by omega);have A:=yk9 hB (cb t c) j (by omega);refine .eq (ixs g) (.eq (ylf hb x hc (hB.2 b (List.mem_of_getElem? g)) (hE b (List.mem_of_getElem? g)) (by omega)) (.nx ⟨m-1,by omega,j+1,jah (by omega),by omega,(ydk _ g).symm⟩))
 ·have h:¬(j:Int)<(B.length:Int):=h;rw[List.take_of_length_le (by omega)]
end
section
variable{t:Timetable}{f:Fleet}{B:List (List Int)}{r:Rules}{ps:List (List Int)}
noncomputable def sF(t:Timetable)(f:Fleet)(B:List (List Int))(r:Rules)(ps:List (List Int))(k:Nat):Nat:=dc t f B r [ps.getD k []]
noncomputable def qF(t:Timetable)(f:Fleet)(B:List (List Int))(r:Rules)(ps:List (List Int))(i k:Nat):Nat:=if i=k then BIG else dc t f B r [ps.getD i [],ps.getD k []]
def SmP(ps:List (List Int)):Prop:=(∀p∈ps,p.length<=srtN)/\ ∀(i k:Nat) a b,i≠k->ps[i]? =some a->ps[k]? =some b->a.length+b.length<=srtN
structure RuP(t:Timetable)(f:Fleet)(B:List (List Int))(r:Rules):Prop where
 hb:TB t
 hA:AskF t f
 hP:yaq t f B
 hB:BB B
 hR:ya4 r
theorem dc1(h:RuP t f B r)(i:∀p∈ps,p.length<=3000)(hs:SmP ps){k:Nat}{e:List Int}(a:ps[k]? =some e):zq45 [e] t f B r=some (prc (sF t f B r ps k))/\ zq86 t f B r ⟨[e]⟩=some (spd (sF t f B r ps k)):=by
 have b:ps.getD k []=e:=by rw[List.getD_eq_getElem?_getD,a];rfl
 have:=yeb (d:=[e]) h.hb h.hA h.hP h.hB h.hR (.inl rfl) fun p g=>by rw[List.mem_singleton.1 g];exact i e (List.mem_of_getElem? a)
 have this:=this (by simpa using hs.1 e (List.mem_of_getElem? a));unfold sF;rw[b];exact⟨this.1,this.2.1⟩
theorem dc2(h:RuP t f B r)(m:∀p∈ps,p.length<=3000)(hs:SmP ps){i k:Nat}(b:i≠k){e e':List Int}(g:ps[i]? =some e)(a:ps[k]? =some e'):zq45 [e,e'] t f B r=some (prc (qF t f B r ps i k))/\ zq86 t f B r ⟨[e,e']⟩=some (spd (qF t f B r ps i k)):=by
 have o:ps.getD i []=e:=by rw[List.getD_eq_getElem?_getD,g];rfl
 have j:ps.getD k []=e':=by rw[List.getD_eq_getElem?_getD,a];rfl
 have:=yeb (d:=[e,e']) h.hb h.hA h.hP h.hB h.hR (.inr rfl) fun p l=>by
  simp only[List.mem_cons,List.not_mem_nil,or_false]at l;rcases l with rfl|rfl
  ·exact m _ (List.mem_of_getElem? g)
  ·exact m _ (List.mem_of_getElem? a)
 have this:=this (by simpa using hs.2 i k e e' b g a);unfold qF;rw[o,j,if_neg b];exact⟨this.1,this.2.1⟩
theorem ynm(h:RuP t f B r)(u:∀p∈ps,p.length<=3000)(hs:SmP ps)(v:ps.length<=8):Cst ps.length (sF t f B r ps) (qF t f B r ps):=by
 refine⟨v,fun k o=>?_,fun i k hi o=>?_⟩
 ·obtain⟨e,a⟩:=jaj o;have l:ps.getD k []=e:=by rw[List.getD_eq_getElem?_getD,a];rfl
  unfold sF;rw[l];exact(yeb (d:=[e]) h.hb h.hA h.hP h.hB h.hR (.inl rfl) (fun p j=>by
   rw[List.mem_singleton.1 j];exact u e (List.mem_of_getElem? a)) (by simpa using hs.1 e (List.mem_of_getElem? a))).2.2.1
 ·unfold qF;by_cases g:i=k
  ·rw[if_pos g];exact .inl rfl
  rw[if_neg g];obtain⟨e,a⟩:=jaj hi;obtain⟨e',b⟩:=jaj o;have l:ps.getD i []=e:=by rw[List.getD_eq_getElem?_getD,a];rfl
  have m:ps.getD k []=e':=by rw[List.getD_eq_getElem?_getD,b];rfl
  rw[l,m];refine(yeb (d:=[e,e']) h.hb h.hA h.hP h.hB h.hR (.inr rfl) (fun p j=>?_) (by simpa using hs.2 i k e e' g a b)).2.2.1;simp only[List.mem_cons,List.not_mem_nil,or_false]at j;rcases j with rfl|rfl
  ·exact u _ (List.mem_of_getElem? a)
  ·exact u _ (List.mem_of_getElem? b)
theorem yim(h:RuP t f B r)(hp:∀p∈ps,p.length<=3000)(hs:SmP ps)(hl:ps.length<=8):Tot (zq46 t f B r ps) fun x=>∃sg pr,x=⟨ps,sg,pr,[]⟩/\ CuP ps.length (sF t f B r ps) (qF t f B r ps) ps sg pr:=by
 unfold zq46;refine .chk (by omega) (.chk (by omega) (.call (P:=fun o=>CuP ps.length (sF t f B r ps) (qF t f B r ps) ps o.1 o.2) ?_ fun⟨v7,v8⟩ Q=>.ok ⟨v7,v8,rfl,Q⟩));refine .iter (fun m (a:Int×List price×List (List price))=>∃i:Nat,a.1=(i:Int)/\ m+i=ps.length/\ a.2.1.length=ps.length/\ a.2.2.length=ps.length/\ (∀k,k<i->a.2.1[k]? =some (prc (sF t f B r ps k)))/\ ∀j,j<i->∃row,a.2.2[j]? =some row/\ ∀k,k<ps.length->j≠k->row[k]? =some (prc (qF t f B r ps j k))) (n:=ps.length) ⟨0,rfl,rfl,by simp,by simp,fun k h=>by omega,fun k h=>by omega⟩ ?_;rintro m ⟨v,v1,K⟩ ⟨i,X,hi,W,l2,L,M⟩;simp only at X W l2 L M;subst X;unfold yjv;refine .iteP (fun A=>?_) fun A=>.dn ?_
 ·have O:i<ps.length:=by omega
  obtain⟨e,N⟩:=jaj O;obtain⟨e2,E⟩:=jaj (l:=v1) (i:=i) (by omega);obtain⟨e4,F⟩:=jaj (l:=K) (i:=i) (by omega);refine .eq (ixs N) (.eq (dc1 h hp hs N).1 (.eq (ixs E) (.chk (by omega) (.eq (ixs F) (.call (P:=fun o=>o.length=ps.length/\ (∀j,j<i->o[j]? =K[j]?)/\ ∃row,o[i]? =some row/\ ∀k,k<ps.length->i≠k->row[k]? =some (prc (qF t f B r ps i k))) ?_ fun o ⟨g1,g2,g3⟩=>.nx ⟨m-1,by omega,i+1,jah (by omega),by omega,?_,g1,fun k Z=>?_,fun j D=>?_⟩)))))
  ·rw[Int.toNat_natCast,Int.toNat_natCast];refine .iter (fun m (a:Int×List (List price))=>∃k:Nat,a.1=(k:Int)/\ m+k=ps.length/\ a.2.length=ps.length/\ (∀j,j<i->a.2[j]? =K[j]?)/\ ∃row,a.2[i]? =some row/\ row.length=ps.length/\ ∀x,x<k->i≠x->row[x]? =some (prc (qF t f B r ps i x))) (n:=ps.length) ⟨0,rfl,rfl,by simp only;rw[List.length_set];exact l2,fun j D=>List.getElem?_set_ne (by omega),_,jk4 F,by simp,fun x U=>by omega⟩ ?_;rintro m' ⟨v3,v4⟩ ⟨k,Y,Z,J,y,row,b,C,R⟩;simp only at Y J y b;subst Y;unfold yjw;refine .iteP (fun z=>?_) fun z=>.dn ?_
   ·have I:k<ps.length:=by omega
    obtain⟨e5,G⟩:=jaj I;obtain⟨e7,H⟩:=jaj (l:=row) (i:=k) (by omega);refine .call (P:=fun o=>o.length=ps.length/\ (∀j,j<i->o[j]? =K[j]?)/\ ∃row,o[i]? =some row/\ row.length=ps.length/\ ∀x,x<k+1->i≠x->row[x]? =some (prc (qF t f B r ps i x))) (.eq (ixs G) (.eq (ixs b) (.eq (ixs H) ?_))) fun o Q=>.nx ⟨m'-1,by omega,k+1,jah (by omega),by omega,Q⟩;rw[Int.toNat_natCast,Int.toNat_natCast];have g:(v4.set i (row.set k (⟨1073741824,0⟩:price)))[i]? =some (row.set k (⟨1073741824,0⟩:price)):=jk4 b;refine .ite (fun w=>?_) fun w=>.ok ⟨by rw[List.length_set];exact J,fun j D=>by rw[List.getElem?_set_ne (by omega)];exact y j D,_,g,by rw[List.length_set];exact C,fun x U u=>?_⟩
    ·refine .eq (ixs g) (.eq (dc2 h hp hs (fun e=>by subst e;simp at w) N G).1 (.eq (ixs (jk4 H)) (.ok ⟨by rw[List.length_set,List.length_set];exact J,fun j D=>by rw[List.getElem?_set_ne (by omega),List.getElem?_set_ne (by omega)];exact y j D,_,jk4 g,by rw[List.length_set,List.length_set];exact C,fun x U u=>?_⟩)));by_cases V:x=k
     ·subst V;rw[List.getElem?_set_self (by rw[List.length_set,C];exact I)]
     ·rw[List.getElem?_set_ne (by omega),List.getElem?_set_ne (by omega)];exact R x (by omega) u
    ·have aa:i=k:=by
      have:¬(i:Int)≠(k:Int):=fun hh=>by rw[bne_iff_ne.2 hh]at w;cases w
      omega
     rw[List.getElem?_set_ne (by omega)];exact R x (by omega) u
   ·have z:¬(k:Int)<(ps.length:Int):=z;exact⟨J,y,row,b,fun x U u=>R x (by omega) u⟩
  ·simp only;rw[List.length_set];exact W
  ·simp only
   rw[Int.toNat_natCast];by_cases e:k=i
   ·subst e;exact jk4 E
   ·rw[List.getElem?_set_ne (by omega)];exact L k (by omega)
  ·by_cases e:j=i
   ·subst e;exact g3
   ·obtain⟨row,S,T⟩:=M j (by omega);exact⟨row,by simp only;rw[g2 j (by omega)];exact S,T⟩
 ·have A:¬(i:Int)<(ps.length:Int):=A;exact⟨rfl,W,fun k Z=>L k (by omega),fun j D=>M j (by omega)⟩
theorem yq8(h:RuP t f B r)(T:∀p∈ps,p.length<=3000)(hs:SmP ps)(W:ps.length<=8){c:Nat}(H:zq87 t B (c:Int)=some ps):Tot (zq85 t f B r (c:Int)) fun x=>∃al pr C,x=⟨ps,al,pr,((0:Nat):Int),C⟩/\ PlP ps.length (sF t f B r ps) (qF t f B r ps) ps al pr/\ KnP ps.length (sF t f B r ps) (qF t f B r ps) 0 C:=by
 unfold zq85;refine .eq H (.call (P:=fun o=>PlP ps.length (sF t f B r ps) (qF t f B r ps) ps o.1 o.2) ?_ fun⟨Z,v8⟩ G=>.call (yhh (n:=ps.length) (s:=sF t f B r ps) (q:=qF t f B r ps) (fb:=0) W rfl) fun x ⟨C,A,l⟩=>by subst A;exact .ok ⟨Z,v8,C,rfl,G,l⟩);refine .iter (fun m (a:Int×List Int×List (List Int))=>∃i:Nat,a.1=(i:Int)/\ m+i=ps.length/\ a.2.1.length=i/\ a.2.2.length=i/\ (∀k,k<i->a.2.1[k]? =some (spd (sF t f B r ps k)))/\ ∀j,j<i->∃row,a.2.2[j]? =some row/\ ∀k,k<ps.length->j≠k->row[k]? =some (spd (qF t f B r ps j k))) (n:=ps.length) ⟨0,rfl,rfl,rfl,rfl,fun k h=>by omega,fun k h=>by omega⟩ ?_;rintro m ⟨v,v1,v2⟩ ⟨i,Q,hi,M,N,D,E⟩;simp only at Q M N D E;subst Q;unfold yje;refine .iteP (fun w=>?_) fun w=>.dn ?_
 ·have F:i<ps.length:=by omega
  obtain⟨e,z⟩:=jaj F;refine .eq (ixs z) (.eq (dc1 h T hs z).2 (.chk (by rw[List.length_singleton];omega) (.call (P:=fun o=>∀k,k<ps.length->i≠k->o[k]? =some (spd (qF t f B r ps i k))) ?_ fun o G=>.chk (by rw[List.length_singleton];omega) (.nx ⟨m-1,by omega,i+1,jah (by omega),by omega,?_,?_,fun k S=>?_,fun j V=>?_⟩))))
  ·refine .iter (fun m (a:Int×List Int)=>∃k:Nat,a.1=(k:Int)/\ m+k=ps.length/\ a.2.length=k/\ ∀x,x<k->i≠x->a.2[x]? =some (spd (qF t f B r ps i x))) (n:=ps.length) ⟨0,rfl,rfl,rfl,fun x A=>by omega⟩ ?_;rintro Y ⟨v3,v4⟩ ⟨k,R,S,O,I⟩;simp only at R O I;subst R;unfold yjf;refine .iteP (fun u=>?_) fun u=>.dn ?_
   ·have l:k<ps.length:=by omega
    obtain⟨e5,y⟩:=jaj l;refine .call (P:=fun v=>i≠k->v=spd (qF t f B r ps i k)) ?_ fun v X=>.chk (by rw[List.length_singleton];omega) (.nx ⟨Y-1,by omega,k+1,jah (by omega),by omega,by simp;exact O,fun x A g=>?_⟩)
    ·exact .ite (fun b=>.eq (ixs z) (.eq (ixs y) (.eq (dc2 h T hs (fun e=>by subst e;simp at b) z y).2 (.ok fun _=>rfl)))) fun b=>.ok fun U=>by
      have:(i:Int)≠(k:Int):=by omega
      rw[bne_iff_ne.2 this]at b;cases b
    ·simp only
     by_cases L:x=k
     ·subst L;rw[List.getElem?_append_right (by omega),O,Nat.sub_self,X g];rfl
     ·rw[List.getElem?_append_left (by omega)];exact I x (by omega) g
   ·have u:¬(k:Int)<(ps.length:Int):=u;exact fun x A g=>I x (by omega) g
  ·simp;exact M
  ·simp;exact N
  ·simp only
   by_cases e:k=i
   ·subst e;rw[List.getElem?_append_right (by omega),M,Nat.sub_self];rfl
   ·rw[List.getElem?_append_left (by omega)];exact D k (by omega)
  ·simp only
   by_cases e:j=i
   ·subst e;exact⟨o,by rw[List.getElem?_append_right (by omega),N,Nat.sub_self];rfl,G⟩
   ·obtain⟨row,J,K⟩:=E j (by omega);exact⟨row,by rw[List.getElem?_append_left (by omega)];exact J,K⟩
 ·have w:¬(i:Int)<(ps.length:Int):=w;exact⟨rfl,fun k S=>D k (by omega),fun j V=>E j (by omega)⟩
end
theorem yiw:∀{L:List (List Int)},(∀p∈L,p≠[])->L.length<=L.flatten.length
 |[],_=>Nat.le_refl _
 |p::L,h=>by
  have b:=yiw (L:=L) fun x a=>h x (List.mem_cons_of_mem _ a);have g:p.length≠0:=fun e=>h p (List.mem_cons_self ..) (List.length_eq_zero_iff.1 e);simp only[List.flatten_cons,List.length_append,List.length_cons];omega
theorem ytz{L:List (List Int)}(h:L.flatten.Nodup){i j:Nat}{b g:List Int}{x:Int}(hi:L[i]? =some b)(l:x∈b)(k:L[j]? =some g)(a:x∈g):i=j:=by
 rw[List.Nodup,List.pairwise_flatten]at h;rcases Nat.lt_trichotomy i j with hlt|e|hlt
 ·exact absurd rfl (pwG h.2 hlt hi k x l x a)
 ·exact e
 ·exact absurd rfl (pwG h.2 hlt k hi x a x l)
theorem yd6{t:Timetable}:∀{l:List Int},(l.map (tix t)).Nodup->l.Nodup:=fun h=>by
 rw[List.Nodup,List.pairwise_map]at h;exact h.imp fun a e=>a (by rw[e])
theorem ynb(g:Int->Bool):∀{B:List (List Int)},(∀b∈B,b≠[])->(pcs g B).flatten=B.flatten
 |[],_=>rfl
 |b::B,h=>by
  have a:=ynb g (B:=B) fun x e=>h x (List.mem_cons_of_mem _ e);unfold pcs at a ⊢;rw[List.flatMap_cons,List.flatten_append,a,yee g b [] (h b (List.mem_cons_self ..)),List.flatten_cons,List.nil_append]
section
variable{t:Timetable}{f:Fleet}{B:List (List Int)}{r:Rules}{c:Nat}
noncomputable def PC(t:Timetable)(B:List (List Int))(c:Nat):List (List Int):=pcs (cb t c) B
noncomputable def Vc(t:Timetable)(f:Fleet)(B:List (List Int))(r:Rules)(c:Nat):Nat:=Wv (PC t B c).length (sF t f B r (PC t B c)) (qF t f B r (PC t B c)) 0 0
theorem yhk(h:RuP t f B r):(PC t B c).flatten=B.flatten:=ynb _ fun b hb=>(h.hP.1 b hb).1
theorem yyi(h:RuP t f B r):(PC t B c).flatten.Nodup:=by rw[yhk h];exact yd6 h.hP.2.1
theorem yqz(h:RuP t f B r){p:List Int}(l:p∈PC t B c):IsP B p:=by
 obtain⟨b,hb,j⟩:=List.mem_flatMap.1 l;obtain⟨a,k,e,g⟩:=yed (cb t c) (b:=b) b [] [] (by simp) p j;obtain⟨i,hi⟩:=List.getElem?_of_mem hb;exact⟨a,i,k,b,hi,e,g⟩
theorem ye1(h:RuP t f B r):(PC t B c).length<=t.Trips.length:=by
 have:=yiw (L:=PC t B c) fun p a=>(yqz h a).1;rw[yhk h,h.hP.2.2]at this;exact this
theorem yww(h:RuP t f B r){p:List Int}(a:IsP B p):p.length<=2000:=by
 obtain⟨_,i,k,b,hb,e,_⟩:=a;have:=h.hB.2 b (List.mem_of_getElem? hb);omega
theorem yb5(h:RuP t f B r):∀p∈PC t B c,p.length<=3000:=fun p a=>by have:=yww h (yqz h a);omega
theorem yil(h:RuP t f B r)(u:t.Trips.length<=8):SmP (PC t B c):=by
 have v:(PC t B c).flatten.length<=8:=by rw[yhk h,h.hP.2.2];exact u
 have o:=yyg;have one:∀{L:List (List Int)}{p:List Int},p∈L->p.length<=L.flatten.length:=fun{L p} w=>by
  obtain⟨i,hi⟩:=List.getElem?_of_mem w;have e:L=L.take i++p::L.drop (i+1):=by
   have g:=List.take_append_drop i L;rw[List.drop_eq_getElem_cons (ja7 hi),(List.getElem?_eq_some_iff.1 hi).2]at g;exact g.symm
  rw[e];simp;omega
 have l:∀{L:List (List Int)}{i k:Nat}{a b:List Int},i<k->L[i]? =some a->L[k]? =some b->a.length+b.length<=L.flatten.length:=fun{L i k a b} j hi m=>by
  have e:L=L.take i++a::L.drop (i+1):=by
   have g:=List.take_append_drop i L;rw[List.drop_eq_getElem_cons (ja7 hi),(List.getElem?_eq_some_iff.1 hi).2]at g;exact g.symm
  have hb:b∈L.drop (i+1):=List.mem_of_getElem? (i:=k-(i+1)) (by rw[List.getElem?_drop];rw[show i+1+(k-(i+1))=k by omega];exact m);have:=one hb;rw[e];simp only[List.flatten_append,List.flatten_cons,List.length_append];omega
 refine⟨fun p x=>by have:=one x;omega,fun i k a b j hi m=>?_⟩;rcases Nat.lt_or_gt_of_ne j with h1|h1
 ·have:=l h1 hi m;omega
 ·have:=l h1 m hi;omega
theorem ywr(h:RuP t f B r):HdP (PC t B c).length (PC t B c):=by
 have ex:∀i,i<(PC t B c).length->∃p e,(PC t B c)[i]? =some p/\ (PC t B c).getD i []=p/\ p[0]? =some e/\ p.getD 0 0=e:=fun i hi=>by
  obtain⟨p,w⟩:=jaj hi;have v:=(yqz h (List.mem_of_getElem? w)).1;obtain⟨e,a⟩:=jaj (l:=p) (i:=0) (by have:p.length≠0:=fun e=>v (List.length_eq_zero_iff.1 e);omega);exact⟨p,e,w,by rw[List.getD_eq_getElem?_getD,w];rfl,a,yiv a⟩
 constructor
 ·intro i hi;obtain⟨p,e,_,g,m,_⟩:=ex i hi;exact⟨e,by rw[g];exact m⟩
 ·intro i j hi z a;obtain⟨p,e,x,g,m,y⟩:=ex i hi;obtain⟨A,e',b,k,o,u⟩:=ex j z;rw[g,k,y,u]at a;subst a;exact ytz (yyi h) x (List.mem_of_getElem? m) b (List.mem_of_getElem? o)
def lst:Option (Nat×Nat)->Nat
 |none=>BIG
 |some x=>x.2
noncomputable def bst(t:Timetable)(f:Fleet)(B:List (List Int))(r:Rules):Nat->Option (Nat×Nat)
 |0=>none
 |c+1=>if yel t B c/\ Vc t f B r c<(lst (bst t f B r c))then some (c,Vc t f B r c)else bst t f B r c
theorem ybc:∀{n a w:Nat},bst t f B r n=some (a,w)->a<n/\ yel t B a/\ w=Vc t f B r a/\ w<BIG/\ ∀c,c<n->yel t B c->w<=Vc t f B r c
 |0,a,w,h=>by cases h
 |n+1,a,w,h=>by
  unfold bst at h;split at h
  ·rename_i hc;cases h;cases hb:bst t f B r n with
   |none=>
    rw[hb]at hc;have u:=bst_none hb;refine⟨by omega,hc.1,rfl,hc.2,fun c g b=>?_⟩;by_cases e:c=n
    ·subst e;exact Nat.le_refl _
    ·have:=u c (by omega) b;have:=hc.2;simp only[lst]at this;omega
   |some x=>
    obtain⟨a',w'⟩:=x;rw[hb]at hc;obtain⟨o,k,l,m,i⟩:=ybc hb;have p:=hc.2;simp only[lst]at p;refine⟨by omega,hc.1,rfl,by omega,fun c g b=>?_⟩;by_cases e:c=n
    ·subst e;exact Nat.le_refl _
    ·have:=i c (by omega) b;omega
  ·rename_i hc;obtain⟨o,k,l,m,i⟩:=ybc h;refine⟨by omega,k,l,m,fun c g b=>?_⟩;by_cases e:c=n
   ·subst e;rw[h]at hc;have:=Nat.le_of_not_lt fun j=>hc ⟨b,j⟩;simp only[lst]at this;omega
   ·exact i c (by omega) b
 where
 bst_none:∀{n:Nat},bst t f B r n=none->∀c,c<n->yel t B c->BIG<=Vc t f B r c
 |0,_,c,h,_=>by omega
 |n+1,h,c,g,b=>by
  unfold bst at h;split at h
  ·cases h
  ·rename_i hc;by_cases e:c=n
   ·subst e;rw[h]at hc;have:=Nat.le_of_not_lt fun j=>hc ⟨b,j⟩;simp only[lst]at this;omega
   ·exact bst_none h c (by omega) b
theorem ywn:prc BIG=⟨1073741824,0⟩:=by unfold prc BIG;rfl
def yr5(t:Timetable)(f:Fleet)(B:List (List Int))(r:Rules)(o:Option (Nat×Nat))(v e g:Int)(x:Option cutter):Prop:=
 match o with
 |none=>v=0/\ e=1073741824/\ g=0/\ x=none
 |some (a,w)=>v=(a:Int)/\ (⟨e,g⟩:price)=prc w/\ ∃sg pr b,x=some ⟨PC t B a,sg,pr,b⟩/\ CuP (PC t B a).length (sF t f B r (PC t B a)) (qF t f B r (PC t B a)) (PC t B a) sg pr/\ MmP (PC t B a).length (sF t f B r (PC t B a)) (qF t f B r (PC t B a)) b
theorem ytr{o:Option (Nat×Nat)}{v a b:Int}{x:Option cutter}(h:yr5 t f B r o v a b x):(⟨a,b⟩:price)=prc (lst o):=by
 cases o with
 |none=>
  obtain⟨_,rfl,rfl,_⟩:=h;exact ywn.symm
 |some e=>exact h.2.1
theorem yrp(h:RuP t f B r)(y:t.Trips.length<=8):Tot (iter (yfz t f B r) ((0:Int),(0:Int),(1073741824:Int),(0:Int),none)) fun o=>yr5 t f B r (bst t f B r (2^t.Trips.length)) o.1 o.2.1 o.2.2.1 o.2.2.2:=by
 have hE:∀b∈B,b≠[]/\ ∀e∈b,0<=tix t e:=fun b hb=>⟨(h.hP.1 b hb).1,(h.hP.1 b hb).2.1⟩;have L:2^t.Trips.length<=256:=(Nat.pow_le_pow_right (by omega) y:_<=2^8);refine .iter (fun m (a:Int×Int×Int×Int×Option cutter)=>∃c:Nat,a.2.1=(c:Int)/\ m+c=2^t.Trips.length/\ yr5 t f B r (bst t f B r c) a.1 a.2.2.1 a.2.2.2.1 a.2.2.2.2) (n:=2^t.Trips.length) ⟨0,rfl,rfl,rfl,rfl,rfl,rfl⟩ ?_;rintro m ⟨v,V,W,X,x⟩ ⟨c,K,hc,p⟩;simp only at K p;subst K;have M:=ytr p;have new:c<2^t.Trips.length->Tot (zq46 t f B r (PC t B c)) fun x=>∃sg pr,x=⟨PC t B c,sg,pr,[]⟩/\ CuP (PC t B c).length (sF t f B r (PC t B c)) (qF t f B r (PC t B c)) (PC t B c) sg pr:=fun _=>yim h (yb5 h) (yil h y) (by have:=ye1 h (c:=c);omega);have hS:=ynm h (ps:=PC t B c) (yb5 h) (yil h y) (by have:=ye1 h (c:=c);omega);unfold yfz;dsimp only
 rw[yij (by omega)];cases x with
 |none=>
  simp only[Option.elim];refine .iteP (fun z=>?_) fun z=>.dn ?_
  ·have k:c<2^t.Trips.length:=by omega
   refine .call (P:=fun o=>yr5 t f B r (bst t f B r (c+1)) o.1 o.2.1 o.2.2.1 o.2.2.2) (.eq (ybn h.hb h.hB y hE k).1 ?_) ?_
   ·by_cases j:yel t B c
    ·rw[decide_eq_true j];refine .eq (ybp h.hb h.hB y k fun b hb=>(hE b hb).2) (.call (new k) fun N ⟨sg,pr,F,hC⟩=>?_);subst F;refine .call (ydn hS hC (i:=0) (u:=0) (Nat.zero_le _) (yq6 _ _ _) (Nat.two_pow_pos _)) fun H ⟨⟨w,I,J,_⟩,G⟩=>?_;have A:=yha J;rw[M,I];obtain⟨O,E,C,_⟩:=yhi w (lst (bst t f B r c));refine .eq E (.iteP (fun h0=>.ok ?_) fun h0=>.ok ?_)
     ·have g:=C.1 h0;have:bst t f B r (c+1)=some (c,w):=by
       unfold bst;rw[if_pos ⟨j,by unfold Vc;rw[A];exact g⟩];unfold Vc;rw[A]
      rw[this];exact⟨rfl,rfl,sg,pr,H.2,rfl,hC,G⟩
     ·have g:¬_:=fun l=>h0 (C.2 l);have:bst t f B r (c+1)=bst t f B r c:=by
       rw[bst,if_neg];rintro⟨_,l⟩;unfold Vc at l;rw[A]at l;exact g l
      rw[this];exact p
    ·rw[decide_eq_false j];have:bst t f B r (c+1)=bst t f B r c:=by rw[bst,if_neg fun l=>j l.1]
     refine .ok ?_;rw[this];exact p
   ·rintro⟨Y,Z,v6,U⟩ D;dsimp only
    cases U with
    |none=>exact .nx ⟨m-1,by omega,c+1,jah (by omega),by omega,D⟩
    |some x3=>exact .nx ⟨m-1,by omega,c+1,jah (by omega),by omega,D⟩
  ·have:c=2^t.Trips.length:=by omega
   subst this;exact p
 |some x1=>
  simp only[Option.elim];refine .iteP (fun z=>?_) fun z=>.dn ?_
  ·have k:c<2^t.Trips.length:=by omega
   refine .call (P:=fun o=>yr5 t f B r (bst t f B r (c+1)) o.1 o.2.2.2.2.1 o.2.2.2.2.2.1 (some ⟨o.2.1,o.2.2.1,o.2.2.2.1,o.2.2.2.2.2.2⟩)) (.eq (ybn h.hb h.hB y hE k).1 ?_) fun⟨v7,v8,v9,Q,R,S,T⟩ D=>.nx ⟨m-1,by omega,c+1,jah (by omega),by omega,D⟩;by_cases j:yel t B c
   ·rw[decide_eq_true j];refine .eq (ybp h.hb h.hB y k fun b hb=>(hE b hb).2) (.call (new k) fun N ⟨sg,pr,F,hC⟩=>?_);subst F;refine .call (ydn hS hC (i:=0) (u:=0) (Nat.zero_le _) (yq6 _ _ _) (Nat.two_pow_pos _)) fun H ⟨⟨w,I,J,_⟩,G⟩=>?_;have A:=yha J;rw[M,I];obtain⟨O,E,C,_⟩:=yhi w (lst (bst t f B r c));refine .eq E (.iteP (fun h0=>.ok ?_) fun h0=>.ok ?_)
    ·have g:=C.1 h0;have:bst t f B r (c+1)=some (c,w):=by
      unfold bst;rw[if_pos ⟨j,by unfold Vc;rw[A];exact g⟩];unfold Vc;rw[A]
     rw[this];exact⟨rfl,rfl,sg,pr,H.2,rfl,hC,G⟩
    ·have g:¬_:=fun l=>h0 (C.2 l);have:bst t f B r (c+1)=bst t f B r c:=by
      rw[bst,if_neg];rintro⟨_,l⟩;unfold Vc at l;rw[A]at l;exact g l
     rw[this];exact p
   ·rw[decide_eq_false j];have:bst t f B r (c+1)=bst t f B r c:=by rw[bst,if_neg fun l=>j l.1]
    refine .ok ?_;rw[this];exact p
  ·have:c=2^t.Trips.length:=by omega
   subst this;exact p
noncomputable def fewR(t:Timetable)(f:Fleet)(B:List (List Int))(r:Rules):List Duty×Int×Int×Bool:=match bst t f B r (2^t.Trips.length)with
 |none=>([],0,0,false)
 |some (a,w)=>(dutL (PC t B a) (PC t B a).length (sF t f B r (PC t B a)) (qF t f B r (PC t B a)),(a:Int),((w%100000:Nat):Int),true)
theorem yw3(h:RuP t f B r)(g:t.Trips.length<=8):zq29 t f B r=some (fewR t f B r):=by
 have hS:=fun c=>ynm h (ps:=PC t B c) (yb5 h) (yil h g) (by have:=ye1 h (c:=c);omega);unfold zq29;refine Tot.val (.iteP (fun h=>absurd h (by omega)) fun _=>.chk (by omega) (.call (yrp h g) fun⟨p,u,e,v⟩ b=>?_));simp only at b;dsimp only
 unfold fewR;cases hb:bst t f B r (2^t.Trips.length)with
 |none=>
  rw[hb]at b;obtain⟨_,_,_,rfl⟩:=b;exact .ok rfl
 |some j=>
  obtain⟨a,w⟩:=j;rw[hb]at b;obtain⟨rfl,l,sg,pr,i,rfl,hC,k⟩:=b;simp only[Option.elim];refine .call (yw9 (hS a) hC (ywr h) k) fun o m=>.ok ?_;have:e=((w%100000:Nat):Int):=congrArg price.paid_ l;rw[m,this]
theorem yro(h:RuP t f B r)(p:t.Trips.length<=8):Tot (iter (yff t f B r) ((-1:Int),(0:Int),(0:Int))) fun o=>match bst t f B r (2^t.Trips.length)with|none=>o.1= -1|some (a,w)=>o.1=(a:Int)/\ o.2=(w:Int):=by
 have hE:∀b∈B,b≠[]/\ ∀e∈b,0<=tix t e:=fun b hb=>⟨(h.hP.1 b hb).1,(h.hP.1 b hb).2.1⟩;have H:2^t.Trips.length<=256:=(Nat.pow_le_pow_right (by omega) p:_<=2^8);refine .iter (fun m (a:Int×Int×Int)=>∃c:Nat,a.2.2=(c:Int)/\ m+c=2^t.Trips.length/\ (match bst t f B r c with|none=>a.1= -1|some (b,w)=>a.1=(b:Int)/\ a.2.1=(w:Int))) (n:=2^t.Trips.length) ⟨0,rfl,rfl,rfl⟩ ?_;rintro m ⟨out,x,v⟩ ⟨c,F,hc,k⟩;simp only at F k;subst F;unfold yff;rw[yai (by omega),yij (by omega)];refine .chk (by omega) (.iteP (fun E=>?_) fun E=>.dn ?_)
 ·have u:c<2^t.Trips.length:=by omega
  refine .call (P:=fun o=>(match bst t f B r (c+1)with|none=>o.1= -1|some (b,w)=>o.1=(b:Int)/\ o.2=(w:Int))) (.eq (ybn h.hb h.hB p hE u).2 ?_) fun⟨R,U⟩ K=>.nx ⟨m-1,by omega,c+1,jah (by omega),by omega,K⟩;by_cases l:yel t B c
  ·rw[decide_eq_true l];have y:(PC t B c).length<=8:=by have:=ye1 h (c:=c);omega
   have hS:=ynm h (ps:=PC t B c) (yb5 h) (yil h p) y;refine .call (yq8 h (yb5 h) (yil h p) y (yez h.hb h.hB p u fun b hb=>(hE b hb).2)) fun S ⟨al,pr,Q,I,hP,C⟩=>?_;subst I;refine .call (yht hS hP (D:=0) (Nat.two_pow_pos _) C (Nat.two_pow_pos _)) fun O ⟨⟨T,G,L⟩,_⟩=>?_;have i:=g_t2 hS (yk5 _ _ _ 0 0) (L.t 0 fun j _ _=>by simp);have hV:Wv (PC t B c).length (sF t f B r (PC t B c)) (qF t f B r (PC t B c)) 0 0=Vc t f B r c:=rfl;rw[hV]at i;refine .call (P:=fun b=>b=decide (Vc t f B r c<(lst (bst t f B r c)))) ?_ fun b hb=>?_
   ·rw[G];cases g:bst t f B r c with
    |none=>
     rw[g]at k;simp only at k;rcases Nat.lt_or_ge (Vc t f B r c) BIG with hv|hv
     ·rw[i.1 hv,k];exact .iteP (fun _=>.iteP (fun _=>.ok (decide_eq_true hv).symm) fun h=>absurd (by decide) h) fun h=>absurd (show(0:Int)<=((Vc t f B r c:Nat):Int)by omega) h
     ·rw[i.2 hv];exact .iteP (fun h=>absurd h (by decide)) fun _=>.ok (decide_eq_false (by simp only[lst];omega)).symm
    |some z=>
     obtain⟨a,w⟩:=z;obtain⟨_,_,_,J,_⟩:=ybc g;rw[g]at k;obtain⟨M,N⟩:=k;rcases Nat.lt_or_ge (Vc t f B r c) BIG with hv|hv
     ·rw[i.1 hv,M,N];refine .iteP (fun _=>.iteP (fun h=>by omega) fun _=>.ok (decide_eq_decide.2 ?_)) fun h=>absurd (show(0:Int)<=((Vc t f B r c:Nat):Int)by omega) h;show((Vc t f B r c:Nat):Int)<(w:Int)↔_;simp only[lst];omega
     ·rw[i.2 hv];exact .iteP (fun h=>absurd h (by decide)) fun _=>.ok (decide_eq_false (by simp only[lst];omega)).symm
   ·subst hb;refine .iteP (fun h0=>.ok ?_) fun h0=>.ok ?_
    ·have:bst t f B r (c+1)=some (c,Vc t f B r c):=by rw[bst,if_pos ⟨l,h0⟩]
     rw[this];refine⟨rfl,?_⟩;have hv:Vc t f B r c<BIG:=by
      cases g:bst t f B r c with
      |none=>rw[g]at h0;exact h0
      |some z=>
       obtain⟨a,w⟩:=z;obtain⟨_,_,_,J,_⟩:=ybc g;rw[g]at h0;simp only[lst]at h0;omega
     show O.1=_;rw[G,i.1 hv];rfl
    ·have:bst t f B r (c+1)=bst t f B r c:=by rw[bst,if_neg fun A=>h0 A.2]
     rw[this];exact k
  ·rw[decide_eq_false l];have:bst t f B r (c+1)=bst t f B r c:=by rw[bst,if_neg fun A=>l A.1]
   refine .ok ?_;rw[this];exact k
 ·have:c=2^t.Trips.length:=by omega
  subst this;exact k
theorem yw2(h:RuP t f B r)(j:t.Trips.length<=8):zq82 t f B r=some (fewR t f B r):=by
 have hE:∀b∈B,b≠[]/\ ∀e∈b,0<=tix t e:=fun b hb=>⟨(h.hP.1 b hb).1,(h.hP.1 b hb).2.1⟩;unfold zq82;refine Tot.val (.call (yro h j) fun⟨o,x⟩ i=>?_);simp only at i;dsimp only
 unfold fewR;cases hb:bst t f B r (2^t.Trips.length)with
 |none=>
  rw[hb]at i;simp only at i;subst i;exact .iteP (fun _=>.ok rfl) fun h=>absurd (by decide) h
 |some u=>
  obtain⟨a,w⟩:=u;rw[hb]at i;obtain⟨D,E⟩:=i;subst D;subst E;obtain⟨y,I,z,k,_⟩:=ybc hb;have g:(PC t B a).length<=8:=by have:=ye1 h (c:=a);omega
  have hS:=ynm h (ps:=PC t B a) (yb5 h) (yil h j) g;refine .iteP (fun h=>by omega) fun _=>.call (yq8 h (yb5 h) (yil h j) g (yez h.hb h.hB j y fun b hb=>(hE b hb).2)) fun K ⟨al,pr,J,v,hP,A⟩=>?_;subst v;refine .call (yr0 hS hP (by rw[z]at k;exact k)) fun F ⟨l,m⟩=>?_;obtain⟨G,H⟩:=F;simp only at l m;subst l;refine .eq (yw7 g rfl (ywr h) (fun p C=>by have:=yb5 h p C;omega) m) (.chk (by decide) (.ok ?_));have:((w:Int).tmod 100000)=((w%100000:Nat):Int):=by rw[Int.tmod_eq_emod_of_nonneg (by omega)];omega
  rw[this]
end
def fi(d:Duty):Int:=(d.Pieces.getD 0 []).getD 0 0
section
variable{t:Timetable}{f:Fleet}{B:List (List Int)}{r:Rules}
def yll(t:Timetable)(u:List Bool)(seen:List Int):Prop:=yek u (seen.map (tix t))/\ seen.Nodup/\ ∀e∈seen,0<=tix t e
theorem yhg(m:t.Trips.length<=12){seen:List Int}(hd:seen.Nodup)(h:∀e∈seen,0<=tix t e):seen.length<=t.Trips.length:=by
 have:=pig (n:=t.Trips.length) (l:=seen.map (tix t)) (by
  rw[List.Nodup,List.pairwise_map];exact List.Pairwise.imp_of_mem (fun{a b} i _ g e=>g (yhc (h a i) e)) hd) (fun x k=>by
  obtain⟨e,j,rfl⟩:=List.mem_map.1 k;have:=yah (h e j);omega)
 rw[List.length_map]at this;exact this
theorem yq7{seen:List Int}(g:∀e∈seen,0<=tix t e){e:Int}:tix t e∈seen.map (tix t)↔e∈seen:=by
 constructor
 ·intro h;obtain⟨e',a,b⟩:=List.mem_map.1 h;have:=yhc (g e' a) b;subst this;exact a
 ·exact List.mem_map_of_mem
theorem yq5{l:List Int}{e:Int}(hd:l.Nodup)(h:e∉l):(l++[e]).Nodup:=List.nodup_append.2 ⟨hd,by simp,fun a b c hc=>by
 rw[List.mem_singleton.1 hc];intro e';exact h (e'▸b)⟩
theorem yd7{a b:List Int}(h:(a++b).Nodup):a.Nodup:=(List.nodup_append.1 h).1
theorem yyb(hb:TB t)(E:t.Trips.length<=12){p:List Int}(H:p.length<=3000)(G:∀e∈p,0<=tix t e){seen:List Int}{u:List Bool}(hU:yll t u seen):
  Tot (iter (yfy t p) ((seen.length:Int),(0:Int),u)) fun o=>(¬(seen++p).Nodup/\ o=.ret (.dn (.ret (.dn (.ret false))))) \/((seen++p).Nodup/\ ∃D,o=.go (((seen++p).length:Int),D)/\ yll t D (seen++p)):=by
 refine .iter (fun m (a:Int×Int×List Bool)=>∃k:Nat,a.2.1=(k:Int)/\ m+k=p.length/\ a.1=((seen++p.take k).length:Int)/\ yll t a.2.2 (seen++p.take k)) (n:=p.length) ⟨0,rfl,rfl,by simp,by simpa using hU⟩ ?_;rintro m ⟨L,v,w⟩ ⟨k,A,J,C,b⟩;simp only at A C b;subst A;subst C;unfold yfy;refine .iteP (fun g=>?_) fun g=>.dn (.inr ?_)
 ·obtain⟨e,h⟩:=jaj (l:=p) (i:=k) (by omega);have y:=G e (List.mem_of_getElem? h);have I:=yah y;have j:0<=tix t e/\ tix t e<12:=by omega
  have K:=yhg E b.2.1 b.2.2;have heq:seen++p=(seen++p.take k++[e])++p.drop (k+1):=by
   rw[List.append_assoc seen,<-jap h,List.append_assoc,List.take_append_drop]
  refine .eq (ixs h) (.eq (yen hb e) (.chk j (.eq (yhb b.1 j) ?_)));by_cases z:e∈seen++p.take k
  ·rw[decide_eq_true ((yq7 b.2.2).2 z)];refine .dn (.inl ⟨fun hd=>?_,rfl⟩);rw[heq]at hd;have:=(List.nodup_append.1 (yd7 hd)).2.2 e z e (List.mem_singleton.2 rfl);exact this rfl
  ·rw[decide_eq_false fun F=>z ((yq7 b.2.2).1 F)];refine .chk j (.eq (yhb b.1 j) (.nx ⟨m-1,by omega,k+1,jah (by omega),by omega,?_,?_⟩))
   ·simp only
    rw[jap h,<-List.append_assoc,jah (by omega)];simp;omega
   ·simp only
    rw[jap h,<-List.append_assoc];refine⟨?_,yq5 b.2.1 z,fun x hx=>?_⟩
    ·rw[List.map_append];exact ym5 b.1 j
    ·rcases List.mem_append.1 hx with hx|hx
     ·exact b.2.2 x hx
     ·rw[List.mem_singleton.1 hx];exact y
 ·have g:¬(k:Int)<(p.length:Int):=g;rw[List.take_of_length_le (by omega)]at b ⊢;exact⟨b.2.1,w,rfl,b⟩
theorem yya(hb:TB t)(F:t.Trips.length<=12){d:Duty}(G:d.Pieces.length<=4)(I:∀p∈d.Pieces,p.length<=3000/\ ∀e∈p,0<=tix t e){seen:List Int}{u:List Bool}(hU:yll t u seen):
  Tot (iter (ydt t d) ((seen.length:Int),(0:Int),u)) fun o=>(¬(seen++d.Pieces.flatten).Nodup/\ o=.ret (.dn (.ret false))) \/((seen++d.Pieces.flatten).Nodup/\ ∃z,o=.go (((seen++d.Pieces.flatten).length:Int),z)/\ yll t z (seen++d.Pieces.flatten)):=by
 refine .iter (fun m (a:Int×Int×List Bool)=>∃k:Nat,a.2.1=(k:Int)/\ m+k=d.Pieces.length/\ a.1=((seen++(d.Pieces.take k).flatten).length:Int)/\ yll t a.2.2 (seen++(d.Pieces.take k).flatten)) (n:=d.Pieces.length) ⟨0,rfl,rfl,by simp,by simpa using hU⟩ ?_;rintro m ⟨K,v,w⟩ ⟨k,A,J,C,b⟩;simp only at A C b;subst A;subst C;unfold ydt;refine .iteP (fun h=>?_) fun h=>.dn (.inr ?_)
 ·obtain⟨p,x⟩:=jaj (l:=d.Pieces) (i:=k) (by omega);have j:=I p (List.mem_of_getElem? x);have g:(d.Pieces.take (k+1)).flatten=(d.Pieces.take k).flatten++p:=by rw[jap x,List.flatten_append];simp
  have heq:d.Pieces.flatten=(d.Pieces.take (k+1)).flatten++(d.Pieces.drop (k+1)).flatten:=by rw[<-List.flatten_append,List.take_append_drop]
  refine .eq (ixs x) ?_;obtain⟨o,H,y⟩:=yyb hb F j.1 j.2 b;rw[H];rcases y with⟨D,rfl⟩|⟨D,z,rfl,E⟩
  ·refine .dn (.inl ⟨fun hd=>D ?_,rfl⟩);rw[heq,g,<-List.append_assoc]at hd;rw[List.append_assoc];exact yd7 hd
  ·refine .nx ⟨m-1,by omega,k+1,jah (by omega),by omega,?_,?_⟩
   ·simp only;rw[g,List.append_assoc]
   ·simp only;rw[g,<-List.append_assoc];exact E
 ·have h:¬(k:Int)<(d.Pieces.length:Int):=h;rw[List.take_of_length_le (by omega)]at b ⊢;exact⟨b.2.1,w,rfl,b⟩
theorem yxd{L:List Duty}{v k:Nat}{d:Duty}{p:List Int}(x:L[v]? =some d)(w:d.Pieces[k]? =some p)(C:p.length<=3000){seen:List Int}(D:seen.length<=50000)(hd:seen.Nodup):
  Tot (iter (yjg L (v:Int) (k:Int)) ((0:Int),seen)) fun o=>(¬(seen++p).Nodup/\ o=.ret (.dn (.ret (.dn (.ret false))))) \/((seen++p).Nodup/\ o=.go (seen++p)):=by
 refine .iter (fun m (a:Int×List Int)=>∃k:Nat,a.1=(k:Int)/\ m+k=p.length/\ a.2=seen++p.take k/\ (seen++p.take k).Nodup) (n:=p.length) ⟨0,rfl,rfl,by simp,by simpa using hd⟩ ?_;rintro m ⟨F,G⟩ ⟨j,y,E,z,g⟩;simp only at y z;subst y;subst z;unfold yjg;refine .eq (ixs x) (.eq (ixs w) (.iteP (fun b=>?_) fun b=>.dn (.inr ?_)))
 ·obtain⟨e,h⟩:=jaj (l:=p) (i:=j) (by omega);have heq:seen++p=(seen++p.take j++[e])++p.drop (j+1):=by
   rw[List.append_assoc seen,<-jap h,List.append_assoc,List.take_append_drop]
  have A:(seen++p.take j).length<=53000:=by rw[List.length_append,List.length_take];omega
  refine .eq (ixs x) (.eq (ixs w) (.eq (ixs h) (.eq (yb6 _ (by omega) e) ?_)));by_cases u:e∈seen++p.take j
  ·rw[decide_eq_true u];refine .dn (.inl ⟨fun hd=>?_,rfl⟩);rw[heq]at hd;exact(List.nodup_append.1 (yd7 hd)).2.2 e u e (List.mem_singleton.2 rfl) rfl
  ·rw[decide_eq_false u];refine .eq (ixs x) (.eq (ixs w) (.eq (ixs h) (.chk (by rw[List.length_singleton];omega) (.nx ⟨m-1,by omega,j+1,jah (by omega),by omega,?_,?_⟩))))
   ·simp only;rw[jap h,<-List.append_assoc]
   ·rw[jap h,<-List.append_assoc];exact yq5 g u
 ·have b:¬(j:Int)<(p.length:Int):=b;rw[List.take_of_length_le (by omega)]at g ⊢;exact⟨g,rfl⟩
theorem yxc{L:List Duty}{v:Nat}{d:Duty}(z:L[v]? =some d)(A:d.Pieces.length<=4)(E:∀p∈d.Pieces,p.length<=3000){seen:List Int}(F:seen.length<=12)(hd:seen.Nodup):
  Tot (iter (yfd L (v:Int)) ((0:Int),seen)) fun o=>(¬(seen++d.Pieces.flatten).Nodup/\ o=.ret (.dn (.ret false))) \/((seen++d.Pieces.flatten).Nodup/\ o=.go (seen++d.Pieces.flatten)):=by
 refine .iter (fun m (a:Int×List Int)=>∃k:Nat,a.1=(k:Int)/\ m+k=d.Pieces.length/\ a.2=seen++(d.Pieces.take k).flatten/\ (seen++(d.Pieces.take k).flatten).Nodup/\ (d.Pieces.take k).flatten.length<=3000*k) (n:=d.Pieces.length) ⟨0,rfl,rfl,by simp,by simpa using hd,by simp⟩ ?_;rintro m ⟨H,I⟩ ⟨k,x,G,y,g,C⟩;simp only at x y;subst x;subst y;unfold yfd;refine .eq (ixs z) (.iteP (fun e=>?_) fun e=>.dn (.inr ?_))
 ·obtain⟨p,j⟩:=jaj (l:=d.Pieces) (i:=k) (by omega);have w:=E p (List.mem_of_getElem? j);have b:(d.Pieces.take (k+1)).flatten=(d.Pieces.take k).flatten++p:=by rw[jap j,List.flatten_append];simp
  have heq:d.Pieces.flatten=(d.Pieces.take (k+1)).flatten++(d.Pieces.drop (k+1)).flatten:=by rw[<-List.flatten_append,List.take_append_drop]
  obtain⟨o,D,u⟩:=yxd z j w (seen:=seen++(d.Pieces.take k).flatten) (by rw[List.length_append];omega) g;rw[D];rcases u with⟨h,rfl⟩|⟨h,rfl⟩
  ·refine .dn (.inl ⟨fun hd=>h ?_,rfl⟩);rw[heq,b,<-List.append_assoc]at hd;rw[List.append_assoc];exact yd7 hd
  ·refine .nx ⟨m-1,by omega,k+1,jah (by omega),by omega,?_,?_,?_⟩
   ·simp only;rw[b,List.append_assoc]
   ·rw[b,<-List.append_assoc];exact h
   ·rw[b,List.length_append];omega
 ·have e:¬(k:Int)<(d.Pieces.length:Int):=e;rw[List.take_of_length_le (by omega)]at g ⊢;exact⟨g,rfl⟩
def fls(L:List Duty):List Int:=L.flatMap fun d=>d.Pieces.flatten
structure CovP(t:Timetable)(f:Fleet)(B:List (List Int))(r:Rules)(L:List Duty):Prop where
 br:∀d∈L,zq18 t f B r d=some 0
 asc:∀(i:Nat) d d',L[i]? =some d->L[i+1]? =some d'->fi d<fi d'
 nd:(fls L).Nodup
 len:(fls L).length=t.Trips.length
theorem ytw{L:List Duty}{i:Nat}{d:Duty}(h:L[i]? =some d):fls (L.take (i+1))=fls (L.take i)++d.Pieces.flatten:=by
 unfold fls;rw[jap h,List.flatMap_append];simp
theorem yrm(L:List Duty)(i:Nat):fls L=fls (L.take i)++fls (L.drop i):=by
 unfold fls;rw[<-List.flatMap_append,List.take_append_drop]
theorem yle(h:RuP t f B r){d:Duty}(o:d.Pieces.length<=4)(u:∀p∈d.Pieces,p.length<=3000)(hs:d.Pieces.flatten.length<=srtN):∃v,zq18 t f B r d=some v/\ zq72 t f B r d=some v/\ (v=0->(∀p∈d.Pieces,IsP B p)/\ (∀p∈d.Pieces,Trs t p)/\ ∃p e,d.Pieces[0]? =some p/\ p[0]? =some e/\ fi d=e/\ 1<=e):=by
 obtain⟨v,w,x,y⟩:=yeg (r:=r) (d:=d.Pieces) h.hb h.hA h.hP h.hB o u hs;refine⟨v,w,x,fun h0=>?_⟩;obtain⟨k,m,_⟩:=y h0;obtain⟨p,a⟩:=jaj (l:=d.Pieces) (i:=0) (by have:=k.1;omega);have j:=List.mem_of_getElem? a;have b:=m p j;obtain⟨e,g⟩:=jaj (l:=p) (i:=0) (by have:p.length≠0:=fun e=>b.1 (List.length_eq_zero_iff.1 e);omega);exact⟨k.2.1,m,p,e,a,g,by unfold fi;simp[List.getD_eq_getElem?_getD,a,g],yqu h.hA.1 (b.2.2 e (List.mem_of_getElem? g))⟩
theorem yon(h:RuP t f B r){L:List Duty}(hL:L.length<=1000)(hd:∀d∈L,d.Pieces.length<=4/\ (∀p∈d.Pieces,p.length<=3000)/\ d.Pieces.flatten.length<=srtN):∃v,zq32 t f B r L=some v/\ zq83 t f B r L=some v/\ (v=true↔CovP t f B r L):=by
 have hT:t.Trips.length<=12:=by have:=h.hA.1.2.1;omega
 have H:=jtq (A:=Int×Int×Int×List Bool) (A':=Int×List Int) (step:=ybi t f B r L) (step':=ybh t f B r L)
  (fun m a a'=>∃j:Nat,m+j=L.length/\ a.2.2.1=(j:Int)/\ a'.1=(j:Int)/\ a'.2=fls (L.take j)/\ a.1=((fls (L.take j)).length:Int)/\ yll t a.2.2.2 (fls (L.take j))/\ (∀d∈L.take j,zq18 t f B r d=some 0)/\ (∀(i:Nat) d d',i+1<j->L[i]? =some d->L[i+1]? =some d'->fi d<fi d')/\ (j=0->a.2.1=0)/\ ∀i d,j=i+1->L[i]? =some d->a.2.1=fi d)
  (fun b b'=>(b=.ret false/\ b'=.ret false/\ ¬CovP t f B r L) \/(b=.go ((fls L).length:Int)/\ b'=.go (fls L)/\ ((fls L).length=t.Trips.length->CovP t f B r L))) ?_ (k:=L.length) (a:=((0:Int),(0:Int),(0:Int),List.replicate 12 false)) (a':=((0:Int),([]:List Int))) ⟨0,rfl,rfl,rfl,rfl,rfl,⟨ym6,by simp[fls],by simp[fls]⟩,by simp,fun i d d' hi=>by omega,fun _=>rfl,fun i d hi=>by omega⟩
 ·obtain⟨b,b',aa,ab,ac⟩:=H;unfold zq32 zq83;rw[aa,ab];rcases ac with⟨rfl,rfl,hn⟩|⟨rfl,rfl,hy⟩
  ·exact⟨false,rfl,rfl,⟨fun h=>(by cases h),fun h=>absurd h hn⟩⟩
  ·refine⟨((fls L).length:Int)==(t.Trips.length:Int),rfl,rfl,⟨fun hh=>hy (by have:=beq_iff_eq.1 hh;omega),fun hc=>beq_iff_eq.2 (by have:=hc.len;omega)⟩⟩
 ·rintro m ⟨p,v,v1,v2⟩ ⟨w,w1⟩ ⟨j,hm,e1,e2,e3,e4,hU,F,V,hz,G⟩;simp only at e1 e2 e3 e4 hU hz G;subst e1;subst e2;subst e3;subst e4;by_cases hj:j<L.length
  ·obtain⟨d,g⟩:=jaj hj;have D:=hd d (List.mem_of_getElem? g);obtain⟨x,U,x2,x3⟩:=yle h D.1 D.2.1 D.2.2;have C:decide ((j:Int)<(L.length:Int))=true:=decide_eq_true (by omega);have N:(x≠0 \/fi d<=v)->(x=0->fi d<=v->0<j)->¬CovP t f B r L:=by
    rintro(hx|hx) h0 hc
    ·have:=hc.br d (List.mem_of_getElem? g);rw[U]at this;exact hx (Option.some.inj this)
    ·have Y:=hc.br d (List.mem_of_getElem? g);rw[U]at Y;have W:=h0 (Option.some.inj Y) hx;obtain⟨i,rfl⟩:∃i,j=i+1:=⟨j-1,by omega⟩;obtain⟨E,u⟩:=jaj (l:=L) (i:=i) (by omega);have:=hc.asc i E d u g;have:=G i E rfl u;omega
   by_cases hx:x=0
   ·subst hx;obtain⟨y1,y2,pp,e,y3,y4,y5,y6⟩:=x3 rfl;have a1:idx d.Pieces 0=some pp:=ixs (i:=0) y3;have a2:idx pp 0=some e:=ixs (i:=0) y4;have ah:e<=v↔(0<j/\ fi d<=v):=by
     rw[y5];constructor
     ·intro he;refine⟨?_,he⟩;rcases Nat.eq_zero_or_pos j with h0|h0
      ·have:=hz h0;omega
      ·exact h0
     ·exact fun h=>h.2
    by_cases P:e<=v
    ·have W:=(ah.1 P).1;obtain⟨i,rfl⟩:∃i,j=i+1:=⟨j-1,by omega⟩;obtain⟨E,u⟩:=jaj (l:=L) (i:=i) (by omega);have y:=hd E (List.mem_of_getElem? u);obtain⟨z,z1,_,z3⟩:=yle h y.1 y.2.1 y.2.2;have Q:z=0:=by
      have:=F E (by rw[jap u];simp);rw[z1]at this;exact Option.some.inj this
     obtain⟨_,_,p0,e0,u3,u4,u5,_⟩:=z3 Q;have b1:idx E.Pieces 0=some p0:=ixs (i:=0) u3;have b2:idx p0 0=some e0:=ixs (i:=0) u4;have ai:=G i E rfl u;have hw:w64 (((i+1:Nat):Int)-1)=(i:Int):=jff (by omega);have J:decide ((0:Int)<((i+1:Nat):Int))=true:=decide_eq_true (by omega);have I:decide (e<=e0)=true:=decide_eq_true (by omega);refine .inr ⟨.ret false,.ret false,?_,?_,.inl ⟨rfl,rfl,N (.inr (by omega)) fun _ _=>W⟩⟩
     ·simp only[ybi,C,if_true,jal,g,Option.bind_some,U,bne_self_eq_false,Bool.false_eq_true,if_false,a1,a2,decide_eq_true P]
     ·simp only[ybh,C,if_true,jal,g,Option.bind_some,x2,bne_self_eq_false,Bool.false_eq_true,if_false,J,hw,u,b1,b2,a1,a2,I]
    ·have X:decide (e<=v)=false:=decide_eq_false P;have ak:=yhg hT hU.2.1 hU.2.2;obtain⟨o,ho,af⟩:=yya h.hb hT D.1 (fun p hp=>⟨D.2.1 p hp,(y2 p hp).2.2⟩) hU;obtain⟨o',ae,M⟩:=yxc g D.1 D.2.1 (by omega) hU.2.1;have S:ybh t f B r L ((j:Int),fls (L.take j))=flb (iter (yfd L (j:Int)) ((0:Int),fls (L.take j))) fun(v9:List Int)=>some (.nx ((w64 ((j:Int)+1)),v9)):=by
      rcases Nat.eq_zero_or_pos j with h0|h0
      ·subst h0;have J:decide ((0:Int)<((0:Nat):Int))=false:=by decide
       simp only[ybh,C,if_true,jal,g,Option.bind_some,x2,bne_self_eq_false,Bool.false_eq_true,if_false,J]
      ·obtain⟨i,rfl⟩:∃i,j=i+1:=⟨j-1,by omega⟩;obtain⟨E,u⟩:=jaj (l:=L) (i:=i) (by omega);have y:=hd E (List.mem_of_getElem? u);obtain⟨z,z1,_,z3⟩:=yle h y.1 y.2.1 y.2.2;have Q:z=0:=by
        have:=F E (by rw[jap u];simp);rw[z1]at this;exact Option.some.inj this
       obtain⟨_,_,p0,e0,u3,u4,u5,_⟩:=z3 Q;have b1:idx E.Pieces 0=some p0:=ixs (i:=0) u3;have b2:idx p0 0=some e0:=ixs (i:=0) u4;have ai:=G i E rfl u;have hw:w64 (((i+1:Nat):Int)-1)=(i:Int):=jff (by omega);have J:decide ((0:Int)<((i+1:Nat):Int))=true:=decide_eq_true (by omega);have I:decide (e<=e0)=false:=decide_eq_false (by omega);simp only[ybh,C,if_true,jal,g,Option.bind_some,x2,bne_self_eq_false,Bool.false_eq_true,if_false,J,hw,u,b1,b2,a1,a2,I]
     have R:ybi t f B r L (((fls (L.take j)).length:Int),v,(j:Int),v2)=flb (iter (ydt t d) (((fls (L.take j)).length:Int),(0:Int),v2)) fun((p4,aj):Int×(List Bool))=>some (.nx (p4,e,(w64 ((j:Int)+1)),aj)):=by
      simp only[ybi,C,if_true,jal,g,Option.bind_some,U,bne_self_eq_false,Bool.false_eq_true,if_false,a1,a2,X]
     have K:=ytw g;rw[S,R,ho,ae];rcases af with⟨n1,rfl⟩|⟨n1,u',rfl,n2⟩
     ·rcases M with⟨n3,rfl⟩|⟨n3,rfl⟩
      ·refine .inr ⟨.ret false,.ret false,rfl,rfl,.inl ⟨rfl,rfl,fun hc=>n1 ?_⟩⟩;have:=hc.nd;rw[yrm L (j+1),K]at this;exact yd7 this
      ·exact absurd n3 n1
     ·rcases M with⟨n3,rfl⟩|⟨n3,rfl⟩
      ·exact absurd n1 n3
      ·refine .inl ⟨_,_,m-1,rfl,rfl,by omega,j+1,by omega,jah (by omega),jah (by omega),K.symm,by simp only;rw[K],by simp only;rw[K];exact n2,?_,?_,fun h=>by omega,?_⟩
       ·intro x hx;rw[jap g]at hx;rcases List.mem_append.1 hx with hx|hx
        ·exact F x hx
        ·rw[List.mem_singleton.1 hx];exact U
       ·intro i d1 d2 hi O T;by_cases e9:i+1=j
        ·subst e9;rw[g]at T;cases T;have:=G i d1 rfl O;omega
        ·exact V i d1 d2 (by omega) O T
       ·intro i d1 hi O;have:i=j:=by omega
        subst this;rw[g]at O;cases O;exact y5.symm
   ·have Z:(x !=0)=true:=by simp[hx]
    refine .inr ⟨.ret false,.ret false,?_,?_,.inl ⟨rfl,rfl,N (.inl hx) fun h=>absurd h hx⟩⟩
    ·simp only[ybi,C,if_true,jal,g,Option.bind_some,U,Z]
    ·simp only[ybh,C,if_true,jal,g,Option.bind_some,x2,Z]
  ·have ad:L.take j=L:=List.take_of_length_le (by omega);have C:decide ((j:Int)<(L.length:Int))=false:=decide_eq_false (by omega);rw[ad]at hU F ⊢;refine .inr ⟨.go ((fls L).length:Int),.go (fls L),?_,?_,.inr ⟨rfl,rfl,fun hl=>⟨F,fun i d d' O T=>V i d d' (by have:=ja7 T;omega) O T,hU.2.1,hl⟩⟩⟩
   ·simp only[ybi,C,Bool.false_eq_true,if_false]
   ·simp only[ybh,C,Bool.false_eq_true,if_false]
end
noncomputable def rng(t:Timetable)(τ:Int)(i:Nat):Bool:=match t.Trips[i]? with
 |some x=>decide (x.Start<=τ/\ τ<(zq28 t x).getD 0)
 |none=>false
noncomputable def cntR(t:Timetable)(τ:Int)(q:Nat):Nat:=((List.range q).filter (rng t τ)).length
section
variable{t:Timetable}{f:Fleet}{B:List (List Int)}{r:Rules}
theorem yth(h:AskF t f){K:Nat}(hK:∀τ,0<=τ->cntR t τ t.Trips.length<=K):Tot (zq48 t) fun r=>0<=r.2/\ r.2<=(K:Int):=by
 have R:=h.1.2.1;unfold zq48;refine .call (P:=fun r=>0<=r.2/\ r.2<=(K:Int)) ?_ fun⟨a,b⟩ k=>.ok k;refine .iter (fun m (s:Int×Int×Int)=>∃i:Nat,s.2.2=(i:Int)/\ m+i=t.Trips.length/\ 0<=s.2.1/\ s.2.1<=(K:Int)) (n:=t.Trips.length) ⟨0,rfl,rfl,Int.le_refl _,by show(0:Int)<=_;omega⟩ ?_;rintro m ⟨H,v,S⟩ ⟨i,p,Q,w,y⟩;simp only at p w y;subst p;unfold yjr;dsimp only
 refine .iteP (fun hc=>?_) (fun hc=>.dn ⟨w,y⟩);obtain⟨e,G⟩:=jaj (l:=t.Trips) (i:=i) (by omega);have z:=(ybb h.1 G).2.1;have L:=hK e.Start z.1;refine .call (P:=fun(o:Int×Int)=>0<=o.2/\ o.2<=(K:Int)) ?_ fun⟨C,T⟩ u=>.nx ⟨m-1,by omega,i+1,jah (by omega),by omega,u.1,u.2⟩
 ·refine .eq (ixs G) (.call (P:=fun r=>0<=r/\ r<=(K:Int)) ?_ fun W I=>.call (P:=fun _=>True) (.iteP (fun _=>.ok trivial) fun _=>.ite (fun _=>.ok trivial) fun _=>.ok trivial) fun b _=>.ite (fun _=>.ok I) fun _=>.ok ⟨w,y⟩);refine .iter (fun m (s:Int×Int)=>∃q:Nat,s.2=(q:Int)/\ m+q=t.Trips.length/\ s.1=((cntR t e.Start q:Nat):Int)) (n:=t.Trips.length) ⟨0,rfl,rfl,rfl⟩ ?_;rintro N ⟨U,V⟩ ⟨q,E,O,F⟩;simp only at E F;subst E;subst F;unfold yjs;dsimp only
  refine .iteP (fun M=>?_) (fun M=>.dn ?_)
  ·obtain⟨x,A⟩:=jaj (l:=t.Trips) (i:=q) (by omega);obtain⟨_,_,D,_⟩:=ybb h.1 A;have J:cntR t e.Start q<=q:=by
    have:=List.length_filter_le (rng t e.Start) (List.range q)
    rwa [List.length_range]at this
   have g:cntR t e.Start (q+1)=cntR t e.Start q+(if rng t e.Start q=true then 1 else 0):=by
    unfold cntR;rw[List.range_succ,List.filter_append,List.length_append,List.filter_cons];by_cases k:rng t e.Start q=true<;>simp[k]
   have j:rng t e.Start q=decide (x.Start<=e.Start/\ e.Start<ev t x):=by
    unfold rng;simp only[A,D,Option.getD_some]
   refine .call (P:=fun o=>o=((cntR t e.Start (q+1):Nat):Int)) (.eq (ixs A) (.call (P:=fun b=>b=rng t e.Start q) (.iteP (fun p=>.eq D (.ok ?_)) fun p=>.ok ?_) fun b hb=>?_)) fun o u=>.nx ⟨N-1,by omega,q+1,jah (by omega),by omega,u⟩
   ·rw[j];simp[p]
   ·rw[j];simp[p]
   ·subst hb;refine .ite (fun k=>.ok ?_) fun k=>.ok ?_
    ·rw[g,if_pos k];exact jah (by omega)
    ·rw[g,if_neg (by rw[k];simp)];rfl
  ·have:q=t.Trips.length:=by omega
   subst this;show 0<=((cntR t e.Start t.Trips.length:Nat):Int)/\ ((cntR t e.Start t.Trips.length:Nat):Int)<=_;omega
theorem yea{st en:Int->Int}{p:Int->Bool}{T:Int}:∀{c:List Int},c.Pairwise (fun a b=>en a<=st b)->(∀i∈c,p i=true->st i<=T/\ T<en i)->(c.filter p).length<=1
 |[],_,_=>by simp
 |a::c,h,e=>by
  obtain⟨j,k⟩:=List.pairwise_cons.1 h;have o:=yea (p:=p) k fun i hi=>e i (List.mem_cons_of_mem _ hi);rw[List.filter_cons];split
  ·rename_i l;have m:c.filter p=[]:=by
    rw[List.filter_eq_nil_iff];intro b hb g;have u:=e a (List.mem_cons_self ..) l;have v:=e b (List.mem_cons_of_mem _ hb) g;have w:=j b hb;omega
   rw[m];simp
  ·exact o
noncomputable def sI(t:Timetable)(e:Int):Int:=(tr t e).Start
noncomputable def eI(t:Timetable)(e:Int):Int:=ev t (tr t e)
theorem ydj(h:RuP t f B r){p:List Int}(G:IsP B p):p.Pairwise fun a b=>eI t a<=sI t b:=by
 obtain⟨h0,i,k,b,hb,F,x⟩:=G;obtain⟨_,C,hC⟩:=h.hP.1 b (List.mem_of_getElem? hb);have u:=fun{j:Nat}(E:j<p.length)=>ye4 hb F x E;have g:∀{j:Nat}{e:Int},p[j]? =some e->0<=tix t e:=fun{j e} y=>C e (List.mem_of_getElem? (by rw[u (ja7 y)];exact y));have step:∀(j:Nat) a c,p[j]? =some a->p[j+1]? =some c->eI t a<=sI t c:=fun j a c o hc=>by
  have hF:FolE t f a c:=hC (k+j) a c (by rw[u (ja7 o)];exact o) (by rw[Nat.add_assoc,u (ja7 hc)];exact hc);have z:=(ydm h.hA (g o) (g hc)).1;have A:=h.hA.2.2.1;unfold FolE Fol at hF;unfold eI sI;omega
 have v:∀(d j:Nat) a c,p[j]? =some a->p[j+d+1]? =some c->eI t a<=sI t c:=by
  intro d
  induction d with
  |zero=>intro j a c o hc;exact step j a c o hc
  |succ d H=>
   intro j a c o hc;obtain⟨m,w⟩:=jaj (l:=p) (i:=j+d+1) (by have:=ja7 hc;omega);have z:=H j a m o w;have I:=step (j+d+1) m c w hc;have A:=(yba h.hA (g w)).1;unfold eI sI at*;omega
 rw[List.pairwise_iff_getElem];intro a c o hc D;refine v (c-a-1) a _ _ (List.getElem?_eq_getElem o) ?_;have:a+(c-a-1)+1=c:=by omega
 rw[this];exact List.getElem?_eq_getElem hc
theorem ye0(h:RuP t f B r){p:List Int}(x:IsP B p)(m:Trs t p){e:Int}(l:e∈p):eI t e<=pE t p/\ pS t p<=sI t e:=by
 have g:=ydj h x;obtain⟨a,z,k,o,y,C,_,u,v⟩:=yal m;obtain⟨j,b⟩:=List.getElem?_of_mem l;have w:=ja7 b;have E:=yba h.hA (m.2.2 e l);have D:=yba h.hA C;have A:=yba h.hA y;unfold pE pS;rw[u,v];constructor
 ·by_cases i:j=p.length-1
  ·subst i;rw[o]at b;cases b;exact Int.le_refl _
  ·have:=pwG g (show j<p.length-1 by omega) b o;unfold eI sI at*;omega
 ·by_cases i:j=0
  ·subst i;rw[k]at b;cases b;exact Int.le_refl _
  ·have:=pwG g (show 0<j by omega) k b;unfold eI sI at*;omega
theorem yw5(h:RuP t f B r){d:List (List Int)}(l:d.length=1 \/d.length=2)(g:∀p∈d,IsP B p)(hd:∀p∈d,Trs t p)(k:GapP t f r d):d.flatten.Pairwise fun a b=>eI t a<=sI t b:=by
 match d,l with
 |[a],_=>simpa using ydj h (g a (by simp))
 |[a,b],_=>
  have i:=g a (by simp);have hb:=g b (by simp);have j:=hd a (by simp);have tb:=hd b (by simp);have m:=(yqy h.hA h.hP h.hR i hb j tb k).2;have e:[a,b].flatten=a++b:=by simp
  rw[e,List.pairwise_append];refine⟨ydj h i,ydj h hb,fun x o y u=>?_⟩;have v:=(ye0 h i j o).1;have w:=(ye0 h hb tb u).2;omega
theorem ycu{p:Int->Bool}:∀{L:List Duty},(∀d∈L,(d.Pieces.flatten.filter p).length<=1)->((fls L).filter p).length<=L.length
 |[],_=>by simp[fls]
 |c::L,h=>by
  have b:=h c (List.mem_cons_self ..);have a:=ycu (p:=p) (L:=L) fun c hc=>h c (List.mem_cons_of_mem _ hc);unfold fls at a ⊢;rw[List.flatMap_cons,List.filter_append,List.length_append,List.length_cons];omega
theorem yod(h:RuP t f B r){L:List Duty}(hd:∀d∈L,(d.Pieces.length=1 \/d.Pieces.length=2)/\ (∀p∈d.Pieces,IsP B p)/\ (∀p∈d.Pieces,Trs t p)/\ GapP t f r d.Pieces)(G:(fls L).Nodup)(v:(fls L).length=t.Trips.length)(τ:Int):cntR t τ t.Trips.length<=L.length:=by
 have g:∀e∈fls L,0<=tix t e:=fun e i=>by
  obtain⟨d,y,z⟩:=List.mem_flatMap.1 i;obtain⟨p,j,k⟩:=List.mem_flatten.1 z;exact((hd d y).2.2.1 p j).2.2 e k
 have D:((fls L).map (tix t)).Nodup:=by
  rw[List.Nodup,List.pairwise_map];exact List.Pairwise.imp_of_mem (fun{a b} o _ l e=>l (yhc (g a o) e)) G
 have E:∀x∈(fls L).map (tix t),0<=x/\ x<(t.Trips.length:Int):=fun x F=>by
  obtain⟨e,i,rfl⟩:=List.mem_map.1 F;have:=yah (g e i);omega
 have m:((fls L).map fun e=>(tix t e).toNat).Perm (List.range t.Trips.length):=by
  refine(List.perm_ext_iff_of_nodup ?_ List.nodup_range).2 fun a=>?_
  ·rw[List.Nodup,List.pairwise_map];exact List.Pairwise.imp_of_mem (fun{a b} o hb l e=>l (yhc (g a o) (by have:=g a o;have:=g b hb;omega))) G
  ·rw[List.mem_range];constructor
   ·intro K;obtain⟨e,i,rfl⟩:=List.mem_map.1 K;exact(yah (g e i)).2.2.2
   ·intro o;have:=ywo D E (by rw[List.length_map];exact v) o;obtain⟨e,i,M⟩:=List.mem_map.1 this;exact List.mem_map.2 ⟨e,i,by omega⟩
 unfold cntR;rw[<-(m.filter (rng t τ)).length_eq,List.filter_map,List.length_map];refine ycu fun d A=>?_;obtain⟨H,I,w,J⟩:=hd d A;refine yea (st:=sI t) (en:=eI t) (T:=τ) (yw5 h H I w J) fun e i u=>?_;obtain⟨p,j,k⟩:=List.mem_flatten.1 i;have F:=yah ((w p j).2.2 e k);have C:=(yba h.hA ((w p j).2.2 e k)).2.2.1;unfold rng at u;simp only[Function.comp_apply,F.1]at u;have u:=of_decide_eq_true u;rw[C]at u;exact u
end
def sumN(g:Nat->Nat):Nat->Nat
 |0=>0
 |m+1=>sumN g m+g m
section
variable{n:Nat}{s:Nat->Nat}{q:Nat->Nat->Nat}{ps:List (List Int)}
noncomputable def pcN(n:Nat)(s:Nat->Nat)(q:Nat->Nat->Nat)(j:Nat):Nat:=match bh n s q j with
 |some k=>q j k
 |none=>0
noncomputable def cD(n:Nat)(s:Nat->Nat)(q:Nat->Nat->Nat)(j:Nat):Nat:=match bh n s q j with
 |some k=>q j k
 |none=>if(stU n s q n).testBit j=true then 0 else s j
theorem yt0{i u:Nat}(h:fk n s q i u=none):∀k,k<n->¬okF n s q i u k:=fun k a=>by
 unfold fk at h;have:=List.find?_eq_none.1 h k (List.mem_range.2 a);simpa using this
theorem yxs{i:Nat}:Wv n s q i (stU n s q i)=pcN n s q i+Wv n s q (i+1) (stU n s q (i+1)):=by
 unfold pcN bh;rw[stU];cases h:fk n s q i (stU n s q i)with
 |some k=>
  obtain⟨_,_,_,_,_,j⟩:=yix h;simp only
  exact j.symm
 |none=>
  simp only
  have o:=yt0 h;have:=yha (Ct.isG_drop (yk5 n s q i (stU n s q i)) fun k w m a b e g p l=>o k m ⟨a,b,e,g,by rw[yha (by rw[<-yca];exact p)];exact l⟩);omega
theorem yxr:Wv n s q 0 0=sumN (cD n s q) n:=by
 have b:∀i,Wv n s q 0 0=sumN (pcN n s q) i+Wv n s q i (stU n s q i):=by
  intro i
  induction i with
  |zero=>unfold sumN stU;omega
  |succ i a=>rw[a,yxs,sumN];omega
 have e:Wv n s q n (stU n s q n)=Ct.sgl s (stU n s q n).testBit n:=yha Ct.isG_end;have g:∀m,m<=n->sumN (pcN n s q) m+Ct.sgl s (stU n s q n).testBit m=sumN (cD n s q) m:=by
  intro m
  induction m with
  |zero=>intro _;rfl
  |succ m a=>
   intro h;have a:=a (by omega);unfold sumN Ct.sgl;have:pcN n s q m+(if(stU n s q n).testBit m=true then 0 else s m)=cD n s q m:=by
    unfold pcN cD;cases hb:bh n s q m with
    |none=>simp
    |some k=>
     have:=(ya8 (n:=n) (s:=s) (q:=q) n m).2 ⟨m,k,by omega,hb,.inl rfl⟩;simp[this]
   omega
 rw[b n,e,g n (Nat.le_refl _)]
theorem yqw(g:Nat->Nat):∀{m i:Nat},i<m->g i<=sumN g m
 |0,i,h=>by omega
 |m+1,i,h=>by
  unfold sumN;by_cases e:i=m
  ·subst e;omega
  ·have:=yqw g (m:=m) (i:=i) (by omega);omega
noncomputable def ixN(n:Nat)(s:Nat->Nat)(q:Nat->Nat->Nat)(j:Nat):List Nat:=match bh n s q j with
 |some k=>[j,k]
 |none=>if(stU n s q n).testBit j=true then[]else[j]
theorem yhf{i j x:Nat}(e:i<=j)(h:(stU n s q i).testBit x=true):(stU n s q j).testBit x=true:=by
 obtain⟨a,k,g,b⟩:=(ya8 i x).1 h;exact(ya8 j x).2 ⟨a,k,by omega,b⟩
theorem ywv:((List.range n).flatMap (ixN n s q)).Perm (List.range n):=by
 have i:∀{j k:Nat},bh n s q j=some k->j≠k/\ k<n/\ (stU n s q j).testBit j=false/\ (stU n s q j).testBit k=false:=fun{j k} h=>by
  obtain⟨p,l,w,I,_⟩:=yix (show fk n s q j (stU n s q j)=some k from h);exact⟨l,p,w,I⟩
 have o:∀{j x:Nat},j<n->x∈ixN n s q j->(∃k,bh n s q j=some k/\ (x=j \/x=k)) \/(bh n s q j=none/\ x=j/\ (stU n s q n).testBit j=false):=fun{j x} z g=>by
  unfold ixN at g;cases hb:bh n s q j with
  |some k=>
   rw[hb]at g;simp only[List.mem_cons,List.not_mem_nil,or_false]at g;exact .inl ⟨k,rfl,g⟩
  |none=>
   rw[hb]at g;simp only at g;split at g
   ·cases g
   ·rename_i K;exact .inr ⟨rfl,List.mem_singleton.1 g,by simpa using K⟩
 refine(List.perm_ext_iff_of_nodup ?_ List.nodup_range).2 fun x=>?_
 ·rw[List.Nodup,List.pairwise_flatMap];refine⟨fun j z=>?_,List.pairwise_lt_range.imp_of_mem fun{a b} A hb J x g y E e=>?_⟩
  ·unfold ixN;cases hb:bh n s q j with
   |some k=>simp[(i hb).1]
   |none=>simp only;split<;>simp
  ·subst e;have A:=List.mem_range.1 A;have hb:=List.mem_range.1 hb;have u:∀{j k:Nat},bh n s q j=some k->x=j \/x=k->(stU n s q (j+1)).testBit x=true:=fun{j k} h g=>(ya8 (j+1) x).2 ⟨j,k,by omega,h,g⟩;rcases o A g with⟨k,p,l⟩|⟨p,l,w⟩
   ·have F:=u p l;rcases o hb E with⟨k',v,g2⟩|⟨v,g2,D⟩
    ·have m:=yhf (j:=b) (by omega) F;obtain⟨_,_,G,H⟩:=i v;rcases g2 with g2|g2
     ·rw[g2,G]at m;cases m
     ·rw[g2,H]at m;cases m
    ·have m:=yhf (j:=n) (by omega) F;rw[g2,D]at m;cases m
   ·rcases o hb E with⟨k',v,g2⟩|⟨v,g2,D⟩
    ·have m:=yhf (j:=n) (by omega) (u v g2);rw[l,w]at m;cases m
    ·omega
 ·rw[List.mem_flatMap,List.mem_range];constructor
  ·rintro⟨j,z,g⟩;have z:=List.mem_range.1 z;rcases o z g with⟨k,p,l⟩|⟨_,l,_⟩
   ·have:=(i p).2.1;rcases l with rfl|rfl<;>omega
   ·omega
  ·intro g;by_cases hb:(stU n s q n).testBit x=true
   ·obtain⟨j,k,p,l,w⟩:=(ya8 n x).1 hb;refine⟨j,List.mem_range.2 p,?_⟩;unfold ixN;rw[l];simp only[List.mem_cons,List.not_mem_nil,or_false];exact w
   ·refine⟨x,List.mem_range.2 g,?_⟩;have:bh n s q x=none:=by
     cases C:bh n s q x with
     |none=>rfl
     |some k=>exact absurd ((ya8 n x).2 ⟨x,k,g,C,.inl rfl⟩) hb
    unfold ixN;rw[this];simp[hb]
theorem yrj{i:Nat}:(match gD ps n s q i with|some d=>d.Pieces|none=>[])=(ixN n s q i).map fun j=>ps.getD j []:=by
 unfold gD prD snD ixN;cases hb:bh n s q i with
 |some k=>rfl
 |none=>
  by_cases a:(stU n s q n).testBit i=true
  ·simp[a]
  ·simp[a]
theorem yrl(G:Duty->List (List Int)):∀l:List Nat,(l.filterMap (gD ps n s q)).flatMap G=l.flatMap fun i=>match gD ps n s q i with|some d=>G d|none=>[]
 |[]=>rfl
 |i::l=>by
  have a:=yrl G l;rw[List.flatMap_cons];cases h:gD ps n s q i with
  |none=>rw[List.filterMap_cons_none h,a];rfl
  |some d=>rw[List.filterMap_cons_some h,List.flatMap_cons,a]
theorem ytt(b:ps.length=n):(List.range n).map (fun j=>ps.getD j [])=ps:=by
 refine List.ext_getElem? fun i=>?_;rw[List.getElem?_map];rcases Nat.lt_or_ge i n with h|h
 ·obtain⟨p,a⟩:=jaj (l:=ps) (i:=i) (by omega);rw[List.getElem?_range h,a];simp only[Option.map_some,List.getD_eq_getElem?_getD,a,Option.getD_some]
 ·rw[List.getElem?_eq_none (show(List.range n).length<=i by rw[List.length_range];exact h),List.getElem?_eq_none (show ps.length<=i by omega)];rfl
theorem yok(b:ps.length=n):((dutL ps n s q).flatMap fun d=>d.Pieces).Perm ps:=by
 unfold dutL;refine((Pdq.isort_perm _).flatMap_right _).trans ?_;rw[yrl fun d=>d.Pieces];have:(fun i=>match gD ps n s q i with|some d=>d.Pieces|none=>[])=fun i=>(ixN n s q i).map fun j=>ps.getD j []:=funext fun i=>yrj;rw[this];have a:((List.range n).flatMap fun i=>(ixN n s q i).map fun j=>ps.getD j [])=((List.range n).flatMap (ixN n s q)).map fun j=>ps.getD j []:=by rw[List.map_flatMap]
 rw[a];have:=ywv (n:=n) (s:=s) (q:=q)|>.map fun j=>ps.getD j [];rw[ytt b]at this;exact this
theorem yt2(l:HdP n ps)(i:Nat)(d d':Duty)(hi:(dutL ps n s q)[i]? =some d)(g:(dutL ps n s q)[i+1]? =some d'):ky d<ky d':=by
 have tr:∀a b c:Duty,ltK b a=false->ltK c b=false->ltK c a=false:=fun a b c o p=>by
  unfold ltK at*
  simp only[decide_eq_false_iff_not]at*;omega
 have k:∀a b:Duty,ltK a b=true->ltK b a=false:=fun a b h=>by
  unfold ltK at*
  simp only[decide_eq_false_iff_not,decide_eq_true_eq]at*;omega
 have o:(dutL ps n s q).Pairwise fun a b=>ltK b a=false:=Pdq.isort_sorted tr k _;have p:((List.range n).filterMap (gD ps n s q)).Pairwise fun a b=>ky a≠ky b:=by
  rw[List.pairwise_filterMap];refine List.pairwise_lt_range.imp_of_mem fun{a b} j hb v x w y z e=>?_;have j:=List.mem_range.1 j;have hb:=List.mem_range.1 hb;rw[(yoj l j w).2,(yoj l hb z).2]at e;have:=l.inj a b j hb e;omega
 have u:(dutL ps n s q).Pairwise fun a b=>ky a≠ky b:=((Pdq.isort_perm (lt:=ltK) ((List.range n).filterMap (gD ps n s q))).pairwise_iff (fun{a b} h e=>h e.symm)).2 p;have m:=pwG o (Nat.lt_succ_self i) hi g;have A:=pwG u (Nat.lt_succ_self i) hi g;unfold ltK at m;simp only[decide_eq_false_iff_not]at m;omega
end
section
variable{t:Timetable}{f:Fleet}{B:List (List Int)}{r:Rules}{ps:List (List Int)}
theorem yx6{i:Nat}{d:Duty}(h:gD ps ps.length (sF t f B r ps) (qF t f B r ps) i=some d):dc t f B r d.Pieces=cD ps.length (sF t f B r ps) (qF t f B r ps) i/\ (d.Pieces.length=1 \/d.Pieces.length=2)/\ ∃a b,d.Pieces=[ps.getD i []] \/(d.Pieces=[ps.getD a [],ps.getD b []]/\ b<ps.length/\ a=i/\ i≠b):=by
 unfold gD prD snD at h;unfold cD;cases hb:bh ps.length (sF t f B r ps) (qF t f B r ps) i with
 |some k=>
  rw[hb]at h;cases h;have:=(yix (show fk _ _ _ i _=some k from hb)).1;have e:=(yix (show fk _ _ _ i _=some k from hb)).2.1;exact⟨by show dc t f B r [ps.getD i [],ps.getD k []]=qF t f B r ps i k;unfold qF;rw[if_neg e],.inr rfl,i,k,.inr ⟨rfl,this,rfl,e⟩⟩
 |none=>
  rw[hb]at h;simp only[Option.map_none]at h ⊢;split at h
  ·cases h
  ·rename_i g;cases h;rw[if_neg g];exact⟨rfl,.inl rfl,0,0,.inl rfl⟩
theorem yw0{i:Nat}(h:gD ps ps.length (sF t f B r ps) (qF t f B r ps) i=none):cD ps.length (sF t f B r ps) (qF t f B r ps) i=0:=by
 unfold gD prD snD at h;unfold cD;cases hb:bh ps.length (sF t f B r ps) (qF t f B r ps) i with
 |some k=>rw[hb]at h;cases h
 |none=>
  rw[hb]at h;simp only[Option.map_none]at h ⊢;split at h
  ·rename_i a;rw[if_pos a]
  ·cases h
theorem yw6:((dutL ps ps.length (sF t f B r ps) (qF t f B r ps)).map fun d=>dc t f B r d.Pieces).sum=Wv ps.length (sF t f B r ps) (qF t f B r ps) 0 0:=by
 unfold dutL;rw[((Pdq.isort_perm _).map _).sum_nat,yxr];have:∀m,m<=ps.length->(((List.range m).filterMap (gD ps ps.length (sF t f B r ps) (qF t f B r ps))).map fun d=>dc t f B r d.Pieces).sum=sumN (cD ps.length (sF t f B r ps) (qF t f B r ps)) m:=by
  intro m
  induction m with
  |zero=>intro _;rfl
  |succ m b=>
   intro e;rw[yd9,List.map_append,List.sum_append,b (by omega),sumN];cases a:gD ps ps.length (sF t f B r ps) (qF t f B r ps) m with
   |none=>rw[yw0 a];simp
   |some d=>simp[(yx6 a).1]
 exact this _ (Nat.le_refl _)
structure DutP(t:Timetable)(f:Fleet)(B:List (List Int))(r:Rules)(d:Duty):Prop where
 len:d.Pieces.length=1 \/d.Pieces.length=2
 big:∀p∈d.Pieces,p.length<=3000
 sm:d.Pieces.flatten.length<=srtN
 br:zq18 t f B r d=some 0
 isP:∀p∈d.Pieces,IsP B p
 tr:∀p∈d.Pieces,Trs t p
 gp:GapP t f r d.Pieces
 pd:zq47 t f r d=some (pdv t f r d.Pieces)
 cst:(dc t f B r d.Pieces:Int)=100000+pdv t f r d.Pieces
 rg:0<=pdv t f r d.Pieces/\ pdv t f r d.Pieces<=3600
theorem yw8(h:RuP t f B r)(l:∀p∈ps,p.length<=3000)(hs:SmP ps)(hW:Wv ps.length (sF t f B r ps) (qF t f B r ps) 0 0<BIG){d:Duty}(hd:d∈dutL ps ps.length (sF t f B r ps) (qF t f B r ps)):DutP t f B r d:=by
 unfold dutL at hd;obtain⟨i,hi,A⟩:=List.mem_filterMap.1 ((Pdq.isort_perm _).mem_iff.1 hd);have hi:=List.mem_range.1 hi;obtain⟨I,y,a,b,g⟩:=yx6 A;have e:∀{j:Nat},j<ps.length->ps.getD j []∈ps:=fun{j} w=>by
  obtain⟨p,l⟩:=jaj w;rw[List.getD_eq_getElem?_getD,l];exact List.mem_of_getElem? l
 have k:∀p∈d.Pieces,p.length<=3000:=fun p o=>by
  rcases g with g|⟨g,hb,rfl,_⟩
  ·rw[g]at o;rw[List.mem_singleton.1 o];exact l _ (e hi)
  ·rw[g]at o;simp only[List.mem_cons,List.not_mem_nil,or_false]at o;rcases o with rfl|rfl
   ·exact l _ (e hi)
   ·exact l _ (e hb)
 have u:d.Pieces.flatten.length<=srtN:=by
  have m:∀{j:Nat},j<ps.length->ps[j]? =some (ps.getD j []):=fun{j} w=>by
   obtain⟨p,l⟩:=jaj w;rw[List.getD_eq_getElem?_getD,l];rfl
  rcases g with g|⟨g,hb,rfl,v⟩
  ·rw[g];simpa using hs.1 _ (List.mem_of_getElem? (m hi))
  ·rw[g];simpa using hs.2 _ _ _ _ v (m hi) (m hb)
 have x:dc t f B r d.Pieces<BIG:=by
  have:=yqw (cD ps.length (sF t f B r ps) (qF t f B r ps)) hi;rw[<-yxr]at this;omega
 obtain⟨_,_,g3,z,_⟩:=yeb (d:=d.Pieces) h.hb h.hA h.hP h.hB h.hR y k u;obtain⟨C,D,E,F,G,H,_⟩:=z x;exact⟨y,k,u,C,E.2.1,F,G,H,D,by rcases g3 with g3|g3<;>omega⟩
end
theorem yrw(a:List Int)(p:a.length<=9)(k:Int):Tot (iter (yfp a k) (((-1):Int),(0:Int))) fun v=>v= -1 \/∃j:Nat,v=(j:Int)/\ a[j]? =some k:=by
 refine .iter (fun q s=>s.2=((a.length-q:Nat):Int)/\ q<=a.length/\ (s.1= -1 \/∃j:Nat,s.1=(j:Int)/\ a[j]? =some k)) (n:=a.length) ⟨by simp,Nat.le_refl _,.inl rfl⟩ ?_;rintro q ⟨v,u⟩ ⟨g,o,e⟩;simp only at g e;subst g;unfold yfp;refine .iteP (fun hc=>?_) (fun hc=>.dn e);obtain⟨b,hb⟩:=jaj (l:=a) (i:=a.length-q) (by omega);refine .call (P:=fun v=>v= -1 \/∃j:Nat,v=(j:Int)/\ a[j]? =some k) (.eq (ixs hb) (.ite (fun m=>.ok (.inr ⟨_,rfl,by rw[hb];simpa using m⟩)) fun _=>.ok e)) fun w h=>.nx ⟨q-1,by omega,?_,by omega,h⟩;exact yt9 hc o (by omega)
theorem yrv{t:Timetable}{f:Fleet}(h:AskF t f)(u:t.Trips.length<=9){a:List Int}(hB:BeP t f a){i:Nat}(hi:i<a.length):Tot (iter (yfo t a) ((i:Int),([]:List Int))) fun b=>1<=b.length/\ b.length<=1801:=by
 refine .iter (fun q s=>s.2.length+q<=1801/\ ((s.1= -1/\ 1<=s.2.length) \/∃(k:Nat)(x:Trip),s.1=(k:Int)/\ t.Trips[k]? =some x/\ 1800-x.Start<=(q:Int))) (n:=1801) ⟨by simp,.inr ?_⟩ ?_
 ·obtain⟨x,g⟩:=jaj (l:=t.Trips) (i:=i) (by rw[<-hB.1];exact hi);have:=(ybb h.1 g).2.1;exact⟨i,x,rfl,g,by omega⟩
 ·rintro q ⟨k,next⟩ ⟨v,e⟩;simp only at v e;unfold yfo;refine .iteP (fun hc=>?_) (fun hc=>.dn ?_)
  ·rcases e with⟨e,_⟩|⟨j,x,e,g,hs⟩
   ·omega
   ·subst e;have w:=(ybb h.1 g).2.1;refine .eq (ixs g) (.chk (by simp;omega) (.call (yrw a (by rw[hB.1];exact u) (j:Int)) fun A m=>.nx ⟨q-1,by omega,by simp;omega,?_⟩));rcases m with m|⟨j',m,hb⟩
    ·exact .inl ⟨m,by simp⟩
    ·right;rcases hB.2 j' _ hb with hb|⟨k',x',y,z,o,p,hF⟩
     ·omega
     ·have:k'=j:=by omega
      subst this;rw[g]at o;cases o;have:=yrk h g p hF;exact⟨j',y,m,p,by omega⟩
  ·rcases e with⟨_,e⟩|⟨j,x,e,_,_⟩
   ·exact⟨e,by omega⟩
   ·omega
theorem yru{t:Timetable}{f:Fleet}(h:AskF t f)(o:t.Trips.length<=9){a:List Int}(hB:BeP t f a):Tot (zq64 t a) fun B=>B.length<=9/\ ∀b∈B,1<=b.length/\ b.length<=1801:=by
 have p:=hB.1;unfold zq64;refine .call (P:=fun B=>B.length<=9/\ ∀b∈B,1<=b.length/\ b.length<=1801) ?_ fun B hB=>.ok hB;refine .iter (fun q s=>s.1=((a.length-q:Nat):Int)/\ q<=a.length/\ s.2.length+q<=9/\ ∀b∈s.2,1<=b.length/\ b.length<=1801) (n:=a.length) ⟨by simp,Nat.le_refl _,by simp;omega,by simp⟩ ?_;rintro q ⟨v,B⟩ ⟨m,y,w,hb⟩;simp only at m w hb;subst m;unfold yjl;refine .iteP (fun hc=>?_) (fun hc=>.dn ⟨by omega,hb⟩);obtain⟨e,u⟩:=jaj (l:=a) (i:=a.length-q) (by omega);refine .call (P:=fun g=>g.length+(q-1)<=9/\ ∀b∈g,1<=b.length/\ b.length<=1801) (.eq (ixs u) (.iteP (fun _=>.ok ⟨by omega,hb⟩) fun _=>.call (yrv h o hB (by omega)) fun b k=>.chk (by simp;omega) (.ok ⟨by simp;omega,fun x hx=>?_⟩))) fun g j=>.nx ⟨q-1,by omega,?_,by omega,j⟩
 ·rcases List.mem_append.1 hx with hx|hx
  ·exact hb x hx
  ·rw[List.mem_singleton.1 hx];exact k
 ·show w64 (((a.length-q:Nat):Int)+1)=_;rw[jak (by omega)];omega
theorem yhp{k:Nat}{c:l1Cur}(h:Cur k c)(D:k<=10000000):Tot (zq97 c) fun r=>Cur (k+4000000) r.2.2.2.2/\ DT r.1/\ FB r.2.1/\ BB r.2.2.1:=by
 unfold zq97;refine .call (Tot.pc (ytc h (by omega)) (ytb h (by omega))) fun r ⟨⟨hc,hd⟩,w⟩=>?_;refine .call (P:=fun o=>Cur (k+4000) ⟨o.1,o.2.1,⟨o.2.2.1⟩⟩/\ o.2.2.2.length<=30) ?_ ?_
 ·refine .call (P:=fun o=>Cur (k+3900) ⟨o.2.1,o.2.2.1,⟨o.2.2.2⟩⟩/\ (o.1=true->6<r.1.Trips.length)) (.iteP (fun A=>.call (yyf 10 hc (by omega)) fun y a=>.ok ⟨a.mono (by omega),fun _=>by omega⟩) fun _=>.ok ⟨hc.mono (by omega),fun h=>by cases h⟩) fun⟨J,K,L,M⟩ ⟨i,l⟩=>?_;refine .ite (fun C=>.chk (by have:=l C;omega) (.ok ⟨i.mono (by omega),?_⟩)) fun _=>.ok ⟨i.mono (by omega),hd.2⟩;simp only[List.length_drop,List.length_take];have:=hd.2;omega
 ·rintro⟨v,H,I,g⟩ ⟨i,l⟩;simp only at i l;have e:DT ⟨r.1.Network,g⟩:=⟨hd.1,l⟩;refine .call (yty i (by omega) ⟨w,hd.1.1⟩) fun y ⟨a,u⟩=>?_;refine .call (yom a (by omega)) fun E j=>.eq (yd8 (t:=⟨r.1.Network,g⟩) e.tb u) ?_;refine .call (P:=fun b=>b=false->AskF ⟨r.1.Network,g⟩ y.1/\ g.length<=9) (.iteN (fun _=>.ok fun h=>by cases h) fun hA=>.ok fun h=>⟨hA,by have:(g.length:Int)<=9:=(by simpa using h);omega⟩) fun b hb=>.ite (fun _=>.ok ⟨j.mono (by omega),e,u,by simp,by simp⟩) fun p=>?_;obtain⟨hA,x⟩:=hb p;refine .call (yr1 (t:=⟨r.1.Network,g⟩) hA x) fun F z=>.call (yru (t:=⟨r.1.Network,g⟩) hA x z) fun G ⟨A,m⟩=>?_;exact .ok ⟨j.mono (by omega),e,u,by dsimp only;omega,fun b hb=>by have:=m b hb;omega⟩
section
variable{t:Timetable}{f:Fleet}{B:List (List Int)}{r:Rules}
theorem yic(a:List (List Int))(h:a.length<=1000)(g:∀p∈a,p.length<=1000):yj7 a a=some true:=by
 unfold yj7;simp only[bne_self_eq_false,Bool.false_eq_true,if_false];rw[jdi (hd:=Classical.propDecidable _) a (fun _ _=>True) (fun i x e=>?_) (by unfold ycx;simp)]
 ·rw[if_pos (fun _ _ _=>trivial)]
 ·have hi:=(List.getElem?_eq_some_iff.1 e).1;unfold ycx;have b:decide ((i:Int)<(a.length:Int))=true:=by rw[decide_eq_true_eq];omega
  left;simp only[b,if_true,jal,e,Option.bind_some,yn8 x (g x (List.mem_of_getElem? e)),Bool.not_true,Bool.false_eq_true,if_false,jah (n:=i) (by omega),and_self]
theorem ycs(a:List Duty)(h:a.length<=1000)(j:∀d∈a,d.Pieces.length<=1000/\ ∀p∈d.Pieces,p.length<=1000):yh4 a a=some true:=by
 unfold yh4;simp only[bne_self_eq_false,Bool.false_eq_true,if_false];rw[jdi (hd:=Classical.propDecidable _) a (fun _ _=>True) (fun i x g=>?_) (by unfold ycz;simp)]
 ·rw[if_pos (fun _ _ _=>trivial)]
 ·have hi:=(List.getElem?_eq_some_iff.1 g).1;have b:=j x (List.mem_of_getElem? g);unfold ycz;have e:decide ((i:Int)<(a.length:Int))=true:=by rw[decide_eq_true_eq];omega
  left;simp only[e,if_true,jal,g,Option.bind_some,yic x.Pieces b.1 b.2,Bool.not_true,Bool.false_eq_true,if_false,jah (n:=i) (by omega),and_self]
theorem yt1(hb:TB t)(e:FB f)(hB:BB B)(r:Rules):∃o,zq6 t f B r=some o/\ zq60 t f B r=some o/\ ((o=([],0,0,false)) \/(RuP t f B r/\ zq16 t f B r=some true/\ t.Trips.length<=8/\ o=fewR t f B r)):=by
 obtain⟨v,g,i,j⟩:=yob hb e hB r;unfold zq6 zq60;rw[g,i];cases v with
 |false=>exact⟨_,rfl,rfl,.inl rfl⟩
 |true=>
  obtain⟨hA,hP,hR⟩:=j rfl;have h:RuP t f B r:=⟨hb,hA,hP,hB,hR⟩;by_cases b:t.Trips.length<=8
  ·have a:decide (8<(t.Trips.length:Int))=false:=decide_eq_false (by omega);refine⟨fewR t f B r,?_,?_,.inr ⟨h,rfl,b,rfl⟩⟩
   ·simp only[Option.bind_some,Bool.not_true,Bool.false_eq_true,if_false,yw3 h b]
   ·simp only[Option.bind_some,Bool.not_true,Bool.false_eq_true,if_false,a,yw2 h b]
  ·have a:decide (8<(t.Trips.length:Int))=true:=decide_eq_true (by omega);refine⟨([],0,0,false),?_,?_,.inl rfl⟩
   ·unfold zq29;simp only[Option.bind_some,Bool.not_true,Bool.false_eq_true,if_false,a,if_true]
   ·simp only[Option.bind_some,Bool.not_true,Bool.false_eq_true,if_false,a,if_true]
theorem ym7:∀{l:List Duty},(∀d∈l,DutP t f B r d)->(((l.map fun d=>dc t f B r d.Pieces).sum:Nat):Int)=100000*(l.length:Int)+(l.map fun d=>pdv t f r d.Pieces).sum/\ 0<=(l.map fun d=>pdv t f r d.Pieces).sum/\ (l.map fun d=>pdv t f r d.Pieces).sum<=3600*(l.length:Int)
 |[],_=>by simp
 |d::l,h=>by
  obtain⟨e,g,i⟩:=ym7 (l:=l) fun d hd=>h d (List.mem_cons_of_mem _ hd);have hd:=h d (List.mem_cons_self ..);have a:=hd.cst;have b:=hd.rg;simp only[List.map_cons,List.sum_cons,List.length_cons];omega
theorem ytx(l:List Duty):fls l=(l.flatMap fun d=>d.Pieces).flatten:=by
 unfold fls
 induction l with
 |nil=>rfl
 |cons d l a=>rw[List.flatMap_cons,List.flatMap_cons,List.flatten_append,a]
theorem yx4(h:RuP t f B r){p:List Int}(g:IsP B p):p.Nodup:=by
 obtain⟨_,i,k,b,hb,j,e⟩:=g;have:=yd6 h.hP.2.1;rw[List.Nodup,List.pairwise_flatten]at this;have a:b.Nodup:=this.1 b (List.mem_of_getElem? hb);rw[<-e];exact(a.sublist (List.take_sublist _ _)).sublist (List.drop_sublist _ _)
theorem yw1(h:RuP t f B r){a w:Nat}(p:t.Trips.length<=8)(b:bst t f B r (2^t.Trips.length)=some (a,w)){L:List Duty}(hL:L=dutL (PC t B a) (PC t B a).length (sF t f B r (PC t B a)) (qF t f B r (PC t B a))):
  CovP t f B r L/\ (∀d∈L,DutP t f B r d)/\ L.length<=8/\ (w:Int)=100000*(L.length:Int)+(L.map fun d=>pdv t f r d.Pieces).sum/\ ((L.flatMap fun d=>d.Pieces).length=(PC t B a).length):=by
 obtain⟨v,x,k,l,_⟩:=ybc b;have u:=ye1 h (c:=a);have hD:∀d∈L,DutP t f B r d:=fun d hd=>yw8 h (yb5 h) (yil h p) (by rw[k]at l;exact l) (by rw[hL]at hd;exact hd);have j:(L.flatMap fun d=>d.Pieces).Perm (PC t B a):=by rw[hL];exact yok rfl
 have e:(fls L).Perm B.flatten:=by
  rw[ytx,<-yhk h (c:=a)];exact j.flatten
 have g:L.length<=8:=by
  rw[hL];unfold dutL;rw[Pdq.isort_len];have:=ye5 (gD (PC t B a) (PC t B a).length (sF t f B r (PC t B a)) (qF t f B r (PC t B a))) (PC t B a).length;omega
 refine⟨⟨fun d hd=>(hD d hd).br,fun i d d' m o=>?_,e.nodup_iff.2 (yd6 h.hP.2.1),by rw[e.length_eq];exact h.hP.2.2⟩,hD,g,?_,j.length_eq⟩
 ·rw[hL]at m o;exact yt2 (ywr h) i d d' m o
 ·have:=(ym7 hD).1;rw[<-this,hL,yw6,k];rfl
end
theorem yt3(a:List UInt8):Tot (zq59 a) fun r=>DT r.1/\ FB r.2.1/\ BB r.2.2.1:=by
 unfold zq59;exact .call (yhp (cur0 a) (by omega)) fun r ⟨_,hd,b,hB⟩=>.ok ⟨hd,b,hB⟩
theorem cutting_true(z:List UInt8):yay z=some true:=by
 unfold yay;rw[ywk];simp only[Option.bind_some];split
 ·rfl
 ·obtain⟨⟨t,f,B,r⟩,hr,hd,M,hB⟩:=yt3 z;simp only at hd M hB;have hb:=hd.tb;rw[hr];obtain⟨o,o1,o2,y⟩:=yt1 hb M hB r;simp only[Option.bind_some,o1,o2];have X:yh4 [] []=some true:=ycs [] (by simp) (by simp);rcases y with y|⟨h,A,I,y⟩
  ·subst y;simp[X]
  ·unfold fewR at y;cases v:bst t f B r (2^t.Trips.length)with
   |none=>
    rw[v]at y;subst y;simp[X]
   |some Z=>
    obtain⟨a,w⟩:=Z;rw[v]at y;simp only at y;obtain⟨L,hL⟩:∃L,L=dutL (PC t B a) (PC t B a).length (sF t f B r (PC t B a)) (qF t f B r (PC t B a)):=⟨_,rfl⟩;rw[<-hL]at y;subst y;obtain⟨G,u,c3,c4,c5⟩:=yw1 h I v hL;obtain⟨V,g2,_⟩:=ybc v;have hs:=(ym7 u).2;have N:(((w%100000:Nat):Nat):Int)=(L.map fun d=>pdv t f r d.Pieces).sum:=by omega
    have R:yh4 L L=some true:=ycs L (by omega) fun d hd=>⟨by have:=(u d hd).len;omega,fun p W=>by
     have:=((u d hd).tr p W);have aa:=yhg (by have:=h.hA.1.2.1;omega) (yx4 h ((u d hd).isP p W)) this.2.2;omega⟩
    obtain⟨cv,C,_,H⟩:=yon h (L:=L) (by omega) fun d hd=>⟨by have:=(u d hd).len;omega,(u d hd).big,(u d hd).sm⟩;have J:cv=true:=H.2 G;subst J;have e5:zq7 t f B r L=some (true,true):=by
     unfold zq7;simp only[A,Option.bind_some,Bool.not_true,Bool.false_eq_true,if_false,C]
    have e6:zq13 t f B r L=some (((w%100000:Nat):Int),true):=by
     unfold zq13;simp only[A,Option.bind_some,Bool.not_true,Bool.false_eq_true,if_false,C];refine Tot.val (.call (P:=fun o=>o=((w%100000:Nat):Int)) ?_ fun o ho=>.ok (by rw[ho]));refine .iter (fun m (s:Int×Int)=>∃j:Nat,s.2=(j:Int)/\ m+j=L.length/\ s.1=((L.take j).map fun d=>pdv t f r d.Pieces).sum) (n:=L.length) ⟨0,rfl,rfl,rfl⟩ ?_;rintro m ⟨v1,v2⟩ ⟨j,q1,q2,F⟩;simp only at q1 F;subst q1;subst F;unfold ykl;refine .iteP (fun g=>?_) fun g=>.dn ?_
     ·obtain⟨d,k⟩:=jaj (l:=L) (i:=j) (by omega);have D:=u d (List.mem_of_getElem? k);have ac:=D.rg;have E:=(ym7 (l:=L.take j) fun d hd=>u d (List.mem_of_mem_take hd)).2;rw[List.length_take]at E;refine .eq (ixs k) (.eq D.pd (.nx ⟨m-1,by omega,j+1,jah (by omega),by omega,?_⟩));simp only
      rw[jak (by omega),jap k,List.map_append,List.sum_append];simp
     ·have g:¬(j:Int)<(L.length:Int):=g;rw[List.take_of_length_le (by omega),N]
    obtain⟨Y,S,ad,T⟩:=yth h.hA (K:=L.length) fun τ _=>yod h (fun d hd=>⟨(u d hd).len,(u d hd).isP,(u d hd).tr,(u d hd).gp⟩) G.nd G.len τ;have e7:zq5 t f B r=some (Y.2,true):=by
     unfold zq5;simp only[A,Option.bind_some,Bool.not_true,Bool.false_eq_true,if_false,S]
    have hE:∀b∈B,b≠[]/\ ∀e∈b,0<=tix t e:=fun b hb=>⟨(h.hP.1 b hb).1,(h.hP.1 b hb).2.1⟩;have Q:zq8 t f B=some true:=by
     obtain⟨x,x1,_,_⟩:=ycr hb M hB;unfold zq16 at A;rw[x1]at A ⊢;cases x with
     |true=>rfl
     |false=>simp at A
    have e8:zq4 t f B (a:Int)=some (PC t B a,true):=by
     have h8:decide (8<(t.Trips.length:Int))=false:=decide_eq_false (by omega);unfold zq4;simp only[Q,Option.bind_some,Bool.not_true,Bool.false_eq_true,if_false,h8,(ybn hb hB I hE V).1,decide_eq_true g2,yik hb hB I V fun b hb=>(hE b hb).2];rfl
    have e9:iter (yak (L,(a:Int),((w%100000:Nat):Int),true)) ((0:Int),(0:Int))=some (((PC t B a).length:Nat):Int):=by
     rw[<-c5];refine Tot.val (.iter (fun m (s:Int×Int)=>∃j:Nat,s.2=(j:Int)/\ m+j=L.length/\ s.1=((((L.take j).flatMap fun d=>d.Pieces).length:Nat):Int)/\ ((L.take j).flatMap fun d=>d.Pieces).length<=2*j) (n:=L.length) ⟨0,rfl,rfl,rfl,by simp⟩ ?_);rintro m ⟨v1,v2⟩ ⟨j,q1,q2,F,q4⟩;simp only at q1 F;subst q1;subst F;unfold yak;refine .iteP (fun g=>?_) fun g=>.dn ?_
     ·have g:(j:Int)<(L.length:Int):=g;obtain⟨d,k⟩:=jaj (l:=L) (i:=j) (by omega);have ab:=(u d (List.mem_of_getElem? k)).len;have U:((L.take (j+1)).flatMap fun d=>d.Pieces).length=((L.take j).flatMap fun d=>d.Pieces).length+d.Pieces.length:=by rw[jap k,List.flatMap_append,List.length_append];simp
      refine .eq (ixs k) (.nx ⟨m-1,by omega,j+1,jah (by omega),by omega,?_,by rw[U];omega⟩);simp only
      rw[U,jak (by omega)];omega
     ·have g:¬(j:Int)<(L.length:Int):=g;rw[List.take_of_length_le (by omega)]
    have O:decide (Y.2<=(L.length:Int))=true:=decide_eq_true T;simp only[R,e5,e6,e7,e8,e9,Option.bind_some,beq_self_eq_true,bne_self_eq_false,Bool.not_true,Bool.false_eq_true,if_false,if_true,O]
end Go.Proofs.YtimecodbnhcnoaaGreat
