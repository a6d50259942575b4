/- The plain law: what the models compute, no program in sight. -/
import Derived.Test.YtimecodbnhcnoaaGreatCvM
import Derived.Test.YtimecodbnhcnoaaGreatAbStb
namespace Go.Proofs.YtimecodbnhcnoaaGreat
open Go Go.Ab
set_option maxHeartbeats 4000000
set_option linter.unusedVariables false
set_option linter.unusedSimpArgs false
def Cur(k:Nat)(c:bM):Prop:=0<=c.at_/\ c.at_<=k
theorem Cur.mono{k k':Nat}{c:bM}(h:Cur k c)(a:k<=k'):Cur k' c:=⟨h.1,by have:=h.2;omega⟩
theorem ytr{k:Nat}{c:bM}(h:Cur k c)(p:k<=4000000000):∃r,yna c=some r/\ Cur (k+1) r.2/\ 0<=r.1/\ r.1<=255:=by
 obtain⟨h0,o⟩:=h;have l:w64 (c.at_+1)=c.at_+1:=jaj (by omega);have a:∀s,Cur (k+1) ⟨c.dH,w64 (c.at_+1),s⟩:=fun s=>by rw[l];exact⟨by show 0<=c.at_+1;omega,by show c.at_+1<=_;omega⟩
 unfold yna;have e:∃v,(if decide (c.at_<(c.dH.length:Int)) then(idx c.dH c.at_).bind fun j=>some (w64 ((j.toNat:Int)))else some 0)=some v/\ 0<=v/\ v<=255:=by
  by_cases b:c.at_<c.dH.length
  ·obtain⟨x,m,_,_⟩:=lX h0 b;have:=x.toNat_lt;refine⟨(x.toNat:Int),?_,by omega,by omega⟩;simp only[b,decide_true,if_true,m,bF];rw[jaj (by omega)]
  ·exact⟨0,by simp[b],by omega,by omega⟩
 obtain⟨v,e,g,i⟩:=e;rw[e];simp only[bF];split
 ·exact⟨_,rfl,a _,g,i⟩
 ·rw[ja9 (by omega)];exact⟨_,rfl,a _,Oe _⟩
theorem ya1{k:Nat}{c:bM}(n:Int)(h:Cur k c)(C:k<=3000000000):∃r,ya4 c n=some r/\ Cur (k+2) r.2/\ 0<=r.1/\ (r.1<n \/r.1=0):=by
 unfold ya4;by_cases u:n<=1
 ·exact⟨(0,c),by simp[u],h.mono (by omega),by simp,.inr rfl⟩
 ·obtain⟨r,z,hc,h0,A⟩:=ytr h (by omega);have l:decide (n<=1)=false:=by simpa using u
  simp only[l,bW,if_false,z,bF];have g:chk (n≠0)=some ():=ja9 (by omega);by_cases p:200<n
  ·obtain⟨o,m,j,x,y⟩:=ytr hc (by omega);have v:w64 (r.1*256)=r.1*256:=jaj (by omega);have w:w64 (r.1*256+o.1)=r.1*256+o.1:=jaj (by omega);have e:=jjk (a:=r.1*256+o.1) (b:=n) (by omega) (by omega);simp only[p,decide_true,if_true,m,bF,g,v,w];exact⟨_,rfl,j.mono (by omega),e.1,.inl e.2⟩
  ·have i:decide (200<n)=false:=by simpa using p
   have e:=jjk (a:=r.1) (b:=n) (by omega) (by omega);simp only[i,bW,if_false,bF,g];exact⟨_,rfl,hc.mono (by omega),e.1,.inl e.2⟩
theorem ygc{k:Nat}{c:bM}(l:List Int)(e:l≠[])(h:Cur k c)(b:k<=3000000000):∃r,zq93 c l=some r/\ Cur (k+2) r.2/\ r.1∈l:=by
 unfold zq93;obtain⟨r,i,hc,h0,m⟩:=ya1 (l.length:Int) h b;have a:0<l.length:=Aw.2 e;obtain⟨x,j,_,g⟩:=lX (l:=l) h0 (by omega);simp only[i,bF,j];exact⟨_,rfl,hc,g⟩
theorem yjn{k:Nat}{c:bM}(l:List Int)(b:l≠[])(h:Cur k c)(a:k<=3000000000):∃r,zq92 c l=some r/\ Cur (k+2) r.2/\ r.1∈l:=by
 have:zq92 c l=zq93 c l:=rfl;rw[this];exact ygc l b h a
theorem ypq{k:Nat}{c:bM}(n:Int)(h:Cur k c)(a:k<=3000000000):∃r,yc3 c n=some r/\ Cur (k+2) r.2:=by
 unfold yc3;obtain⟨r,b,hc,_,_⟩:=ya1 n h a;simp only[b,bF];exact⟨_,rfl,hc⟩
theorem K6{k:Nat}{c:bM}(l:List ByteArray)(e:l≠[])(h:Cur k c)(b:k<=3000000000):∃r,A9 c l=some r/\ Cur (k+2) r.2/\ r.1∈l:=by
 unfold A9;obtain⟨r,i,hc,h0,m⟩:=ya1 (l.length:Int) h b;have a:0<l.length:=Aw.2 e;obtain⟨x,j,_,g⟩:=lX (l:=l) h0 (by omega);simp only[i,bF,j];exact⟨_,rfl,hc,g⟩
theorem yxc{k:Nat}{c:bM}(l:List ByteArray)(b:l≠[])(h:Cur k c)(a:k<=3000000000):∃r,ym9 c l=some r/\ Cur (k+2) r.2/\ r.1∈l:=by
 have:ym9 c l=A9 c l:=rfl;rw[this];exact K6 l b h a
theorem cur0(a:List UInt8):Cur 0 ⟨a,0,⟨0⟩⟩:=⟨by show(0:Int)<=0;omega,by show(0:Int)<=_;omega⟩
theorem Ba{x:Int}(h:0<=x)(k:Nat):x.fdiv (2^k)=x/(2^k:Nat):=by
 rw[Int.fdiv_eq_ediv_of_nonneg _ (by exact_mod_cast o9 (2^k))];simp
theorem ypn{x y:Int}{v k:Nat}(h:y*(2^v:Nat)<=x)(e:0<=y):y/(2^k:Nat)*(2^(v+k):Nat)<=x:=by
 have a:y/(2^k:Nat)*(2^k:Nat)<=y:=Int.ediv_mul_le _ (by have:=nG k;omega);have b:y/(2^k:Nat)*(2^k:Nat)*(2^v:Nat)<=y*(2^v:Nat):=Int.mul_le_mul_of_nonneg_right a (Int.natCast_nonneg _);rw[xU,Nat.pow_add,Ee,<-Int.mul_assoc];omega
theorem ywn(x:IK .u64)(h0:0<=x.v)(W:x.v<8589934592):Tot (zq57 x) fun r=>0<=r/\ r<=64/\ (1<=x.v->((2^r.toNat:Nat):Int)<=2*x.v):=by
 unfold zq57;refine Tot.call (P:=fun(r:Int×Int)=>0<=r.1/\ r.1<4294967296/\ (1<=x.v->1<=r.1)/\ 0<=r.2/\ r.2<=32/\ r.1*(2^r.2.toNat:Nat)<=x.v) (.iteP (fun hc=>Tot.chk (by decide) (.ok ?_)) (fun hc=>.ok ⟨h0,by dsimp only;omega,fun h=>h,kR _,by dsimp only;omega,by simp⟩)) fun⟨G,v⟩ ⟨j,M,w,y,N,p⟩=>?_
 ·have e:((2^32:Nat):Int)=4294967296:=by decide
  have g:x.v.fdiv (2^(min (32:Int).toNat (IntKind.u64).bits))=x.v/(2^32:Nat):=Ba h0 32;simp only[g];exact⟨by omega,by omega,fun _=>by omega,by omega,by omega,Int.ediv_mul_le _ (by decide)⟩
 dsimp only at j M w y N p ⊢;refine Tot.call (P:=fun(r:Int×Int)=>0<=r.1/\ r.1<65536/\ (1<=x.v->1<=r.1)/\ 0<=r.2/\ r.2<=48/\ r.1*(2^r.2.toNat:Nat)<=x.v) (.iteP (fun hc=>Tot.chk (by decide) (.ok ?_)) (fun hc=>.ok ⟨j,by dsimp only;omega,w,y,by dsimp only;omega,p⟩)) fun⟨H,k⟩ ⟨q1,O,z,A,Q,u⟩=>?_
 ·have e:((2^16:Nat):Int)=65536:=by decide
  have g:G.fdiv (2^(min (16:Int).toNat (IntKind.u64).bits))=G/(2^16:Nat):=Ba j 16;have m:w64 (v+16)=v+16:=jaj (by omega);have o:(v+16).toNat=v.toNat+16:=by omega
  simp only[g,m,o];exact⟨by omega,by omega,fun _=>by omega,by omega,by omega,ypn p j⟩
 dsimp only at q1 O z A Q u ⊢;refine Tot.call (P:=fun(r:Int×Int)=>0<=r.1/\ r.1<256/\ (1<=x.v->1<=r.1)/\ 0<=r.2/\ r.2<=56/\ r.1*(2^r.2.toNat:Nat)<=x.v) (.iteP (fun hc=>Tot.chk (by decide) (.ok ?_)) (fun hc=>.ok ⟨q1,by dsimp only;omega,z,A,by dsimp only;omega,u⟩)) fun⟨l,a⟩ ⟨C,D,E,R,T,U⟩=>?_
 ·have e:((2^8:Nat):Int)=256:=by decide
  have g:H.fdiv (2^(min (8:Int).toNat (IntKind.u64).bits))=H/(2^8:Nat):=Ba q1 8;have m:w64 (k+8)=k+8:=jaj (by omega);have o:(k+8).toNat=k.toNat+8:=by omega
  simp only[g,m,o];exact⟨by omega,by omega,fun _=>by omega,by omega,by omega,ypn u q1⟩
 dsimp only at C D E R T U ⊢;have J:IntKind.u8.wrap l=l:=vW C D;rw[J];generalize hs:str _=S;have hS:(Nat.beq S.size 256&&(List.range 256).all fun i=>Nat.ble (S.data.toList.getD i 0).toNat 8&&(Nat.beq i 0||Nat.ble (2^(S.data.toList.getD i 0).toNat) (2*i)))=true:=by
  rw[<-hs];kernel_rfl
 clear hs;simp only[fP,iA,jo,mF]at hS;obtain⟨s1,b⟩:=hS;have s1:=eG s1;obtain⟨n,rfl⟩:∃n:Nat,l=n:=⟨l.toNat,by omega⟩;have b:=b n (by omega);have F:=iQ b.1;refine Tot.chk (by omega) (.ok ?_);rw[gI];revert F b;generalize(S.data.toList.getD n 0).toNat=t;intro b F;rw[jaj (x:=(t:Int)) (by omega),jaj (by omega)];refine⟨by omega,by omega,fun K=>?_⟩;have I:(a+(t:Int)).toNat=a.toNat+t:=by omega
 rw[I,Nat.pow_add,Ee];have X:=E K;have V:2^t<=2*n:=by
  rcases b.2 with h|h
  ·have:=eG h;omega
  ·exact iQ h
 have Y:((2^a.toNat:Nat):Int)*(2^t:Nat)<=(2^a.toNat:Nat)*(2*n:Nat):=Int.mul_le_mul_of_nonneg_left (by exact_mod_cast V) (by exact_mod_cast o9 _);have Z:((2^a.toNat:Nat):Int)*((2*n:Nat):Int)=2*((n:Int)*(2^a.toNat:Nat)):=by
  rw[Ee,Int.mul_comm ((2^a.toNat:Nat):Int),Int.mul_assoc];rfl
 omega
theorem yty(x:IK .u64)(h0:0<=x.v)(a:x.v<8589934592):Tot (zq56 x) fun r=>0<=r/\ r<=64/\ (1<=x.v->((2^r.toNat:Nat):Int)<=2*x.v):=by
 unfold zq56;exact Tot.call (ywn x h0 a) fun r b=>.ok b
theorem yds{n:Int}(h0:0<=n)(a:n<18446744073709551616):IntKind.u64.wrap n=n:=by
 show n%18446744073709551616=n;exact vW h0 a
theorem hlp:Pdq.AP yd4 ydq:=by
 refine⟨fun n h i=>?_,fun x=>?_⟩
 ·unfold yd4;rw[yds (by omega) (by omega)];refine Tot.call (yty ⟨n⟩ (by dsimp only;omega) (by dsimp only;omega)) fun r ⟨g,j,a⟩=>Tot.chk g (.ok ?_);have a:=a (by dsimp only;omega);dsimp only at a ⊢;have e:min r.toNat (IntKind.u64).bits=r.toNat:=tV (by show r.toNat<=64;omega);have b:(1:Int)*2^r.toNat=((2^r.toNat:Nat):Int):=by rw[Int.one_mul];norm_cast
  rw[e,b];have:=nG r.toNat;rw[yds (by omega) (by omega)];omega
 ·unfold ydq;exact Tot.chk (by decide) (Tot.chk (by decide) (Tot.chk (by decide) (.ok trivial)))
noncomputable def yat(x y:Int):Option Int:=some (if x<y then-1 else 0)
theorem yax(x y:Int):zq1 x y=some (decide (x<y)):=by
 unfold zq1 zq3;simp
theorem ya0(x y:Int):decide ((if x<y then(-1:Int)else 0)<0)=decide (x<y):=by
 by_cases h:x<y<;>simp[h]
theorem yaa(a:Int):yel a=Pdq.insertionSort_L1 a yat:=by
 funext ⟨s0,s1⟩;simp only[yel,Pdq.insertionSort_L1,yat,yax,ya0,bF]
theorem yab(a:Int)(b:Int):yek a b=Pdq.insertionSort_L2 a b yat:=by
 funext ⟨s0,s1⟩;simp only[yek,Pdq.insertionSort_L2,yaa,yat,yax,ya0,bF]
theorem yad(e:List Int)(a:Int)(b:Int):yqb e a b=Pdq.insertionSort e a b yat:=by
 simp only[yqb,Pdq.insertionSort,yaa,yab,yat,yax,ya0,bF]
theorem yah(hi:Int)(first:Int):yd5 hi first=Pdq.x9 hi first yat:=by
 funext ⟨s0,s1⟩;simp only[yd5,Pdq.x9,yaa,yab,yad,yat,yax,ya0,bF]
theorem yan(a:List Int)(lo:Int)(hi:Int)(first:Int):yl3 a lo hi first=Pdq.siftDown a lo hi first yat:=by
 simp only[yl3,Pdq.siftDown,yaa,yab,yad,yah,yat,yax,ya0,bF]
theorem yaj(a:Int)(b:Int):yen a b=Pdq.z8 a b yat:=by
 funext ⟨s0,s1⟩;simp only[yen,Pdq.z8,yaa,yab,yad,yah,yan,yat,yax,ya0,bF]
theorem yal(a:Int):yem a=Pdq.zZ a yat:=by
 funext ⟨s0,s1⟩;simp only[yem,Pdq.zZ,yaa,yab,yad,yah,yan,yaj,yat,yax,ya0,bF]
theorem yar(e:List Int)(a:Int)(b:Int):yqc e a b=Pdq.heapSort e a b yat:=by
 simp only[yqc,Pdq.heapSort,yaa,yab,yad,yah,yan,yaj,yal,yat,yax,ya0,bF]
theorem yaw(g:List Int)(a:Int)(b:Int)(e:Int):yhw g a b e=Pdq.order2 g a b e yat:=by
 simp only[yhw,Pdq.order2,yaa,yab,yad,yah,yan,yaj,yal,yar,yat,yax,ya0,bF]
theorem yay(g:List Int)(a:Int)(b:Int)(c:Int)(e:Int):ymd g a b c e=Pdq.median g a b c e yat:=by
 simp only[ymd,Pdq.median,yaa,yab,yad,yah,yan,yaj,yal,yar,yaw,yat,yax,ya0,bF]
theorem yai(e:List Int)(a:Int)(b:Int):yju e a b=Pdq.medianAdjacent e a b yat:=by
 simp only[yju,Pdq.medianAdjacent,yaa,yab,yad,yah,yan,yaj,yal,yar,yaw,yay,yat,yax,ya0,bF]
theorem yao(e:List Int)(a:Int)(b:Int):yqd e a b=Pdq.choosePivot e a b yat:=by
 simp only[yqd,Pdq.choosePivot,yaa,yab,yad,yah,yan,yaj,yal,yar,yaw,yay,yai,yat,yax,ya0,bF]
theorem yak:yd6=Pdq.yh:=by
 funext ⟨s0,s1,s2⟩;simp only[yd6,Pdq.yh,yaa,yab,yad,yah,yan,yaj,yal,yar,yaw,yay,yai,yao,yat,yax,ya0,bF]
theorem yap(e:List Int)(a:Int)(b:Int):yp7 e a b=Pdq.reverseRange e a b yat:=by
 simp only[yp7,Pdq.reverseRange,yaa,yab,yad,yah,yan,yaj,yal,yar,yaw,yay,yai,yao,yak,yat,yax,ya0,bF]
theorem yac(b:Int)(a:List Int):yej b a=Pdq.wC b yat a:=by
 funext s0;simp only[yej,Pdq.wC,yaa,yab,yad,yah,yan,yaj,yal,yar,yaw,yay,yai,yao,yak,yap,yat,yax,ya0,bF]
theorem yae:yei=Pdq.wB yat:=by
 funext ⟨s0,s1⟩;simp only[yei,Pdq.wB,yaa,yab,yad,yah,yan,yaj,yal,yar,yaw,yay,yai,yao,yak,yap,yac,yat,yax,ya0,bF]
theorem yaf(b:Int):yeh b=Pdq.wz b yat:=by
 funext ⟨s0,s1⟩;simp only[yeh,Pdq.wz,yaa,yab,yad,yah,yan,yaj,yal,yar,yaw,yay,yai,yao,yak,yap,yac,yae,yat,yax,ya0,bF]
theorem yag(a:Int)(b:Int):yeg a b=Pdq.yD a b yat:=by
 funext ⟨s0,s1,s2⟩;simp only[yeg,Pdq.yD,yaa,yab,yad,yah,yan,yaj,yal,yar,yaw,yay,yai,yao,yak,yap,yac,yae,yaf,yat,yax,ya0,bF]
theorem yam(e:List Int)(a:Int)(b:Int):yqa e a b=Pdq.partialInsertionSort e a b yat:=by
 simp only[yqa,Pdq.partialInsertionSort,yaa,yab,yad,yah,yan,yaj,yal,yar,yaw,yay,yai,yao,yak,yap,yac,yae,yaf,yag,yat,yax,ya0,bF]
theorem yaq(a:Int)(e:Int)(b:List Int):yef a e b=Pdq.yC a yat e b:=by
 funext s0;simp only[yef,Pdq.yC,yaa,yab,yad,yah,yan,yaj,yal,yar,yaw,yay,yai,yao,yak,yap,yac,yae,yaf,yag,yam,yat,yax,ya0,bF]
theorem yas(a:Int)(b:List Int)(e:Int):yee a b e=Pdq.yB a yat b e:=by
 funext s0;simp only[yee,Pdq.yB,yaa,yab,yad,yah,yan,yaj,yal,yar,yaw,yay,yai,yao,yak,yap,yac,yae,yaf,yag,yam,yaq,yat,yax,ya0,bF]
theorem yau(a:Int):yed a=Pdq.yA a yat:=by
 funext ⟨s0,s1,s2⟩;simp only[yed,Pdq.yA,yaa,yab,yad,yah,yan,yaj,yal,yar,yaw,yay,yai,yao,yak,yap,yac,yae,yaf,yag,yam,yaq,yas,yat,yax,ya0,bF]
theorem yaz(g:List Int)(a:Int)(b:Int)(e:Int):yp9 g a b e=Pdq.partitionEqual g a b e yat:=by
 simp only[yp9,Pdq.partitionEqual,yaa,yab,yad,yah,yan,yaj,yal,yar,yaw,yay,yai,yao,yak,yap,yac,yae,yaf,yag,yam,yaq,yas,yau,yat,yax,ya0,bF]
theorem ya2(g:List Int)(a:Int)(b:Int)(e:Int)(h:Int)(i:Int):yec g a b e h i=Pdq.yx g a b e yat h i:=by
 funext s0;simp only[yec,Pdq.yx,yaa,yab,yad,yah,yan,yaj,yal,yar,yaw,yay,yai,yao,yak,yap,yac,yae,yaf,yag,yam,yaq,yas,yau,yaz,yat,yax,ya0,bF]
theorem ya5(e:List Int)(a:Int)(b:Int)(g:Int)(h:Int)(i:Int):yeb e a b g h i=Pdq.yw e a b yat g h i:=by
 funext s0;simp only[yeb,Pdq.yw,yaa,yab,yad,yah,yan,yaj,yal,yar,yaw,yay,yai,yao,yak,yap,yac,yae,yaf,yag,yam,yaq,yas,yau,yaz,ya2,yat,yax,ya0,bF]
theorem ya6(a:Int)(e:Int)(b:List Int):yea a e b=Pdq.uG a yat e b:=by
 funext s0;simp only[yea,Pdq.uG,yaa,yab,yad,yah,yan,yaj,yal,yar,yaw,yay,yai,yao,yak,yap,yac,yae,yaf,yag,yam,yaq,yas,yau,yaz,ya2,ya5,yat,yax,ya0,bF]
theorem ya8(a:Int)(b:List Int)(e:Int):yd9 a b e=Pdq.uF a yat b e:=by
 funext s0;simp only[yd9,Pdq.uF,yaa,yab,yad,yah,yan,yaj,yal,yar,yaw,yay,yai,yao,yak,yap,yac,yae,yaf,yag,yam,yaq,yas,yau,yaz,ya2,ya5,ya6,yat,yax,ya0,bF]
theorem ybb(a:Int):yd8 a=Pdq.yu a yat:=by
 funext ⟨s0,s1,s2⟩;simp only[yd8,Pdq.yu,yaa,yab,yad,yah,yan,yaj,yal,yar,yaw,yay,yai,yao,yak,yap,yac,yae,yaf,yag,yam,yaq,yas,yau,yaz,ya2,ya5,ya6,ya8,yat,yax,ya0,bF]
theorem yb9(g:List Int)(a:Int)(b:Int)(e:Int):yp8 g a b e=Pdq.partition g a b e yat:=by
 simp only[yp8,Pdq.partition,yaa,yab,yad,yah,yan,yaj,yal,yar,yaw,yay,yai,yao,yak,yap,yac,yae,yaf,yag,yam,yaq,yas,yau,yaz,ya2,ya5,ya6,ya8,ybb,yat,yax,ya0,bF]
theorem ybm(a:Int)(b:Int)(r:(IK .u64)):yeo a b r=Pdq.Ae ydq a b r:=by
 funext ⟨s0,s1,s2⟩;simp only[yeo,Pdq.Ae,yaa,yab,yad,yah,yan,yaj,yal,yar,yaw,yay,yai,yao,yak,yap,yac,yae,yaf,yag,yam,yaq,yas,yau,yaz,ya2,ya5,ya6,ya8,ybb,yb9,yat,yax,ya0,bF]
theorem ydy(e:List Int)(a:Int)(b:Int):yqe e a b=Pdq.breakPatterns yd4 ydq e a b yat:=by
 simp only[yqe,Pdq.breakPatterns,yaa,yab,yad,yah,yan,yaj,yal,yar,yaw,yay,yai,yao,yak,yap,yac,yae,yaf,yag,yam,yaq,yas,yau,yaz,ya2,ya5,ya6,ya8,ybb,yb9,ybm,yat,yax,ya0,bF]
theorem yqw(a:List Int->Int->Int->Int->Option (List Int)):yd7 a=Pdq.yt yd4 ydq yat a:=by
 funext ⟨s0,s1,s2,s3,s4,s5⟩;simp only[yd7,Pdq.yt,yaa,yab,yad,yah,yan,yaj,yal,yar,yaw,yay,yai,yao,yak,yap,yac,yae,yaf,yag,yam,yaq,yas,yau,yaz,ya2,ya5,ya6,ya8,ybb,yb9,ybm,ydy,yat,yax,ya0,bF]
theorem ytl(e:List Int->Int->Int->Int->Option (List Int))(l:List Int)(a b k:Int):yci e l a b k=Pdq.wu yd4 ydq yat e l a b k:=by
 unfold yci Pdq.wu;rw[yqw]
theorem ypo:∀n,yfp n=Pdq.qD yd4 ydq yat n
 |0=>rfl
 |n+1=>by
  funext l a b k;show yci (yfp n) l a b k=Pdq.wu yd4 ydq yat (Pdq.qD yd4 ydq yat n) l a b k;rw[ypo n,ytl]
theorem LX:Pdq.Lt yat (· <= ·):=by
 refine⟨fun x y=>by omega,fun a b=>by omega,fun x y=>⟨_,rfl,?_⟩⟩;by_cases h:x<y<;>simp[h]<;>omega
theorem ywj(l:List Int)(h:l.length<4294967296):Tot (ymk l) fun l'=>l'.Perm l/\ l'.Pairwise (· <= ·):=by
 unfold ymk;refine Tot.call (yty _ (by dsimp only;rw[yds (by omega) (by omega)];omega) (by dsimp only;rw[yds (by omega) (by omega)];omega)) fun r _=>?_;unfold yu9;rw[ypo];refine Tot.call (Pdq.NK LX hlp (limit:=r) h) fun l' a=>.ok a
def srtN:Nat:=4294967295
theorem El:12<=srtN:=by unfold srtN;omega
theorem ywk(l:List Int)(h:l.length<=srtN):Tot (ymk l) fun l'=>l'.Perm l/\ l'.Pairwise (· <= ·):=ywj l (by unfold srtN at h;omega)
theorem ybf(n lo hi:Int):zq55 n lo hi=some (decide (lo<=n/\ n<=hi)):=by
 unfold zq55;by_cases h:lo<=n<;>simp[h]
theorem ybv(n lo hi:Int):ybo n lo hi=some (decide (lo<=n/\ n<=hi)):=by
 unfold ybo;by_cases h:lo<=n<;>simp[h]
def ChOK(i:Nat)(c:UInt8):Prop:=(97<=(c.toNat:Int)/\ (c.toNat:Int)<=122) \/(i≠0/\ 48<=(c.toNat:Int)/\ (c.toNat:Int)<=57)
def ya9(s:ByteArray):Prop:=(1<=s.size/\ s.size<=8)/\ ∀(i:Nat) c,s.data.toList[i]? =some c->ChOK i c
open Classical in
noncomputable instance(s:ByteArray):Decidable (ya9 s):=Classical.propDecidable _
theorem yka(s:ByteArray):s.data.toList.length=s.size:=by simp
theorem ynk{α:Type}{l:List α}{i:Nat}{x d:α}(h:l[i]? =some x):l.getD i d=x:=by rw[dD,h];rfl
theorem yt6(s:ByteArray):zq36 s=some (decide (ya9 s)):=by
 unfold zq36;by_cases y:1<=s.size/\ s.size<=8
 ·have m:decide ((s.size:Int)<1)=false:=by simp;omega
  have o:decide (8<(s.size:Int))=false:=by simp;omega
  simp only[m,o,bW,if_false,bF];have w:=yka s;have key:=Go.Ab.all_loop s.data.toList ChOK (step:=yfk s) ?_ ?_ 0 0 rfl (by omega)
  ·rcases key with⟨p,u⟩|⟨p,u⟩
   ·rw[p,jco];have:ya9 s:=⟨y,fun i c hc=>u i c (by omega) hc⟩;simp[this]
   ·rw[p,jdp];have:¬ya9 s:=fun E=>u fun i c _ hc=>E.2 i c hc;simp[this]
  ·intro i x z;have hi:=(cK.1 z).1;have D:s.data.toList.getD (i:Int).toNat 0=x:=by rw[gI];exact ynk z
   have hc:chk ((0:Int)<=(i:Int)/\ (i:Int)<(s.size:Int))=some ():=ja9 (by omega);have v:decide ((i:Int)<(s.size:Int))=true:=by simp;omega
   unfold yfk;simp only[v,if_true,hc,D,bF,jai (n:=i) (by omega)];unfold ChOK;by_cases g:(97:Int)<=(x.toNat:Int)
   ·by_cases j:(x.toNat:Int)<=122
    ·left;refine⟨by simp[g,j],.inl ⟨g,j⟩⟩
    ·right;refine⟨?_,by omega⟩;have k:decide ((x.toNat:Int)<48)=false:=by simp;omega
     have l:decide ((57:Int)<(x.toNat:Int))=true:=by simp;omega
     have A:¬(x.toNat:Int)<48:=by omega
     have C:(57:Int)<(x.toNat:Int):=by omega
     by_cases b:i=0
     ·simp[g,j,b]
     ·have a:((i:Int)==0)=false:=by simp;omega
      simp[g,j,a,A,C]
   ·by_cases b:i=0
    ·right;refine⟨by simp[g,b],by omega⟩
    ·have a:((i:Int)==0)=false:=by simp;omega
     by_cases k:(x.toNat:Int)<48
     ·right;refine⟨by simp[g,a,k],by omega⟩
     ·by_cases l:(57:Int)<(x.toNat:Int)
      ·right;refine⟨by simp[g,a,k,l],by omega⟩
      ·left;refine⟨by simp[g,a,k,l],.inr ⟨b,by omega,by omega⟩⟩
  ·unfold yfk;rw[w];simp
 ·have:¬ya9 s:=fun h=>y h.1;have e:(if decide ((s.size:Int)<1) then some true else some (decide (8<(s.size:Int))))=some true:=by
   by_cases F:s.size<1
   ·have:decide ((s.size:Int)<1)=true:=by simp;omega
    simp[this]
   ·have m:decide ((s.size:Int)<1)=false:=by simp;omega
    have o:decide (8<(s.size:Int))=true:=by simp;omega
    simp[m,o]
  rw[e];simp[this]
theorem ykl(s:ByteArray):ymz s=some (decide (ya9 s)):=by
 unfold ymz;rw[ybv];simp only[bF];by_cases E:1<=s.size/\ s.size<=8
 ·have o:decide ((1:Int)<=(s.size:Int)/\ (s.size:Int)<=8)=true:=by simp;omega
  have C:=yka s;obtain⟨a,b⟩:=jak (l:=s.data.toList) (i:=0) (by omega);have w:s.data.toList.getD (0:Int).toNat 0=a:=ynk b;have v:chk ((0:Int)<=0/\ 0<(s.size:Int))=some ():=ja9 (by omega);simp only[o,fT,bW,if_false,v,w,bF];by_cases J:97<=(a.toNat:Int)/\ (a.toNat:Int)<=122
  ·have G:decide ((a.toNat:Int)<97)=false:=by simp;omega
   have H:decide ((122:Int)<(a.toNat:Int))=false:=by simp;omega
   simp only[G,H,bW,if_false,bF];have key:=Go.Ab.all_loop s.data.toList ChOK (step:=yc7 s) ?_ ?_ 0 0 rfl (by omega)
   ·rcases key with⟨p,u⟩|⟨p,u⟩
    ·rw[p,jco];have:ya9 s:=⟨E,fun i c hc=>u i c (by omega) hc⟩;simp[this]
    ·rw[p,jdp];have:¬ya9 s:=fun A=>u fun i c _ hc=>A.2 i c hc;simp[this]
   ·intro i x m;have hi:=(cK.1 m).1;have I:s.data.toList.getD (i:Int).toNat 0=x:=by rw[gI];exact ynk m
    have hc:chk ((0:Int)<=(i:Int)/\ (i:Int)<(s.size:Int))=some ():=ja9 (by omega);have z:decide ((i:Int)<(s.size:Int))=true:=by simp;omega
    have h0:i=0->x=a:=fun h=>by subst h;rw[b]at m;cases m;rfl
    unfold yc7;simp only[z,if_true,hc,I,bF,jai (n:=i) (by omega)];unfold ChOK;by_cases g:(x.toNat:Int)<97
    ·have y:i≠0:=fun h=>by have:=h0 h;subst this;omega
     by_cases j:(x.toNat:Int)<48
     ·right;refine⟨by simp[g,j],by omega⟩
     ·by_cases k:(57:Int)<(x.toNat:Int)
      ·right;refine⟨by simp[g,j,k],by omega⟩
      ·left;refine⟨by simp[g,j,k],.inr ⟨y,by omega,by omega⟩⟩
    ·by_cases D:(122:Int)<(x.toNat:Int)
     ·right;have j:¬(x.toNat:Int)<48:=by omega
      have k:(57:Int)<(x.toNat:Int):=by omega
      refine⟨by simp[g,D,j,k],by omega⟩
     ·left;refine⟨by simp[g,D],.inl ⟨by omega,by omega⟩⟩
   ·unfold yc7;rw[C];simp
  ·have:¬ya9 s:=fun A=>by
    have:=A.2 0 a b;unfold ChOK at this;omega
   have e:(if decide ((a.toNat:Int)<97) then some true else some (decide ((122:Int)<(a.toNat:Int))))=some true:=by
    by_cases F:(a.toNat:Int)<97
    ·simp[F]
    ·have:(122:Int)<(a.toNat:Int):=by omega
     simp[F,this]
   rw[e];simp[this]
 ·have o:decide ((1:Int)<=(s.size:Int)/\ (s.size:Int)<=8)=false:=by simp;omega
  have:¬ya9 s:=fun h=>E h.1;simp[o,this]
theorem ykn(l:List ByteArray)(g:l.length<=4000000000)(v:ByteArray):yqf l v=some (fixI (fun e=>v.toList==e.toList) l):=by
 unfold yqf;refine tL l (fun e=>v.toList==e.toList) (fun i x b=>?_) (by unfold yep;simp);have hi:=(cK.1 b).1;unfold yep;have a:decide ((i:Int)<(l.length:Int))=true:=by simp;omega
 simp only[a,if_true,jal,b,bF,jai (n:=i) (by omega)];split<;>rfl
theorem yby(l:List Int)(g:l.length<=4000000000)(v:Int):ymo l v=some (fixI (fun e=>v==e) l):=by
 unfold ymo;refine tL l (fun e=>v==e) (fun i x b=>?_) (by unfold yeq;simp);have hi:=(cK.1 b).1;unfold yeq;have a:decide ((i:Int)<(l.length:Int))=true:=by simp;omega
 simp only[a,if_true,jal,b,bF,jai (n:=i) (by omega)];split<;>rfl
theorem ygv(x:bK)(g:x.bq.length<=4000000000)(v:Int):yjy x v=some (fixI (fun e=>v==e) x.bq):=by
 have hc:fixI (fun e=>v==e) x.bq=fixI (fun e=>e==v) x.bq:=Dp _ fun e=>BEq.comm;rw[hc];unfold yjy;refine tL x.bq (fun e=>e==v) (fun i y b=>?_) (by unfold yet;simp);have hi:=(cK.1 b).1;unfold yet;have a:decide ((i:Int)<(x.bq.length:Int))=true:=by simp;omega
 simp only[a,if_true,jal,b,bF,jai (n:=i) (by omega)];split<;>rfl
theorem yuq(a b:List UInt8):(a==b)=(b==a):=BEq.comm
theorem yt1(l:List ByteArray)(g:l.length<=4000000000)(v:ByteArray):yqj l v=some (fixI (fun e=>v.toList==e.toList) l):=by
 rw[Dp l (q:=fun e=>e.toList==v.toList) fun e=>yuq _ _];unfold yqj;refine tL l (fun e=>e.toList==v.toList) (fun i x b=>?_) (by unfold ye0;simp);have hi:=(cK.1 b).1;unfold ye0;have a:decide ((i:Int)<(l.length:Int))=true:=by simp;omega
 simp only[a,if_true,jal,b,bF,jai (n:=i) (by omega)];split<;>rfl
theorem ygf(n:bC)(g:n.bG.length<=4000000000)(v:ByteArray):ym0 n v=some (fixI (fun e=>v.toList==e.toList) (n.bG.map (·.eH))):=by
 rw[Pp,Dp n.bG (q:=fun e=>e.eH.toList==v.toList) fun e=>yuq _ _];unfold ym0;refine tL n.bG (fun e=>e.eH.toList==v.toList) (fun i x b=>?_) (by unfold yev;simp);have hi:=(cK.1 b).1;unfold yev;have a:decide ((i:Int)<(n.bG.length:Int))=true:=by simp;omega
 simp only[a,if_true,jal,b,bF,jai (n:=i) (by omega)];split<;>rfl
def yd3(l:List ByteArray):Prop:=∀(i:Nat) x,l[i]? =some x->ya9 x/\ fixI (fun e=>x.toList==e.toList) l=(i:Int)
def ybh(st:Nat)(x:bK):Prop:=(2<=x.bq.length/\ x.bq.length<=6)/\ (x.bY.length:Int)=(x.bq.length:Int)-1/\
 (∀(i:Nat) e,x.bq[i]? =some e->(0<=e/\ e<(st:Int))/\ fixI (fun y=>e==y) x.bq=(i:Int))/\ ∀(i:Nat) r,x.bY[i]? =some r->1<=r/\ r<=60
def Good(n:bC):Prop:=(2<=n.bq.length/\ n.bq.length<=8)/\ (1<=n.bG.length/\ n.bG.length<=5)/\ yd3 n.bq/\ yd3 (n.bG.map (·.eH))/\ ∀(i:Nat) x,n.bG[i]? =some x->ybh n.bq.length x
noncomputable instance(l:List ByteArray):Decidable (yd3 l):=Classical.propDecidable _
noncomputable instance(st:Nat)(x:bK):Decidable (ybh st x):=Classical.propDecidable _
noncomputable instance(n:bC):Decidable (Good n):=Classical.propDecidable _
def Bd(n:bC):Prop:=n.bq.length<=1000/\ n.bG.length<=1000/\ ∀x∈n.bG,x.bq.length<=1000/\ x.bY.length<=1000
theorem yga(l:List ByteArray)(k:l.length<=1000):zq13 l=some (decide (yd3 l)):=by
 unfold zq13;rw[qP (hd:=Classical.propDecidable _) l (fun i x=>ya9 x/\ fixI (fun e=>x.toList==e.toList) l=(i:Int)) (fun i x j=>?_) (by unfold yh0;simp)]
 ·by_cases h:yd3 l
  ·rw[if_pos (show∀(i:Nat) x,l[i]? =some x->ya9 x/\ fixI (fun e=>x.toList==e.toList) l=(i:Int) from h)];simp[h]
  ·rw[if_neg (show¬∀(i:Nat) x,l[i]? =some x->ya9 x/\ fixI (fun e=>x.toList==e.toList) l=(i:Int) from h)];simp[h]
 ·have hi:=(cK.1 j).1;unfold yh0;have b:decide ((i:Int)<(l.length:Int))=true:=by simp;omega
  simp only[b,if_true,jal,j,bF,yt6,ykn l (by omega),jai (n:=i) (by omega)];by_cases a:ya9 x
  ·by_cases g:fixI (fun e=>x.toList==e.toList) l=(i:Int)
   ·left;simp[a,g]
   ·right;simp[a,g]
  ·right;simp[a]
theorem yki(n:bC)(j:n.bG.length<=1000):zq43 n=some (n.bG.map (·.eH)):=by
 unfold zq43;rw[ja9 (by omega)];simp only[bF];rw[Qr (fun x:bK=>x.eH) n.bG _ (by simp) (fun i a x y g h e=>?_) (fun a g=>?_)]
 ·rfl
 ·have hi:=(cK.1 e).1;unfold yhh;have b:decide ((i:Int)<(n.bG.length:Int))=true:=by simp;omega
  simp only[b,if_true,jal,e,h,bF,jai (n:=i) (by omega),gI]
 ·unfold yhh;simp
theorem yt4(n:bC)(e:Int):zq39 n e=some (decide (0<=e/\ e<(n.bq.length:Int))):=by
 unfold zq39;by_cases h:0<=e<;>simp[h]
theorem yt7(n:bC)(e:Int):zq35 n e=some (decide (0<=e/\ e<(n.bG.length:Int))):=by
 unfold zq35;by_cases h:0<=e<;>simp[h]
theorem ygg(n:bC)(l:bK)(u:l.bq.length<=1000)(v:l.bY.length<=1000):zq40 n l=some (decide (ybh n.bq.length l)):=by
 unfold zq40;rw[ybf];have e0:w64 ((l.bq.length:Int)-1)=(l.bq.length:Int)-1:=jaj (by omega);simp only[bF,e0];by_cases p:2<=l.bq.length/\ l.bq.length<=6
 ·have o:decide ((2:Int)<=(l.bq.length:Int)/\ (l.bq.length:Int)<=6)=true:=by simp;omega
  simp only[o,fT,bW,if_false];by_cases m:(l.bY.length:Int)=(l.bq.length:Int)-1
  ·have d2:((l.bY.length:Int)!=(l.bq.length:Int)-1)=false:=by simp[m]
   simp only[d2,bF,bW,if_false];rw[qP (hd:=Classical.propDecidable _) l.bq (fun i e=>(0<=e/\ e<(n.bq.length:Int))/\ fixI (fun y=>e==y) l.bq=(i:Int)) (fun i x k=>?_) (by unfold yhj;simp)]
   ·rw[qP (hd:=Classical.propDecidable _) l.bY (fun i r=>1<=r/\ r<=60) (fun i x k=>?_) (by unfold yhi;simp)]
    ·by_cases a:∀(i:Nat) e,l.bq[i]? =some e->(0<=e/\ e<(n.bq.length:Int))/\ fixI (fun y=>e==y) l.bq=(i:Int)
     ·rw[if_pos a];by_cases g:∀(i:Nat) r,l.bY[i]? =some r->1<=r/\ r<=60
      ·rw[if_pos g];have:ybh n.bq.length l:=⟨p,m,a,g⟩;simp[this]
      ·rw[if_neg g];have:¬ybh n.bq.length l:=fun h=>g h.2.2.2;simp[this]
     ·rw[if_neg a];have:¬ybh n.bq.length l:=fun h=>a h.2.2.1;simp[this]
    ·have hi:=(cK.1 k).1;unfold yhi;have j:decide ((i:Int)<(l.bY.length:Int))=true:=by simp;omega
     simp only[j,if_true,jal,k,bF,ybf,jai (n:=i) (by omega)];by_cases b:1<=x/\ x<=60
     ·left;simp[b]
     ·right;simp[b]
   ·have hi:=(cK.1 k).1;unfold yhj;have j:decide ((i:Int)<(l.bq.length:Int))=true:=by simp;omega
    simp only[j,if_true,jal,k,bF,yt4,yby l.bq (by omega),jai (n:=i) (by omega)];by_cases a:0<=x/\ x<(n.bq.length:Int)
    ·by_cases g:fixI (fun y=>x==y) l.bq=(i:Int)
     ·left;simp[a,g]
     ·right;simp[a,g]
    ·right;simp[a]
  ·have d2:((l.bY.length:Int)!=(l.bq.length:Int)-1)=true:=by simp[m]
   have:¬ybh n.bq.length l:=fun h=>m h.2.1;simp[d2,this]
 ·have o:decide ((2:Int)<=(l.bq.length:Int)/\ (l.bq.length:Int)<=6)=false:=by simp;omega
  have:¬ybh n.bq.length l:=fun h=>p h.1;simp[o,this]
theorem yt0(l:bK)(st:Nat)(z:st<=1000)(A:l.bq.length<=1000)(C:l.bY.length<=1000):yqi l (st:Int)=some (decide (ya9 l.eH/\ ybh st l)):=by
 unfold yqi;rw[ykl];have e0:w64 ((l.bq.length:Int)-1)=(l.bq.length:Int)-1:=jaj (by omega);have w:w64 ((st:Int)-1)=(st:Int)-1:=jaj (by omega);simp only[bF,e0,ybv];by_cases u:ya9 l.eH
 ·simp only[u,decide_true,fT,bW,if_false,true_and];by_cases v:2<=l.bq.length/\ l.bq.length<=6
  ·have p:decide ((2:Int)<=(l.bq.length:Int)/\ (l.bq.length:Int)<=6)=true:=by simp;omega
   simp only[p,fT,bW,if_false];by_cases m:(l.bY.length:Int)=(l.bq.length:Int)-1
   ·have d2:((l.bY.length:Int)!=(l.bq.length:Int)-1)=false:=by simp[m]
    simp only[d2,bF,bW,if_false];rw[qP (hd:=Classical.propDecidable _) l.bq (fun i e=>(0<=e/\ e<(st:Int))/\ fixI (fun y=>e==y) l.bq=(i:Int)) (fun i x k=>?_) (by unfold yex;simp)]
    ·rw[qP (hd:=Classical.propDecidable _) l.bY (fun i r=>1<=r/\ r<=60) (fun i x k=>?_) (by unfold yew;simp)]
     ·by_cases a:∀(i:Nat) e,l.bq[i]? =some e->(0<=e/\ e<(st:Int))/\ fixI (fun y=>e==y) l.bq=(i:Int)
      ·rw[if_pos a];by_cases g:∀(i:Nat) r,l.bY[i]? =some r->1<=r/\ r<=60
       ·rw[if_pos g];have:ybh st l:=⟨v,m,a,g⟩;simp[this]
       ·rw[if_neg g];have:¬ybh st l:=fun h=>g h.2.2.2;simp[this]
      ·rw[if_neg a];have:¬ybh st l:=fun h=>a h.2.2.1;simp[this]
     ·have hi:=(cK.1 k).1;unfold yew;have j:decide ((i:Int)<(l.bY.length:Int))=true:=by simp;omega
      simp only[j,if_true,jal,k,bF,ybv,jai (n:=i) (by omega)];by_cases b:1<=x/\ x<=60
      ·left;simp[b]
      ·right;simp[b]
    ·have hi:=(cK.1 k).1;unfold yex;have j:decide ((i:Int)<(l.bq.length:Int))=true:=by simp;omega
     simp only[j,if_true,jal,k,bF,ybv,w,ygv l (by omega),jai (n:=i) (by omega)];by_cases a:0<=x/\ x<(st:Int)
     ·have o:decide (0<=x/\ x<=(st:Int)-1)=true:=by simp;omega
      by_cases g:fixI (fun y=>x==y) l.bq=(i:Int)
      ·left;simp only[o];simp[a,g]
      ·right;simp only[o];simp[a,g]
     ·have o:decide (0<=x/\ x<=(st:Int)-1)=false:=by simp;omega
      right;simp only[o];simp[a]
   ·have d2:((l.bY.length:Int)!=(l.bq.length:Int)-1)=true:=by simp[m]
    have:¬ybh st l:=fun h=>m h.2.1;simp[d2,this]
  ·have p:decide ((2:Int)<=(l.bq.length:Int)/\ (l.bq.length:Int)<=6)=false:=by simp;omega
   have:¬ybh st l:=fun h=>v h.1;simp[p,this]
 ·simp[u]
theorem ywf(n:bC)(h:Bd n):zq8 n=some (decide (Good n)):=by
 obtain⟨w,p,y⟩:=h;unfold zq8;simp only[ybf,bF,yga n.bq w,yki n p,yga (n.bG.map (·.eH)) (by simpa using p)];by_cases m:2<=n.bq.length/\ n.bq.length<=8
 ·have j:decide ((2:Int)<=(n.bq.length:Int)/\ (n.bq.length:Int)<=8)=true:=by simp;omega
  simp only[j,fT,bW,if_false];by_cases o:1<=n.bG.length/\ n.bG.length<=5
  ·have d2:decide ((1:Int)<=(n.bG.length:Int)/\ (n.bG.length:Int)<=5)=true:=by simp;omega
   simp only[d2,fT,bW,if_false];by_cases a:yd3 n.bq
   ·simp only[a,decide_true,fT,bW,if_false];by_cases e:yd3 (n.bG.map (·.eH))
    ·simp only[e,decide_true,fT,bF,bW,if_false];rw[qP (hd:=Classical.propDecidable _) n.bG (fun i x=>ybh n.bq.length x) (fun i x l=>?_) (by unfold yny;simp)]
     ·by_cases g:∀(i:Nat) x,n.bG[i]? =some x->ybh n.bq.length x
      ·rw[if_pos g];have:Good n:=⟨m,o,a,e,g⟩;simp[this]
      ·rw[if_neg g];have:¬Good n:=fun h=>g h.2.2.2.2;simp[this]
     ·have hi:=(cK.1 l).1;obtain⟨u,v⟩:=y x (bT l);unfold yny;have k:decide ((i:Int)<(n.bG.length:Int))=true:=by simp;omega
      simp only[k,if_true,jal,l,bF,ygg n x u v,jai (n:=i) (by omega)];by_cases b:ybh n.bq.length x
      ·left;simp[b]
      ·right;simp[b]
    ·have:¬Good n:=fun h=>e h.2.2.2.1;simp[e,this]
   ·have:¬Good n:=fun h=>a h.2.2.1;simp[a,this]
  ·have d2:decide ((1:Int)<=(n.bG.length:Int)/\ (n.bG.length:Int)<=5)=false:=by simp;omega
   have:¬Good n:=fun h=>o h.2.1;simp[d2,this]
 ·have j:decide ((2:Int)<=(n.bq.length:Int)/\ (n.bq.length:Int)<=8)=false:=by simp;omega
  have:¬Good n:=fun h=>m h.1;simp[j,this]
theorem yt8(n:bC)(h:Bd n):ym1 n=some (decide (Good n)):=by
 obtain⟨w,A,z⟩:=h;unfold ym1;simp only[ybv,bF];by_cases l:2<=n.bq.length/\ n.bq.length<=8
 ·have k:decide ((2:Int)<=(n.bq.length:Int)/\ (n.bq.length:Int)<=8)=true:=by simp;omega
  simp only[k,fT,bW,if_false];by_cases m:1<=n.bG.length/\ n.bG.length<=5
  ·have d2:decide ((1:Int)<=(n.bG.length:Int)/\ (n.bG.length:Int)<=5)=true:=by simp;omega
   simp only[d2,fT,bF,bW,if_false];rw[qP (hd:=Classical.propDecidable _) n.bq (fun i x=>ya9 x/\ fixI (fun e=>x.toList==e.toList) n.bq=(i:Int)) (fun i x a=>?_) (by unfold yez;simp)]
   ·rw[qP (hd:=Classical.propDecidable _) n.bG (fun i x=>(ya9 x.eH/\ ybh n.bq.length x)/\ fixI (fun e=>x.eH.toList==e.toList) (n.bG.map (·.eH))=(i:Int)) (fun i x a=>?_) (by unfold yey;simp)]
    ·by_cases b:yd3 n.bq
     ·rw[if_pos (show∀(i:Nat) x,n.bq[i]? =some x->ya9 x/\ fixI (fun e=>x.toList==e.toList) n.bq=(i:Int) from b)];by_cases g:∀(i:Nat) x,n.bG[i]? =some x->(ya9 x.eH/\ ybh n.bq.length x)/\ fixI (fun e=>x.eH.toList==e.toList) (n.bG.map (·.eH))=(i:Int)
      ·rw[if_pos g];have:Good n:=⟨l,m,b,fun i y p=>by
        rw[lu]at p;obtain⟨x,a,rfl⟩:=kG.1 p;exact⟨(g i x a).1.1,(g i x a).2⟩,fun i x a=>(g i x a).1.2⟩
       simp[this]
      ·rw[if_neg g];have:¬Good n:=fun h=>g fun i x a=>by
        have o:=h.2.2.2.1 i x.eH (by rw[lu,a];rfl);exact⟨⟨o.1,h.2.2.2.2 i x a⟩,o.2⟩
       simp[this]
     ·rw[if_neg (show¬∀(i:Nat) x,n.bq[i]? =some x->ya9 x/\ fixI (fun e=>x.toList==e.toList) n.bq=(i:Int) from b)];have:¬Good n:=fun h=>b h.2.2.1;simp[this]
    ·have hi:=(cK.1 a).1;obtain⟨u,v⟩:=z x (bT a);unfold yey;have j:decide ((i:Int)<(n.bG.length:Int))=true:=by simp;omega
     simp only[j,if_true,jal,a,bF,yt0 x n.bq.length w u v,ygf n (by omega),jai (n:=i) (by omega)];by_cases b:ya9 x.eH/\ ybh n.bq.length x
     ·by_cases g:fixI (fun e=>x.eH.toList==e.toList) (n.bG.map (·.eH))=(i:Int)
      ·left;simp[b,g]
      ·right;simp[b,g]
     ·right;simp[b]
   ·have hi:=(cK.1 a).1;unfold yez;have j:decide ((i:Int)<(n.bq.length:Int))=true:=by simp;omega
    simp only[j,if_true,jal,a,bF,ykl,yt1 n.bq (by omega),jai (n:=i) (by omega)];by_cases b:ya9 x
    ·by_cases g:fixI (fun e=>x.toList==e.toList) n.bq=(i:Int)
     ·left;simp[b,g]
     ·right;simp[b,g]
    ·right;simp[b]
  ·have d2:decide ((1:Int)<=(n.bG.length:Int)/\ (n.bG.length:Int)<=5)=false:=by simp;omega
   have:¬Good n:=fun h=>m h.2.1;simp[d2,this]
 ·have k:decide ((2:Int)<=(n.bq.length:Int)/\ (n.bq.length:Int)<=8)=false:=by simp;omega
  have:¬Good n:=fun h=>l h.1;simp[k,this]
theorem ypt(l:List Int)(h:l.length<=1000):ydr l=some l:=by
 unfold ydr;rw[ja9 (by simp;omega)];rfl
theorem ywr(n:bC)(h:Bd n):ymy n=some n:=by
 obtain⟨o,p,l⟩:=h;unfold ymy;rw[ja9 (by simp;omega)];simp only[bF];rw[Pk (fun x:bK=>x) n.bG (fun i a x m g=>?_) (fun a m=>?_)]
 ·simp only[bF,List.map_id',jD]
 ·have hi:=(cK.1 g).1;obtain⟨j,k⟩:=l x (bT g);unfold yeu;have e:decide ((i:Int)<(n.bG.length:Int))=true:=by simp;omega
  have b:∀y:bK,chk (a.length+([y]:List bK).length<=4294967296)=some ():=fun y=>ja9 (by simp;omega);simp only[e,if_true,jal,g,bF,ypt _ j,ypt _ k,b,jai (n:=i) (by omega)]
 ·unfold yeu;simp
theorem yqz(n:bC)(h:Bd n):ymw n=some n:=by
 have:ymw n=ymy n:=rfl;rw[this];exact ywr n h
theorem yt2(s:List Int)(hs:s.length<=1000):En s=some s.reverse:=by
 unfold En;have e0:w64 ((s.length:Int)-1)=(s.length:Int)-1:=jaj (by omega);rw[e0];have h:=jb5 (step:=ye1 s) (fun m a=>∃j:Nat,a.1=(s.length:Int)-1-j/\ m+j=s.length/\ a.2=s.reverse.take j) (fun b=>b=s.reverse) ?_ (k:=s.length) (a:=((s.length:Int)-1,[])) ⟨0,by simp,by omega,by simp⟩
 ·obtain⟨b,hb,rfl⟩:=h;rw[hb];rfl
 rintro m ⟨v,i⟩ ⟨j,y,A,hi⟩;simp only at y hi;subst y;by_cases p:j<s.length
 ·left;have ev:(s.length:Int)-1-j=((s.length-1-j:Nat):Int):=by omega
  rw[ev];obtain⟨e,u⟩:=jak (l:=s) (i:=s.length-1-j) (by omega);have hd:decide ((0:Int)<=((s.length-1-j:Nat):Int))=true:=by simp
  have w:i.length=j:=by rw[hi];simp;omega
  have o:chk (i.length+([e]:List Int).length<=4294967296)=some ():=ja9 (by simp;omega);have g:w64 (((s.length-1-j:Nat):Int)-1)=(s.length:Int)-1-((j+1:Nat):Int):=by rw[jaj (by omega)];omega
  refine⟨((s.length:Int)-1-((j+1:Nat):Int),i++[e]),m-1,?_,by omega,j+1,rfl,by omega,?_⟩
  ·unfold ye1;simp only[hd,if_true,jal,u,o,bF,g]
  ·show i++[e]=_;rw[jap (x:=e) (by rw[List.getElem?_reverse p];exact u),hi]
 ·right;have z:j=s.length:=by omega
  subst z;have hd:decide ((0:Int)<=(s.length:Int)-1-(s.length:Int))=false:=by simp;omega
  refine⟨i,by unfold ye1;simp only[hd,bW,if_false],?_⟩;rw[hi,iw (by simp)]
theorem ygw(s:List Int)(hs:s.length<=1000):yie s=some s.reverse:=yt2 s hs
def LB(x:bK):Prop:=(2<=x.bq.length/\ x.bq.length<=10)/\ 1<=x.bY.length/\ x.bY.length<=10
def NB(n:bC):Prop:=(2<=n.bq.length/\ n.bq.length<=6)/\ (1<=n.bG.length/\ n.bG.length<=8)/\ ∀x∈n.bG,LB x
theorem NB.bd{n:bC}(h:NB n):Bd n:=⟨by have:=h.1;omega,by have:=h.2.1;omega,fun x a=>by have:=h.2.2 x a;unfold LB at this;omega⟩
theorem ypu(n:Int)(h0:0<=n)(g:n<10):∃r,yql n=some r/\ r.size<=10:=by
 have e:yql n=yc2 (yii 4294967295) n:=rfl;rw[e];unfold yc2;have a:decide (n<0)=false:=by simp;omega
 have d2:decide (n<10)=true:=by simp;omega
 have b:w64 (n+1)=n+1:=jaj (by omega);have hs:(str [48,49,50,51,52,53,54,55,56,57]).size=10:=rfl;simp only[a,d2,bW,if_false,if_true,b,hs];rw[ja9 (by omega)];refine⟨_,rfl,?_⟩;rw[ByteArray.size_extract,hs];omega
theorem ytx{k:Nat}{c:bM}(x:ByteArray)(g:Int)(hs:2<=g/\ g<=1000)(h:Cur k c)(hk:k<=1000000000):∃r,yqs c x g=some r/\ Cur (k+40) r.2/\ LB r.1:=by
 unfold yqs;obtain⟨r,hr,hc,h0,h1⟩:=ya1 g h (by omega);obtain⟨D,W,P,ab,ac⟩:=ya1 3 hc (by omega);simp only[hr,W,bF];have N:w64 (2+D.1)=((2+D.1.toNat:Nat):Int):=by rw[jaj (by omega)];omega
 rw[N];have J:∃b,iter (ye6 x g) (r.1,((2+D.1.toNat:Nat):Int),D.2.dH,D.2.at_,D.2.dL.v,[])=some b/\ (Cur (k+4+2*4) ⟨b.1,b.2.1,⟨b.2.2.1⟩⟩/\ 1<=b.2.2.2.length/\ b.2.2.2.length<=4):=by
  refine jb5 (fun m a=>(0<=a.1/\ a.1<g)/\ a.2.1=(m:Int)/\ m+a.2.2.2.2.2.length<=4/\ (1<=m \/1<=a.2.2.2.2.2.length)/\ Cur (k+4+2*(4-m)) ⟨a.2.2.1,a.2.2.2.1,⟨a.2.2.2.2.1⟩⟩) _ ?_ (k:=2+D.1.toNat) ⟨⟨h0,by show r.1<g;omega⟩,rfl,by simp;omega,.inl (by omega),P.mono (by omega)⟩;rintro m ⟨v,v1,v2,v3,v4,A⟩ ⟨hv,H,R,U,o⟩;simp only at hv H R U o;subst H;unfold ye6;cases m with
  |zero=>right;exact⟨_,by simp;rfl,o,by show 1<=A.length;omega,by show A.length<=4;omega⟩
  |succ m=>
   left;have G:decide ((0:Int)<((m+1:Nat):Int))=true:=by simp
   obtain⟨Z,X,E,ad,ae⟩:=ya1 2 o (by omega);have V:=ygv (⟨x,A,[]⟩:bK) (by show A.length<=_;omega) v;have u:chk (A.length+([v]:List Int).length<=4294967296)=some ():=ja9 (by simp;omega);have w:chk (g≠0)=some ():=ja9 (by omega);have w1:w64 (v+1)=v+1:=jaj (by omega);have w2:w64 (v+1+Z.1)=v+1+Z.1:=jaj (by omega);have ht:=jjk (a:=v+1+Z.1) (b:=g) (by omega) (by omega);simp only[G,if_true,V,u,X,w,w1,w2,bF];have w3:w64 (((m+1:Nat):Int)-1)=(m:Int):=jff (by omega);split
   ·refine⟨_,m,by simp only[bF];rfl,by omega,ht,w3,?_,.inr ?_,?_⟩
    ·simp;omega
    ·simp
    ·exact E.mono (by omega)
   ·rename_i hn;refine⟨_,m,by simp only[bF];rfl,by omega,ht,w3,?_,.inr ?_,?_⟩
    ·show m+A.length<=4;omega
    ·show 1<=A.length;cases A with
     |nil=>simp[fixI]at hn
     |cons a l=>simp
    ·exact E.mono (by omega)
 obtain⟨⟨v7,v8,v9,p⟩,hb,F,T⟩:=J;simp only at F T;rw[hb];simp only[bF];have aa:∃j:List Int,(if decide ((p.length:Int)<2)=true then(idx p 0).bind fun N=>(chk ((g:Int)≠0)).bind fun u4=>(chk (p.length+([((w64 (N+1)).tmod g)]:List Int).length<=4294967296)).bind fun u5=>some (p++([((w64 (N+1)).tmod g)]:List Int))else some p)=some j/\ 2<=j.length/\ j.length<=5:=by
  by_cases h2:(p.length:Int)<2
  ·obtain⟨e,he,_⟩:=lX (l:=p) (i:=0) (by omega) (by omega);have u:∀y:Int,chk (p.length+([y]:List Int).length<=4294967296)=some ():=fun y=>ja9 (by simp;omega);have w:chk (g≠0)=some ():=ja9 (by omega);refine⟨p++[(w64 (e+1)).tmod g],by simp only[h2,decide_true,if_true,he,w,u,bF],?_,?_⟩
   ·simp;omega
   ·simp;omega
  ·exact⟨p,by simp[h2],by omega,by omega⟩
 obtain⟨j,I,l1,l2⟩:=aa;rw[I];simp only[bF];have C:∃b,iter (ye5 j) (1,v7,v8,v9,[])=some b/\ (Cur (k+40) ⟨b.1,b.2.1,⟨b.2.2.1⟩⟩/\ b.2.2.2.length+1=j.length):=by
  refine jb5 (fun m a=>∃i:Nat,a.1=(i:Int)/\ m+i=j.length/\ a.2.2.2.2.length+1=i/\ Cur (k+12+2*i) ⟨a.2.1,a.2.2.1,⟨a.2.2.2.1⟩⟩) _ ?_ (k:=j.length-1) ⟨1,rfl,by omega,rfl,F.mono (by omega)⟩;rintro m ⟨ah,ai,aj,ak,K⟩ ⟨i,hi,hm,R,o⟩;simp only at hi R o;subst hi;unfold ye5;by_cases af:i<j.length
  ·left;have hd:decide ((i:Int)<(j.length:Int))=true:=by simp;omega
   obtain⟨r5,Y,Q,_⟩:=ya1 12 o (by omega);have u:∀y:Int,chk (K.length+([y]:List Int).length<=4294967296)=some ():=fun y=>ja9 (by simp;omega);refine⟨_,m-1,by simp only[hd,if_true,Y,u,bF,jai (n:=i) (by omega)];rfl,by omega,i+1,rfl,by omega,?_,?_⟩
   ·simp;omega
   ·exact Q.mono (by omega)
  ·right;have hd:decide ((i:Int)<(j.length:Int))=false:=by simp;omega
   refine⟨_,by simp only[hd,bW,if_false];rfl,?_,?_⟩
   ·exact o.mono (by omega)
   ·show K.length+1=_;omega
 obtain⟨⟨am,ao,ap,M⟩,O,z,S⟩:=C;simp only at z S;rw[O];simp only[bF];exact⟨_,rfl,z,⟨l1,by show j.length<=10;omega⟩,by show 1<=M.length;omega,by show M.length<=10;omega⟩
theorem ywm{k:Nat}{c:bM}(b:ByteArray)(a:Int)(hs:2<=a/\ a<=1000)(h:Cur k c)(e:k<=1000000000):∃r,yqr c b a=some r/\ Cur (k+40) r.2/\ LB r.1:=ytx b a hs h e
theorem Kj(i:Nat)(a:2<=i)(b:i<=6)(l:List ByteArray)(e:l.length=6):2<=((l.take i).drop (0:Int).toNat).length/\ ((l.take i).drop (0:Int).toNat).length<=6:=by
 simp;omega
theorem ybt{k:Nat}{c:bM}(h:Cur k c)(hk:k<=500000000):∃r,yqp c=some r/\ Cur (k+300) r.2/\ NB r.1:=by
 unfold yqp;obtain⟨r,hr,hc,h0,h1⟩:=ya1 5 h (by omega);have e1:w64 (2+r.1)=2+r.1:=jaj (by omega);have w:([(str [112,111,114,116]),(str [109,105,108,108]),(str [112,97,114,107]),(str [104,97,108,108]),(str [100,111,99,107]),(str [102,97,105,114])]:List ByteArray).length=6:=rfl;simp only[hr,bF,e1,w];rw[ja9 (by omega)];obtain⟨z,R,M,aa,ab⟩:=ya1 3 hc (by omega);have e2:w64 (1+z.1)=((1+z.1.toNat:Nat):Int):=by rw[jaj (by omega)];omega
 simp only[R,bF,e2];have G:∃b,iter (ye4 r) (((1+z.1.toNat:Nat):Int),z.2.dH,z.2.at_,z.2.dL.v,[])=some b/\ (Cur (k+4+40*3) ⟨b.1,b.2.1,⟨b.2.2.1⟩⟩/\ (1<=b.2.2.2.length/\ b.2.2.2.length<=3)/\ ∀x∈b.2.2.2,LB x):=by
  refine jb5 (fun m a=>a.1=(m:Int)/\ m+a.2.2.2.2.length<=3/\ 1<=m+a.2.2.2.2.length/\ (∀x∈a.2.2.2.2,LB x)/\ Cur (k+4+40*(3-m)) ⟨a.2.1,a.2.2.1,⟨a.2.2.2.1⟩⟩) _ ?_ (k:=1+z.1.toNat) ⟨rfl,by simp;omega,by simp,by simp,M.mono (by omega)⟩;rintro m ⟨x,v,v1,v2,X⟩ ⟨hx,hl,Q,u,p⟩;simp only at hx hl Q u p;subst hx;unfold ye4;cases m with
  |zero=>right;exact⟨_,by simp;rfl,p,⟨by show 1<=X.length;omega,by show X.length<=3;omega⟩,u⟩
  |succ m=>
   left;have F:decide ((0:Int)<((m+1:Nat):Int))=true:=by simp
   obtain⟨r4,S,ac⟩:=ypu ((m+1:Nat):Int) (by omega) (by omega);have hs:(str [108]).size=1:=rfl;have O:chk ((str [108]).size+r4.size<=4294967296)=some ():=ja9 (by omega);obtain⟨r5,T,N,K⟩:=ywm (str [108]++r4) (2+r.1) (by omega) p (by omega);have o:∀y:bK,chk (X.length+([y]:List bK).length<=4294967296)=some ():=fun y=>ja9 (by simp;omega);refine⟨_,m,by simp only[F,if_true,S,O,e1,T,o,bF];rfl,by omega,?_,?_,?_,?_,?_⟩
   ·exact jff (by omega)
   ·simp;omega
   ·simp;omega
   ·intro y hy;rcases fA.1 hy with hy|hy
    ·exact u y hy
    ·simp at hy;subst hy;exact K
   ·exact N.mono (by omega)
 obtain⟨⟨v4,v5,v6,v7⟩,hb,D,u,g⟩:=G;simp only at D u g;rw[hb];simp only[bF];obtain⟨r6,U,C⟩:=ypq 2 D (by omega);simp only[U,bF];have fin:∀(Y:List UInt8)(Z A:Int)(j:List bK),Cur (k+200) ⟨Y,Z,⟨A⟩⟩->(1<=j.length/\ j.length<=8)->(∀x∈j,LB x)->
   ∃W,((ymw (⟨((([(str [112,111,114,116]),(str [109,105,108,108]),(str [112,97,114,107]),(str [104,97,108,108]),(str [100,111,99,107]),(str [102,97,105,114])]:List ByteArray).take (2+r.1).toNat).drop (0:Int).toNat),j⟩:bC)).bind fun H=>some ((⟨H.bq,H.bG⟩:bC),(⟨Y,Z,(⟨A⟩:IK .u64)⟩:bM)))=some W/\ Cur (k+300) W.2/\ NB W.1:=by
  intro Y Z A j I J g3;have V:=Kj (2+r.1).toNat (by omega) (by omega) _ w;have E:NB (⟨((([(str [112,111,114,116]),(str [109,105,108,108]),(str [112,97,114,107]),(str [104,97,108,108]),(str [100,111,99,107]),(str [102,97,105,114])]:List ByteArray).take (2+r.1).toNat).drop (0:Int).toNat),j⟩:bC):=⟨V,J,g3⟩;rw[yqz _ E.bd];exact⟨_,rfl,I.mono (by omega),E⟩
 split
 ·obtain⟨e,he,_,P⟩:=lX (l:=v7) (i:=0) (by omega) (by omega);obtain⟨I,J⟩:=g e P;have o:∀y:bK,chk (v7.length+([y]:List bK).length<=4294967296)=some ():=fun y=>ja9 (by simp;omega);simp only[he,ygw e.bq (by omega),ygw e.bY (by omega),o,bF];refine fin _ _ _ _ (C.mono (by omega)) (by simp;omega) fun y hy=>?_;rcases fA.1 hy with hy|hy
  ·exact g y hy
  ·simp at hy;subst hy;exact⟨by simpa using I,by simpa using J⟩
 ·simp only[bF];exact fin _ _ _ _ (C.mono (by omega)) (by omega) g
theorem yjm{k:Nat}{c:bM}(h:Cur k c)(hk:k<=200000000):∃r,zq94 c=some r/\ Cur (k+1000) r.2/\ Bd r.1:=by
 unfold zq94;obtain⟨r,hr,hc,ao⟩:=ybt h (by omega);obtain⟨n1,n2,A⟩:=ao;obtain⟨X,ap,ab,F,aE⟩:=ya1 (r.1.bG.length:Int) hc (by omega);obtain⟨e,he,aG,ak⟩:=lX (l:=r.1.bG) (i:=X.1) F (by omega);obtain⟨g1,g2⟩:=A e ak;obtain⟨r2,aq,g,_⟩:=ya1 24 ab (by omega);simp only[hr,ap,he,aq,bF];have fin:∀(v:List UInt8)(v1 v2:Int)(v3:ByteArray)(Y:List ByteArray)(E:List bK)(Z:List Int),Cur (k+900) ⟨v,v1,⟨v2⟩⟩->Y.length<=6->E.length=r.1.bG.length->(∀x∈E,LB x)->Z.length<=11->
   ∃r',((idx E X.1).bind fun W=>some ((⟨Y,(E.set X.1.toNat (⟨v3,W.bq,Z⟩:bK))⟩:bC),(⟨v,v1,(⟨v2⟩:IK .u64)⟩:bM)))=some r'/\ Cur (k+1000) r'.2/\ Bd r'.1:=by
  intro v v1 v2 v3 Y E Z q1 q2 q3 q4 q5;obtain⟨W,aj,_,am⟩:=lX (l:=E) (i:=X.1) F (by omega);rw[aj];refine⟨_,rfl,q1.mono (by omega),by show Y.length<=_;omega,by simp;omega,fun x hx=>?_⟩;rcases tZ hx with hx|hx
  ·have:=q4 x hx;unfold LB at this;omega
  ·subst hx;have:=q4 W am;unfold LB at this;exact⟨by show W.bq.length<=_;omega,by show Z.length<=_;omega⟩
 split
 ·obtain⟨r4,ar,ac,_⟩:=yxc ([(str [109,105,108,108]),(str []),(str [65]),(str [97,98,99,100,101,102,103,104]),(str [97,98,99,100,101,102,103,104,105])]:List ByteArray) (by simp) g (by omega);obtain⟨e2,O,_⟩:=lX (l:=r.1.bq) (i:=0) (by omega) (by omega);simp only[ar,O,bF,jco];exact fin _ _ _ _ _ _ _ (ac.mono (by omega)) (by simp;omega) rfl A (by omega)
 split
 ·obtain⟨r5,au,ad,_⟩:=yxc ([(str [114,49]),(str [108,49]),(str []),(str [88])]:List ByteArray) (by simp) g (by omega);simp only[au,bF,jco];exact fin _ _ _ _ _ _ _ (ad.mono (by omega)) (by omega) rfl A (by omega)
 split
 ·obtain⟨r8,aw,ae,aa,aF⟩:=ya1 (e.bq.length:Int) g (by omega);obtain⟨r9,ax,af,_⟩:=ya1 10 ae (by omega);obtain⟨e4,ah,_⟩:=lX (l:=e.bq) (i:=r8.1) aa (by omega);simp only[aw,ax,ah,bF,jco];refine fin _ _ _ _ _ _ _ (af.mono (by omega)) (by omega) (by simp) (fun x hx=>?_) (by show e.bY.length<=11;omega);rcases tZ hx with hx|hx
  ·exact A x hx
  ·subst hx;exact⟨by simpa using g1,g2⟩
 split
 ·obtain⟨ay,P,I,G,aA⟩:=ya1 (e.bY.length:Int) g (by omega);obtain⟨aI,Q,J,_⟩:=ygc ([0,60,61,(-1)]:List Int) (by simp) I (by omega);obtain⟨e6,ai,_⟩:=lX (l:=e.bY) (i:=ay.1) G (by omega);simp only[P,Q,ai,bF,jco];refine fin _ _ _ _ _ _ _ (J.mono (by omega)) (by omega) (by simp) (fun x hx=>?_) (by simp;omega);rcases tZ hx with hx|hx
  ·exact A x hx
  ·subst hx;exact⟨g1,by simpa using g2⟩
 split
 ·have C:chk (e.bY.length+([3]:List Int).length<=4294967296)=some ():=ja9 (by simp;omega);simp only[C,bF,jco];exact fin _ _ _ _ _ _ _ (g.mono (by omega)) (by omega) rfl A (by simp;omega)
 split
 ·simp only[jdp];exact⟨_,rfl,g.mono (by omega),by show r.1.bq.length<=_;omega,by simp,by simp⟩
 split
 ·have U:∃b,iter (yg0 r) (0,r2.2.dH,r2.2.at_,r2.2.dL.v,r.1.bG)=some b/\ (Cur (k+900) ⟨b.1,b.2.1,⟨b.2.2.1⟩⟩/\ b.2.2.2.length<=20/\ ∀x∈b.2.2.2,LB x):=by
   refine jb5 (fun m a=>∃i:Nat,a.1=(i:Int)/\ m+i=8/\ i<=7/\ a.2.2.2.2.length<=8+i/\ (∀x∈a.2.2.2.2,LB x)/\ Cur (k+310+50*i) ⟨a.2.1,a.2.2.1,⟨a.2.2.2.1⟩⟩) _ ?_ (k:=8) ⟨0,rfl,rfl,by omega,by simpa using n2.2,A,g.mono (by omega)⟩;rintro m ⟨v7,v8,v9,aK,o⟩ ⟨i,hi,hm,aH,hl,p,z⟩;simp only at hi hl p z;subst hi;unfold yg0;obtain⟨j,R,w,aB,aC⟩:=ya1 2 z (by omega);have w1:w64 (5+j.1)=5+j.1:=jaj (by omega);simp only[R,w1,bF];by_cases a1:(o.length:Int)<5+j.1/\ (i:Int)<7
   ·left;have d1:decide ((o.length:Int)<5+j.1)=true:=by simp;omega
    have d2:decide ((i:Int)<7)=true:=by simp;omega
    obtain⟨V,S,aD⟩:=ypu (i:Int) (by omega) (by omega);have hs:(str [120]).size=1:=rfl;have C:chk ((str [120]).size+V.size<=4294967296)=some ():=ja9 (by omega);obtain⟨aJ,T,K,H⟩:=ytx (str [120]++V) (r.1.bq.length:Int) (by omega) w (by omega);have N:∀y:bK,chk (o.length+([y]:List bK).length<=4294967296)=some ():=fun y=>ja9 (by simp;omega);refine⟨_,m-1,by simp only[d1,d2,if_true,S,C,T,N,bF,jai (n:=i) (by omega)];rfl,by omega,i+1,rfl,by omega,by omega,?_,fun x hx=>?_,?_⟩
    ·simp;omega
    ·rcases fA.1 hx with hx|hx
     ·exact p x hx
     ·simp at hx;subst hx;exact H
    ·exact K.mono (by omega)
   ·right;have D:(if decide ((o.length:Int)<5+j.1)=true then some (decide ((i:Int)<7))else some false)=some false:=by
     by_cases b1:(o.length:Int)<5+j.1
     ·have:decide ((i:Int)<7)=false:=by simp;omega
      simp[b1,this]
     ·simp[b1]
    refine⟨_,by simp only[D,bF,bW,if_false];rfl,?_,?_,p⟩
    ·exact w.mono (by omega)
    ·show o.length<=20;omega
  obtain⟨⟨aL,aM,aN,az⟩,hb,M,p,u⟩:=U;simp only at M p u;rw[hb];simp only[bF,jdp];refine⟨_,rfl,M.mono (by omega),by show r.1.bq.length<=_;omega,by show az.length<=_;omega,fun x hx=>?_⟩;have:=u x hx;unfold LB at this;omega
 ·simp only[jco];exact fin _ _ _ _ _ _ _ (g.mono (by omega)) (by omega) rfl A (by omega)
def TB(t:bA):Prop:=Bd t.bC/\ t.bn.length<=1000
def ydj(n:bC)(x:cZ):Prop:=(1<=x.Id/\ x.Id<=999)/\ ∃l,idx n.bG x.bK=some l/\ (0<=x.d9/\ x.d9<=1799)/\ 0<=x.d9+l.bY.sum/\ x.d9+l.bY.sum<=1799
def ydk(t:bA):Prop:=Good t.bC/\ t.bn.length<=12/\ (∀(i:Nat) x,t.bn[i]? =some x->ydj t.bC x)/\ ∀(i:Nat) a b,t.bn[i]? =some a->t.bn[i+1]? =some b->a.Id<b.Id
noncomputable instance(t:bA):Decidable (ydk t):=Classical.propDecidable _
noncomputable instance(n:bC)(x:cZ):Decidable (ydj n x):=Classical.propDecidable _
theorem ytf(t:Int):zq10 t=some (decide (0<=t/\ t<=1799)):=by
 unfold zq10;rw[ybf];rfl
theorem ykk(t:Int):yge t=some (decide (0<=t/\ t<=1799)):=by
 unfold yge;rw[ybv];rfl
theorem ywi(l:List Int)(b:l.length<=1000000)(e:∀x∈l,0<=x/\ x<=1000000):zq51 l=some l.sum:=by
 unfold zq51;rw[P7 (fun x:Int=>x) l b e (fun i s x a=>?_) (fun s=>?_)]
 ·simp
 ·have:=fK a;unfold yhf;simp(disch:=omega) only[if_pos,if_neg,decide_eq_true_eq,decide_true,decide_false,fT,kS,bW,mO,decide_eq_false_iff_not,if_true,if_false,jaj,ja9,jal,bF,gW,gI,not_true_eq_false,not_false_eq_true,true_and,and_true,and_self,false_and,and_false,reduceIte,jco,jdp,beq_self_eq_true,ne_eq,bne_self_eq_false,Int.ofNat_lt.2 this,a]
 ·unfold yhf;simp
theorem ywq(x:bK)(a b:Nat)(w:a<=b)(hb:b<=x.bY.length)(C:x.bY.length<=1000)(o:∀r∈x.bY,0<=r/\ r<=1000000):yjx x (a:Int) (b:Int)=some (((x.bY.take b).drop a).sum):=by
 unfold yjx;refine Tot.val (.call (P:=fun v=>v=((x.bY.take b).drop a).sum) ?_ fun v h=>.ok h);refine .iter (fun m s=>∃k:Nat,s.2=((a+k:Nat):Int)/\ m+k=b-a/\ s.1=(((x.bY.take b).drop a).take k).sum) (n:=b-a) ⟨0,by simp,by omega,by simp⟩ ?_;rintro m ⟨s,v⟩ ⟨k,p,D,hs⟩;simp only at p hs;subst p;unfold yh8;refine .iteP (fun hc=>?_) (fun hc=>.dn ?_)
 ·obtain⟨r,g⟩:=jak (l:=x.bY) (i:=a+k) (by omega);have j:((x.bY.take b).drop a)[k]? =some r:=by
   rw[iX,kL (by omega)];exact g
  have z:=o r (bT g);have e:=Cg (l:=((x.bY.take b).drop a).take k) (M:=1000000) fun y A=>o y (rE (List.mem_of_mem_drop (rE A)));have u:((((x.bY.take b).drop a).take k).length:Int)<=1000:=by simp;omega
  rw[<-hs]at e;refine .eq (by rw[jal];exact g) (.nx ⟨m-1,by omega,k+1,?_,by omega,?_⟩)
  ·show w64 (((a+k:Nat):Int)+1)=_;rw[jaj (by omega)];omega
  ·show w64 (s+r)=_;rw[jaj (by omega),jjo j,hs]
 ·rw[hs,iw (by rw[gY,eF];omega)]
theorem yde{n:bC}(h:Good n){k:Int}{l:bK}(a:idx n.bG k=some l):ybh n.bq.length l:=h.2.2.2.2 _ l (CU a).2.2
theorem ykg{st:Nat}{l:bK}(h:ybh st l){j:Nat}{s:Int}(hs:l.bq[j]? =some s):0<=s/\ s<(st:Int):=(h.2.2.1 j s hs).1
theorem ybu{st:Nat}{l:bK}(h:ybh st l):(l.bY.length+1=l.bq.length/\ 1<=l.bY.length/\ l.bY.length<=5)/\ ∀r∈l.bY,1<=r/\ r<=60:=by
 obtain⟨e,g,j,a⟩:=h;refine⟨by omega,fun r b=>?_⟩;obtain⟨i,hi⟩:=jJ b;exact a i r hi
theorem ypl{st:Nat}{l:bK}(h:ybh st l)(k:Nat):0<=(l.bY.take k).sum/\ (l.bY.take k).sum<=300:=by
 obtain⟨⟨e,g,i⟩,a⟩:=ybu h;have:=Cg (l:=l.bY.take k) (M:=60) fun x b=>by have:=a x (rE b);omega
 have j:((l.bY.take k).length:Int)<=5:=by simp;omega
 omega
theorem ytk{st:Nat}{l:bK}(h:ybh st l):0<=l.bY.sum/\ l.bY.sum<=300:=by
 have:=ypl h l.bY.length
 rwa [rD]at this
theorem yp0{t:bA}(e:Good t.bC){x:cZ}{l:bK}(a:idx t.bC.bG x.bK=some l)(hs:0<=x.d9/\ x.d9<=1799):zq27 t x=some (x.d9+l.bY.sum):=by
 have h:=yde e a;obtain⟨⟨i,j,k⟩,b⟩:=ybu h;have m:=ytk h;unfold zq27;rw[a];simp only[bF];rw[ywi l.bY (by omega) (fun x g=>by have:=b x g;omega)];simp(disch:=omega) only[if_pos,if_neg,decide_eq_true_eq,decide_true,decide_false,fT,kS,bW,mO,decide_eq_false_iff_not,if_true,if_false,jaj,ja9,jal,bF,gW,gI,not_true_eq_false,not_false_eq_true,true_and,and_true,and_self,false_and,and_false,reduceIte,jco,jdp,beq_self_eq_true,ne_eq,bne_self_eq_false]
theorem ykj{t:bA}{i:Nat}{x:cZ}{l:bK}(b:t.bn[i]? =some x)(a:idx t.bC.bG x.bK=some l):yms t (i:Int)=some l:=by
 unfold yms;simp(disch:=omega) only[if_pos,if_neg,decide_eq_true_eq,decide_true,decide_false,fT,kS,bW,mO,decide_eq_false_iff_not,if_true,if_false,jaj,ja9,jal,bF,gW,gI,not_true_eq_false,not_false_eq_true,true_and,and_true,and_self,false_and,and_false,reduceIte,jco,jdp,beq_self_eq_true,ne_eq,bne_self_eq_false,b,a]
theorem ydu{t:bA}{i:Nat}{x:cZ}{l:bK}(b:t.bn[i]? =some x)(a:idx t.bC.bG x.bK=some l):yjw t (i:Int)=some l.bq:=by
 unfold yjw;rw[ykj b a];rfl
theorem J9{t:bA}(j:Good t.bC){i:Nat}{x:cZ}{l:bK}(a:t.bn[i]? =some x)(b:idx t.bC.bG x.bK=some l)(hs:0<=x.d9/\ x.d9<=1799){k:Nat}(m:k<=l.bY.length):yqh t (i:Int) (k:Int)=some (x.d9+(l.bY.take k).sum):=by
 have h:=yde j b;obtain⟨⟨o,p,u⟩,g⟩:=ybu h;have v:=ypl h k;have e:=ywq l 0 k (by omega) m (by omega) (fun x a=>by have:=g x a;omega);rw[uj]at e;have e':yjx l 0 (k:Int)=some (l.bY.take k).sum:=e;unfold yqh;simp(disch:=omega) only[if_pos,if_neg,decide_eq_true_eq,decide_true,decide_false,fT,kS,bW,mO,decide_eq_false_iff_not,if_true,if_false,jaj,ja9,jal,bF,gW,gI,not_true_eq_false,not_false_eq_true,true_and,and_true,and_self,false_and,and_false,reduceIte,jco,jdp,beq_self_eq_true,ne_eq,bne_self_eq_false,a,ykj a b,e']
theorem yps{t:bA}(b:Good t.bC){i:Nat}{x:cZ}{l:bK}(g:t.bn[i]? =some x)(a:idx t.bC.bG x.bK=some l)(hs:0<=x.d9/\ x.d9<=1799):yft t (i:Int)=some (x.d9+l.bY.sum):=by
 have h:=yde b a;obtain⟨⟨j,k,m⟩,o⟩:=ybu h;have e:w64 ((l.bq.length:Int)-1)=(l.bY.length:Int):=by rw[jaj (by omega)];omega
 unfold yft;rw[ydu g a];simp only[bF,e,J9 b g a hs (dQ _),rD]
def ygz(t:bA):Prop:=(∀(i:Nat) x,t.bn[i]? =some x->ydj t.bC x)/\ ∀(i:Nat) a b,t.bn[i]? =some a->t.bn[i+1]? =some b->a.Id<b.Id
noncomputable instance(t:bA):Decidable (ygz t):=Classical.propDecidable _
theorem Ll{t:bA}(hb:TB t)(p:Good t.bC)(x:cZ)(a:Int)(k:0<=a):((if decide (x.Id<=a) then some true else if decide (999<x.Id) then some true else(zq35 t.bC x.bK).bind fun r=>
   if !r then some true else(zq10 x.d9).bind fun u=>
   if !u then some true else(zq27 t x).bind fun v=>
   (zq10 v).bind fun w=>
   some (!w)))=some (!decide (a<x.Id/\ ydj t.bC x)):=by
 by_cases i:x.Id<=a
 ·have:¬(a<x.Id/\ ydj t.bC x):=fun h=>by omega
  simp[i,this]
 ·by_cases m:999<x.Id
  ·have:¬(a<x.Id/\ ydj t.bC x):=fun h=>by have:=h.2.1;omega
   simp[i,m,this]
  ·simp only[yt7,ytf,bF,i,m,decide_false,bW,if_false];by_cases e:0<=x.bK/\ x.bK<(t.bC.bG.length:Int)
   ·obtain⟨l,j,_⟩:=lX (l:=t.bC.bG) e.1 e.2;by_cases g:0<=x.d9/\ x.d9<=1799
    ·have hT:(a<x.Id/\ ydj t.bC x)↔(0<=x.d9+l.bY.sum/\ x.d9+l.bY.sum<=1799):=by
      constructor
      ·rintro⟨_,_,l',b,_,h⟩;rw[j]at b;cases b;exact h
      ·intro h;exact⟨by omega,⟨by omega,by omega⟩,l,j,g,h⟩
     simp only[e,g,and_self,decide_true,fT,bW,if_false,yp0 p j g,ytf,bF,hT]
    ·have:¬(a<x.Id/\ ydj t.bC x):=fun h=>by
      obtain⟨_,_,l',_,o,_⟩:=h;exact g o
     simp only[e,g,this,and_self,decide_true,decide_false,fT,kS,bW,if_false,if_true]
   ·have:¬(a<x.Id/\ ydj t.bC x):=fun h=>by
     obtain⟨_,_,l',b,_⟩:=h;have:=CU b;exact e ⟨this.1,this.2.1⟩
    simp only[e,this,decide_false,kS,if_true]
theorem yns{t:bA}(hb:TB t)(H:Good t.bC):zq15 t=some (decide (t.bn.length<=12/\ ygz t)):=by
 unfold zq15;by_cases w:t.bn.length<=12
 ·have d:decide ((12:Int)<(t.bn.length:Int))=false:=by simp;omega
  have e:decide (t.bn.length<=12/\ ygz t)=decide (ygz t):=by simp[w]
  rw[d,e];simp only[bW,if_false];refine je8 (.iter (fun m a=>∃i:Nat,a.2=(i:Int)/\ m+i=t.bn.length/\ 0<=a.1/\ (∀y,0<i->t.bn[i-1]? =some y->a.1=y.Id)/\ (i=0->a.1=0)/\ (∀(j:Nat) x,j<i->t.bn[j]? =some x->ydj t.bC x)/\ ∀(j:Nat) a b,j+1<i->t.bn[j]? =some a->t.bn[j+1]? =some b->a.Id<b.Id)
   (n:=t.bn.length) ⟨0,rfl,rfl,by simp,by simp,by simp,fun j x h=>by omega,fun j a b h=>by omega⟩ ?_)
  rintro m ⟨z,v⟩ ⟨i,G,K,h0,C,D,E,F⟩;simp only at G h0 C D;subst G;unfold ymb;refine .iteP (fun hc=>?_) (fun hc=>.dn (.inl ⟨rfl,fun j x k=>E j x (by have:=fK k;omega) k,fun j a b A g=>F j a b (by have:=fK g;omega) A g⟩));obtain⟨x,k⟩:=jak (l:=t.bn) (i:=i) (by omega);refine .eq (by rw[jal];exact k) (.eq (Ll hb H x z h0) (.iteN (fun J=>.dn (.inr ⟨rfl,fun u=>J ⟨?_,u.1 i x k⟩⟩)) (fun u=>.nx ⟨m-1,by omega,i+1,jai (by omega),by omega,?_,?_,by simp,?_,?_⟩)))
  ·by_cases hi:i=0
   ·rw[D hi];have:=(u.1 i x k).1;omega
   ·obtain⟨y,o⟩:=jak (l:=t.bn) (i:=i-1) (by omega);rw[C y (by omega) o];exact u.2 (i-1) y x o (by rw[show i-1+1=i by omega];exact k)
  ·show 0<=x.Id;have:=u.2.1;omega
  ·intro y _ o;rw[show i+1-1=i by omega,k]at o;cases o;rfl
  ·intro j y I o;by_cases p:j=i
   ·subst p;rw[k]at o;cases o;exact u.2
   ·exact E j y (by omega) o
  ·intro j a b I A g;by_cases p:j+1=i
   ·subst p;rw[k]at g;cases g;have:=C a (by omega) (by simpa using A);omega
   ·exact F j a b (by omega) A g
 ·have d:decide ((12:Int)<(t.bn.length:Int))=true:=by simp;omega
  simp[d,w]
def ynu(t:bA)(i:Nat)(x:cZ):Prop:=ydj t.bC x/\ ∀y,0<i->t.bn[i-1]? =some y->y.Id<x.Id
noncomputable instance(t:bA)(i:Nat)(x:cZ):Decidable (ynu t i x):=Classical.propDecidable _
theorem yko(t:bA):ydk t↔Good t.bC/\ t.bn.length<=12/\ ygz t:=Iff.rfl
theorem ytc{t:bA}(hb:TB t):zq11 t=some (decide (ydk t)):=by
 unfold zq11;rw[ywf _ hb.1];by_cases a:Good t.bC
 ·simp only[a,decide_true,if_true,bF,yns hb a,yko,true_and]
 ·have:¬ydk t:=fun h=>a h.1;simp[a,this]
theorem ypw{t:bA}(hb:TB t):ymt t=some (decide (ydk t)):=by
 unfold ymt;rw[yt8 _ hb.1];by_cases w:Good t.bC
 ·by_cases F:t.bn.length<=12
  ·have d:decide ((12:Int)<(t.bn.length:Int))=false:=by simp;omega
   have e:decide (ydk t)=decide (ygz t):=by rw[decide_eq_decide,yko];simp[w,F]
   simp only[w,decide_true,fT,bW,if_false,bF,d,e];refine je8 (.iter (fun m a=>∃i:Nat,a=(i:Int)/\ m+i=t.bn.length/\ (∀(j:Nat) x,j<i->t.bn[j]? =some x->ydj t.bC x)/\ ∀(j:Nat) a b,j+1<i->t.bn[j]? =some a->t.bn[j+1]? =some b->a.Id<b.Id)
    (n:=t.bn.length) ⟨0,rfl,rfl,fun j x h=>by omega,fun j a b h=>by omega⟩ ?_)
   rintro m v ⟨i,X,hm,O,P⟩;subst X;unfold yh4;refine .iteP (fun hc=>?_) (fun hc=>.dn (.inl ⟨rfl,fun j x o=>O j x (by have:=fK o;omega) o,fun j a b I g=>P j a b (by have:=fK g;omega) I g⟩));obtain⟨x,o⟩:=jak (l:=t.bn) (i:=i) (by omega);refine .eq (by rw[jal];exact o) ?_;have V:=w.2.1;have T:w64 ((t.bC.bG.length:Int)-1)=(t.bC.bG.length:Int)-1:=jaj (by omega);have key:((ybo x.Id 1 999).bind fun Y=>
   (if !Y then some true else(ybo x.bK 0 (w64 ((t.bC.bG.length:Int)-1))).bind fun Z=>
   if !Z then some true else(yge x.d9).bind fun r8=>
   if !r8 then some true else(yft t (i:Int)).bind fun r9=>
   (yge r9).bind fun K=>
   if !K then some true else if decide (0<(i:Int)) then(idx t.bn (w64 ((i:Int)-1))).bind fun S=>
   some (decide (x.Id<=S.Id))else some false))=some (!decide (ynu t i x)):=by
    have no:¬ydj t.bC x->(!decide (ynu t i x))=true:=fun h=>(by simp[show¬ynu t i x from fun q=>h q.1]);simp only[ybv,ykk,T,bF];by_cases C:1<=x.Id/\ x.Id<=999
    ·by_cases D:0<=x.bK/\ x.bK<=(t.bC.bG.length:Int)-1
     ·obtain⟨l,J,_⟩:=lX (l:=t.bC.bG) D.1 (by omega);by_cases E:0<=x.d9/\ x.d9<=1799
      ·simp only[C,D,E,and_self,decide_true,fT,bW,if_false,yps w o J E,ykk,bF];by_cases H:0<=x.d9+l.bY.sum/\ x.d9+l.bY.sum<=1799
       ·have hT:ydj t.bC x:=⟨C,l,J,E,H⟩;simp only[H,and_self,decide_true,fT,bW,if_false,];by_cases M:0<i
        ·obtain⟨y,p⟩:=jak (l:=t.bn) (i:=i-1) (by omega);have R:w64 ((i:Int)-1)=((i-1:Nat):Int):=by rw[jaj (by omega)];omega
         have u:(0:Int)<(i:Int):=by omega
         simp only[u,decide_true,if_true,R,jal,p,bF,bU];by_cases N:x.Id<=y.Id
         ·have:¬ynu t i x:=fun h=>by have:=h.2 y M p;omega
          simp only[N,decide_true,this,decide_false,kS]
         ·have:ynu t i x:=⟨hT,fun z _ Q=>by rw[p]at Q;cases Q;omega⟩;simp only[N,decide_false,this,decide_true,fT]
        ·have u:¬(0:Int)<(i:Int):=by omega
         have:ynu t i x:=⟨hT,fun z h0 _=>absurd h0 M⟩;simp only[u,decide_false,bW,if_false,this,decide_true,fT]
       ·rw[no (fun hT=>by
         obtain⟨_,l',k,_,h⟩:=hT;rw[J]at k;cases k;exact H h)]
        simp only[H,decide_false,kS,if_true]
      ·rw[no (fun hT=>by obtain⟨_,l',_,h,_⟩:=hT;exact E h)];simp only[C,D,E,and_self,decide_true,decide_false,fT,kS,bW,if_false,if_true]
     ·rw[no (fun hT=>by
       obtain⟨_,l',k,_⟩:=hT;have:=CU k;exact D ⟨this.1,by omega⟩)]
      simp only[C,D,and_self,decide_true,decide_false,fT,kS,bW,if_false,if_true]
    ·rw[no (fun hT=>C hT.1)];simp only[C,decide_false,kS,if_true]
   rw[jmu,key];refine .iteN (fun W=>.dn (.inr ⟨rfl,fun G=>W ⟨G.1 i x o,fun y hi p=>G.2 (i-1) y x p (by rw[show i-1+1=i by omega];exact o)⟩⟩)) (fun G=>.nx ⟨m-1,by omega,i+1,jai (by omega),by omega,?_,?_⟩)
   ·intro j y U p;by_cases A:j=i
    ·subst A;rw[o]at p;cases p;exact G.1
    ·exact O j y (by omega) p
   ·intro j a b U I g;by_cases A:j+1=i
    ·subst A;rw[o]at g;cases g;exact G.2 a (by omega) (by simpa using I)
    ·exact P j a b (by omega) I g
  ·have d:decide ((12:Int)<(t.bn.length:Int))=true:=by simp;omega
   have:¬ydk t:=fun h=>F h.2.1;simp[w,d,this]
 ·have:¬ydk t:=fun h=>w h.1;simp[w,this]
theorem yj7(t:bA)(h:t.bn.length<=1000)(id:Int):zq52 t id=some (fixI (fun x=>x.Id==id) t.bn):=by
 unfold zq52 yvr yvs;rw[tL t.bn (fun x=>x.Id==id) (fun i x a=>?_) (by unfold yer;simp)]
 ·rfl
 ·have:=fK a;unfold yer zq53;simp(disch:=omega) only[if_pos,if_neg,decide_eq_true_eq,decide_true,decide_false,fT,kS,bW,mO,decide_eq_false_iff_not,if_true,if_false,jaj,ja9,jal,bF,gW,gI,not_true_eq_false,not_false_eq_true,true_and,and_true,and_self,false_and,and_false,reduceIte,jco,jdp,beq_self_eq_true,ne_eq,bne_self_eq_false,a,Int.ofNat_lt.2 this];split<;>simp[*]<;>omega
theorem ytz(t:bA)(h:t.bn.length<=1000)(id:Int):ycs t id=some (fixI (fun x=>x.Id==id) t.bn):=by
 unfold ycs;rw[tL t.bn (fun x=>x.Id==id) (fun i x a=>?_) (by unfold yes;simp)];have:=fK a;unfold yes;simp(disch:=omega) only[if_pos,if_neg,decide_eq_true_eq,decide_true,decide_false,fT,kS,bW,mO,decide_eq_false_iff_not,if_true,if_false,jaj,ja9,jal,bF,gW,gI,not_true_eq_false,not_false_eq_true,true_and,and_true,and_self,false_and,and_false,reduceIte,jco,jdp,beq_self_eq_true,ne_eq,bne_self_eq_false,a,Int.ofNat_lt.2 this];split<;>simp[*]<;>omega
theorem ykh{t:bA}{x:cZ}{l:bK}(a:idx t.bC.bG x.bK=some l):zq44 t x=some l:=by
 unfold zq44;rw[a];rfl
theorem yfy{t:bA}(h:ydk t){i:Nat}{x:cZ}(j:t.bn[i]? =some x):∃l,idx t.bC.bG x.bK=some l/\ ybh t.bC.bq.length l/\ (1<=x.Id/\ x.Id<=999)/\ (0<=x.d9/\ x.d9<=1799)/\ 0<=x.d9+l.bY.sum/\ x.d9+l.bY.sum<=1799:=by
 obtain⟨b,l,a,e,g⟩:=h.2.2.1 i x j;exact⟨l,a,yde h.1 a,b,e,g⟩
theorem yqx{k:Nat}{c:bM}(h:Cur k c)(a:k<=500000000):∃r,yqq c=some r/\ Cur (k+300) r.2/\ NB r.1:=ybt h a
theorem yuv{k:Nat}{c:bM}(h:Cur k c)(a:k<=200000000):Tot (zq94 c) fun r=>Cur (k+1000) r.2/\ Bd r.1:=yjm h a
def DT(t:bA):Prop:=Bd t.bC/\ t.bn.length<=30
theorem DT.tb{t:bA}(h:DT t):TB t:=⟨h.1,by have:=h.2;omega⟩
theorem yd2{k:Nat}{c:bM}(h:Cur k c)(A:k<=100000000):Tot (yqm c) fun r=>Cur (k+400) r.2/\ DT r.1/\ NB r.1.bC/\ r.1.bn.length<=8:=by
 unfold yqm;refine .call (ybt h (by omega)) fun r ⟨hc,u⟩=>.call (ya1 8 hc (by omega)) fun p ⟨b,h0,z⟩=>?_;refine .call (P:=fun o=>Cur (k+400) ⟨o.1,o.2.1,⟨o.2.2.1⟩⟩/\ o.2.2.2.length<=8) ?_ fun o ⟨j,l⟩=>.ok ⟨j,⟨u.bd,by show o.2.2.2.length<=30;omega⟩,u,l⟩;refine .iter (fun m s=>s.2.1=(m:Int)/\ m+s.2.2.2.2.2.length<=8/\ Cur (k+302+6*(8-m)) ⟨s.2.2.1,s.2.2.2.1,⟨s.2.2.2.2.1⟩⟩) (n:=p.1.toNat) ⟨by show p.1=_;omega,by show p.1.toNat+0<=8;omega,b.mono (by omega)⟩ ?_;rintro m ⟨n,v,F,G,H,x⟩ ⟨w,y,a⟩;simp only at w y a;subst w;unfold yip;refine .iteP (fun hc=>?_) (fun hc=>.dn ⟨a.mono (by omega),by show x.length<=8;omega⟩);refine .call (ya1 3 a (by omega)) fun C ⟨e,_⟩=>.call (ya1 _ e (by omega)) fun D ⟨g,_⟩=>.call (ya1 24 g (by omega)) fun E ⟨i,_⟩=>.chk (by simp;omega) (.nx ⟨m-1,by omega,?_,?_,?_⟩)
 ·show w64 ((m:Int)-1)=_;rw[jaj (by omega)];omega
 ·show m-1+(x++[_]).length<=8;simp;omega
 ·exact i.mono (by omega)
theorem ygb{k:Nat}{c:bM}(h:Cur k c)(X:k<=50000000):Tot (zq95 c) fun r=>Cur (k+2000) r.2/\ DT r.1:=by
 unfold zq95;refine .call (yd2 h (by omega)) fun r ⟨hc,hd,Z,T⟩=>?_;refine .ite (fun _=>.ok ⟨hc.mono (by omega),hd⟩) fun S=>?_;have I:0<r.1.bn.length:=by
  have:(r.1.bn.length:Int)≠0:=by simpa using S
  omega
 refine .call (ya1 _ hc (by omega)) fun C ⟨y,l,R⟩=>?_;have p:C.1<(r.1.bn.length:Int):=by omega
 refine .idx l p fun e _=>?_;have fin:∀(v:List UInt8)(E F:Int)(G:List bK)(M N O:Int)(H:List ByteArray),Cur (k+2000) ⟨v,E,⟨F⟩⟩->Bd ⟨H,G⟩->Tot ((idx r.1.bn C.1).bind fun Q=>some ((⟨(⟨H,G⟩:bC),(r.1.bn.set C.1.toNat (⟨M,N,O⟩:cZ))⟩:bA),(⟨v,E,(⟨F⟩:IK .u64)⟩:bM))) fun r=>Cur (k+2000) r.2/\ DT r.1:=fun v E F G M N O H q1 U=>
  .idx l p fun Q _=>.ok ⟨q1,U,by show(r.1.bn.set _ _).length<=30;rw[gH];omega⟩
 refine .flb (.call (ya1 24 y (by omega)) fun r2 ⟨g,_⟩=>?_);refine .ite (fun _=>.call (yjn _ (by simp) g (by omega)) fun D ⟨a,_⟩=>.go (fin _ _ _ _ _ _ _ _ (a.mono (by omega)) hd.1)) fun _=>?_;refine .ite (fun _=>.call (ya1 7 g (by omega)) fun D ⟨a,_⟩=>.go (fin _ _ _ _ _ _ _ _ (a.mono (by omega)) hd.1)) fun _=>?_;refine .ite (fun _=>.call (yjn _ (by simp) g (by omega)) fun D ⟨a,_⟩=>.go (fin _ _ _ _ _ _ _ _ (a.mono (by omega)) hd.1)) fun _=>?_;refine .ite (fun _=>.call (yuv g (by omega)) fun D ⟨a,hb⟩=>.go (fin _ _ _ _ _ _ _ _ (a.mono (by omega)) hb)) fun _=>?_;refine .ite (fun _=>?_) fun _=>.go (fin _ _ _ _ _ _ _ _ (g.mono (by omega)) hd.1);refine .call (P:=fun o=>Cur (k+2000) ⟨o.1,o.2.1,⟨o.2.2.1⟩⟩/\ o.2.2.2.length<=30) ?_ fun o ⟨z,A⟩=>.ret ⟨z,hd.1,A⟩;refine .iter (fun m s=>∃i:Nat,s.1=(i:Int)/\ m+i=14/\ s.2.2.2.2.length<=8+i/\ Cur (k+500+2*i) ⟨s.2.1,s.2.2.1,⟨s.2.2.2.1⟩⟩) (n:=14) ⟨0,rfl,rfl,by simpa using T,g.mono (by omega)⟩ ?_;rintro m ⟨v8,v9,V,W,x⟩ ⟨i,K,Y,w,j⟩;simp only at K w j;subst K;unfold ykz;refine .call (ya1 2 j (by omega)) fun r8 ⟨u,_⟩=>?_;refine .call (P:=fun b=>b=true->i<14) (.ite (fun _=>.ok fun hb=>by simp at hb;omega) fun _=>.ok nofun) fun b hb=>?_;refine .ite (fun J=>.chk (by simp;omega) (.nx ⟨m-1,by have:=hb J;omega,i+1,jai (by omega),by have:=hb J;omega,?_,u.mono (by omega)⟩)) (fun _=>.dn ⟨u.mono (by omega),by show x.length<=30;omega⟩);show(x++[_]).length<=8+(i+1);simp;omega
theorem ywh{k:Nat}{c:bM}(h:Cur k c)(R:k<=40000000):Tot (yj3 c) fun r=>Cur (k+3000) r.2/\ DT r.1:=by
 unfold yj3;refine .call (ypq 16 h (by omega)) fun r hc=>?_;refine .ite (fun _=>.call (ygb hc (by omega)) fun T ⟨g,hd⟩=>.ok ⟨g.mono (by omega),hd⟩) fun _=>?_;refine .call (ybt hc (by omega)) fun U ⟨j,J⟩=>.call (ya1 6 j (by omega)) fun C ⟨p,H,I⟩=>?_;refine .call (P:=fun o=>Cur (k+3000) ⟨o.1,o.2.1,⟨o.2.2.1⟩⟩/\ o.2.2.2.length<=10) ?_ fun o ⟨z,A⟩=>?_
 ·refine .iter (fun m s=>s.1=(m:Int)/\ m+s.2.2.2.2.length<=10/\ Cur (k+310+6*(10-m)) ⟨s.2.1,s.2.2.1,⟨s.2.2.2.1⟩⟩) (n:=3+C.1.toNat) ⟨by show w64 (3+C.1)=_;rw[jaj (by omega)];omega,by show 3+C.1.toNat+0<=10;omega,p.mono (by omega)⟩ ?_;rintro m ⟨i,v,Y,Z,F⟩ ⟨D,b,a⟩;simp only at D b a;subst D;unfold yio;refine .iteP (fun hc=>?_) (fun hc=>.dn ⟨a.mono (by omega),by show F.length<=10;omega⟩);refine .call (ya1 2 a (by omega)) fun V ⟨u,_⟩=>.call (ya1 _ u (by omega)) fun W ⟨w,_⟩=>.call (ya1 16 w (by omega)) fun X ⟨y,_⟩=>.chk (by simp;omega) (.nx ⟨m-1,by omega,?_,?_,?_⟩)
  ·show w64 ((m:Int)-1)=_;rw[jaj (by omega)];omega
  ·show m-1+(F++[_]).length<=10;simp;omega
  ·exact y.mono (by omega)
 ·refine .call (P:=fun l=>l.length<=10) ?_ fun l b=>.ok ⟨z,J.bd,by show l.length<=30;omega⟩;refine .iter (fun m s=>∃i:Nat,s.1=(i:Int)/\ 1<=i/\ m+i=11/\ s.2.length<=10) (n:=10) ⟨1,rfl,by omega,by omega,A⟩ ?_;rintro m ⟨x,M⟩ ⟨i,E,Q,S,b⟩;simp only at E b;subst E;unfold yin;refine .iteP (fun hc=>?_) (fun hc=>.dn b);have G:w64 ((i:Int)-1)=(i:Int)-1:=jaj (by omega);refine .idx (by omega) hc fun e _=>?_;rw[G];refine .idx (by omega) (by omega) fun N _=>?_;refine .call (P:=fun _=>True) ?_ fun K _=>.idx (by omega) hc fun O _=>.nx ⟨m-1,by omega,i+1,jai (by omega),by omega,by omega,by show(M.set _ _).length<=10;rw[gH];exact b⟩;unfold yj1;exact .ite (fun _=>.ok trivial) fun _=>.ok trivial
theorem yct{k:Nat}{c:bM}(n:Int)(h:Cur k c)(a:k<=3000000000):Tot (ya4 c n) fun r=>Cur (k+2) r.2/\ 0<=r.1/\ (r.1<n \/r.1=0):=ya1 n h a
theorem ytg{k:Nat}{c:bM}(n:Int)(h:Cur k c)(a:k<=3000000000):Tot (yc3 c n) fun r=>Cur (k+2) r.2:=ypq n h a
theorem yco{k:Nat}{c:bM}(l:List Int)(b:l≠[])(h:Cur k c)(a:k<=3000000000):Tot (zq92 c l) fun r=>Cur (k+2) r.2/\ r.1∈l:=yjn l b h a
theorem yiz{k:Nat}{c:bM}(l:List Int)(b:l≠[])(h:Cur k c)(a:k<=3000000000):Tot (zq93 c l) fun r=>Cur (k+2) r.2/\ r.1∈l:=ygc l b h a
theorem Kl(a:List UInt8):ysy a=some (decide (65536<(a.length:Int))):=rfl
theorem yf8(x y:Int):zq0 x y=some (if x<y then-1 else if y<x then 1 else 0):=by
 unfold zq0 zq3;by_cases h:x<y
 ·simp[h]
 ·by_cases a:y<x<;>simp[h,a]
theorem idx0{α:Type}(l:List α):idx l 0=l[0]?:=jal l 0
theorem ydc(l:List Int)(k:l.length<=100000)(x:Int):yfw l x=some (decide (x∈l)):=by
 unfold yfw;rw[jls l (fun e=>e==x) (fun _=>true) (fun i y a=>?_) (by unfold ye3;simp)]
 ·by_cases h:x∈l
  ·have:l.findIdx? (fun e=>e==x)≠none:=fun j=>by
    have:=Ea.1 j x h;simp at this
   cases g:l.findIdx? (fun e=>e==x)with
   |none=>exact absurd g this
   |some i=>simp[h]
  ·have:l.findIdx? (fun e=>e==x)=none:=Ea.2 fun y a=>by
    simp only[beq_eq_false_iff_ne,ne_eq];intro e;subst e;exact h a
   rw[this];simp[h]
 ·have hi:=fK a;unfold ye3;have b:decide ((i:Int)<(l.length:Int))=true:=by simp;omega
  simp only[b,if_true,jal,a,bF,jai (n:=i) (by omega)];split<;>rfl
def RowP(st:Nat)(a:Nat)(row:List Int):Prop:=row.length=st/\ row[a]? =some 0/\ ∀d∈row,0<=d/\ d<=120
def yce(n:bC)(f:bL):Prop:=f.dR.length=n.bq.length/\ (0<=f.gV/\ f.gV<=30)/\ ∀(a:Nat) row,f.dR[a]? =some row->RowP n.bq.length a row
def yuw(st:Nat)(f:bL):Prop:=∀(a:Nat) row,f.dR[a]? =some row->RowP st a row
noncomputable instance(st:Nat)(f:bL):Decidable (yuw st f):=Classical.propDecidable _
noncomputable instance(n:bC)(f:bL):Decidable (yce n f):=Classical.propDecidable _
noncomputable instance(st a:Nat)(row:List Int):Decidable (RowP st a row):=Classical.propDecidable _
def FB(f:bL):Prop:=f.dR.length<=1000/\ ∀row∈f.dR,row.length<=1000
theorem yul(e:List Int)(w:e.length<=1000):Tot (iter (yhl e) (0:Int)) fun b=>(b=.go ()/\ ∀d∈e,0<=d/\ d<=120) \/(b=.ret (.dn (.ret false))/\ ¬∀d∈e,0<=d/\ d<=120):=by
 refine .iter (fun m v=>∃i:Nat,v=(i:Int)/\ m+i=e.length/\ ∀(j:Nat) d,j<i->e[j]? =some d->0<=d/\ d<=120) (n:=e.length) ⟨0,rfl,rfl,fun j d h=>by omega⟩ ?_;rintro m v ⟨i,rfl,y,o⟩;unfold yhl;refine .iteP (fun hc=>?_) (fun hc=>.dn (.inl ⟨rfl,fun d hd=>?_⟩))
 ·obtain⟨d,hd⟩:=jak (l:=e) (i:=i) (by omega);refine .eq (ixs hd) (.eq (ybf _ _ _) (.iteN (fun p=>.dn (.inr ⟨rfl,fun h=>p (h d (bT hd))⟩)) (fun u=>.nx ⟨m-1,by omega,i+1,jai (by omega),by omega,fun j x a k=>?_⟩)));by_cases g:j=i
  ·subst g;rw[hd]at k;cases k;exact u
  ·exact o j x (by omega) k
 ·obtain⟨j,a⟩:=jJ hd;exact o j d (by have:=fK a;omega) a
theorem yuk{f:bL}{a:Nat}{e:List Int}(u:f.dR[a]? =some e)(z:e.length<=1000):Tot (iter (yhb f (a:Int)) (0:Int)) fun b=>(b=.go ()/\ ∀d∈e,0<=d/\ d<=120) \/(b=.ret (.dn (.ret false))/\ ¬∀d∈e,0<=d/\ d<=120):=by
 refine .iter (fun m v=>∃i:Nat,v=(i:Int)/\ m+i=e.length/\ ∀(j:Nat) d,j<i->e[j]? =some d->0<=d/\ d<=120) (n:=e.length) ⟨0,rfl,rfl,fun j d h=>by omega⟩ ?_;rintro m v ⟨i,rfl,A,p⟩;unfold yhb;refine .eq (ixs u) (.iteP (fun hc=>?_) (fun hc=>.dn (.inl ⟨rfl,fun d hd=>?_⟩)))
 ·obtain⟨d,hd⟩:=jak (l:=e) (i:=i) (by omega);refine .eq (ixs u) (.eq (ixs hd) (.eq (ybv _ _ _) (.iteN (fun w=>.dn (.inr ⟨rfl,fun h=>w (h d (bT hd))⟩)) (fun y=>.nx ⟨m-1,by omega,i+1,jai (by omega),by omega,fun j x g o=>?_⟩))));by_cases k:j=i
  ·subst k;rw[hd]at o;cases o;exact y
  ·exact p j x (by omega) o
 ·obtain⟨j,g⟩:=jJ hd;exact p j d (by have:=fK g;omega) g
theorem ypm{st a:Nat}{e:List Int}(k:a<st):((if (e.length:Int)!=(st:Int) then some true else(idx e (a:Int)).bind fun h=>some (h !=0)))=some (!decide (e.length=st/\ e[a]? =some 0)):=by
 by_cases b:e.length=st
 ·obtain⟨x,j⟩:=jak (l:=e) (i:=a) (by omega);have hb:((e.length:Int)!=(st:Int))=false:=by simp;omega
  rw[hb,jal,j];by_cases g:x=0
  ·subst g;simp[b]
  ·simp[b,g]
 ·have hb:((e.length:Int)!=(st:Int))=true:=by simp;omega
  simp[hb,b]
theorem yq0{n:bC}(K:n.bq.length<=1000){f:bL}(I:FB f):zq34 n f=some (decide (yce n f)):=by
 unfold zq34;rw[ybf];by_cases E:f.dR.length=n.bq.length
 ·have hb:((f.dR.length:Int)!=(n.bq.length:Int))=false:=by simp;omega
  by_cases w:0<=f.gV/\ f.gV<=30
  ·simp only[hb,w,and_self,decide_true,fT,bW,if_false,bF];have e:decide (yce n f)=decide (yuw n.bq.length f):=by
    rw[decide_eq_decide];unfold yce yuw;simp[E,w]
   rw[e];refine je8 (.iter (fun m v=>∃i:Nat,v=(i:Int)/\ m+i=f.dR.length/\ ∀(j:Nat) row,j<i->f.dR[j]? =some row->RowP n.bq.length j row) (n:=f.dR.length) ⟨0,rfl,rfl,fun j d h=>by omega⟩ ?_);rintro m v ⟨i,rfl,J,F⟩;unfold yls;refine .iteP (fun hc=>?_) (fun hc=>.dn (.inl ⟨rfl,fun j row z=>F j row (by have:=fK z;omega) z⟩));obtain⟨row,g⟩:=jak (l:=f.dR) (i:=i) (by omega);have C:=I.2 row (bT g);refine .eq (ixs g) (.eq (ypm (by omega)) (.iteN (fun p=>.dn (.inr ⟨rfl,fun h=>p ⟨(h i row g).1,(h i row g).2.1⟩⟩)) (fun G=>.flb ((yul row C).mono fun b o=>⟨fun r a=>?_,fun u H=>?_⟩))))
   ·rcases o with⟨k,_⟩|⟨k,y⟩
    ·rw[k]at a;cases a
    ·rw[k]at a;cases a;exact⟨fun a' h=>(by cases h),fun b h=>(by cases h;exact .inr ⟨rfl,fun h=>y (h i row g).2.2⟩)⟩
   ·rcases o with⟨_,y⟩|⟨k,_⟩
    ·refine .nx ⟨m-1,by omega,i+1,jai (by omega),by omega,fun j x z D=>?_⟩;by_cases A:j=i
     ·subst A;rw[g]at D;cases D;exact⟨G.1,G.2,y⟩
     ·exact F j x (by omega) D
    ·rw[k]at H;cases H
  ·have:¬yce n f:=fun h=>w h.2.1;simp[hb,w,this]
 ·have hb:((f.dR.length:Int)!=(n.bq.length:Int))=true:=by simp;omega
  have:¬yce n f:=fun h=>E h.1;simp[hb,this]
theorem yni{n:bC}(G:Bd n){f:bL}(M:FB f):zq65 n f=some (decide (Good n/\ yce n f)):=by
 have N:=G.1;unfold zq65;rw[yt8 n G,ybv];by_cases h0:Good n
 ·by_cases E:f.dR.length=n.bq.length
  ·have hb:((f.dR.length:Int)!=(n.bq.length:Int))=false:=by simp;omega
   by_cases w:0<=f.gV/\ f.gV<=30
   ·simp only[h0,hb,w,and_self,decide_true,fT,bW,if_false,bF,true_and];have e:decide (yce n f)=decide (yuw n.bq.length f):=by
     rw[decide_eq_decide];unfold yce yuw;simp[E,w]
    rw[e];refine je8 (.iter (fun m v=>∃i:Nat,v=(i:Int)/\ m+i=f.dR.length/\ ∀(j:Nat) row,j<i->f.dR[j]? =some row->RowP n.bq.length j row) (n:=f.dR.length) ⟨0,rfl,rfl,fun j d h=>by omega⟩ ?_);rintro m v ⟨i,rfl,P,F⟩;unfold ylg;refine .iteP (fun hc=>?_) (fun hc=>.dn (.inl ⟨rfl,fun j row z=>F j row (by have:=fK z;omega) z⟩));obtain⟨row,g⟩:=jak (l:=f.dR) (i:=i) (by omega);have C:=M.2 row (bT g);have O:((if (row.length:Int)!=(n.bq.length:Int) then some true else(idx f.dR (i:Int)).bind fun J=>(idx J (i:Int)).bind fun K=>some (K !=0)))=some (!decide (row.length=n.bq.length/\ row[i]? =some 0)):=by
     rw[ixs g];exact ypm (by omega)
    refine .eq (ixs g) (.eq O (.iteN (fun p=>.dn (.inr ⟨rfl,fun h=>p ⟨(h i row g).1,(h i row g).2.1⟩⟩)) (fun H=>.flb ((yuk g C).mono fun b o=>⟨fun r a=>?_,fun u I=>?_⟩))))
    ·rcases o with⟨k,_⟩|⟨k,y⟩
     ·rw[k]at a;cases a
     ·rw[k]at a;cases a;exact⟨fun a' h=>(by cases h),fun b h=>(by cases h;exact .inr ⟨rfl,fun h=>y (h i row g).2.2⟩)⟩
    ·rcases o with⟨_,y⟩|⟨k,_⟩
     ·refine .nx ⟨m-1,by omega,i+1,jai (by omega),by omega,fun j x z D=>?_⟩;by_cases A:j=i
      ·subst A;rw[g]at D;cases D;exact⟨H.1,H.2,y⟩
      ·exact F j x (by omega) D
     ·rw[k]at I;cases I
   ·have:¬yce n f:=fun h=>w h.2.1;simp[h0,hb,w,this]
  ·have hb:((f.dR.length:Int)!=(n.bq.length:Int))=true:=by simp;omega
   have:¬yce n f:=fun h=>E h.1;simp[h0,hb,this]
 ·simp[h0]
def AskF(t:bA)(f:bL):Prop:=ydk t/\ yce t.bC f
noncomputable instance(t:bA)(f:bL):Decidable (AskF t f):=Classical.propDecidable _
theorem ywt{t:bA}(hb:TB t){f:bL}(a:FB f):zq38 t f=some (decide (AskF t f)):=by
 unfold zq38 AskF;rw[ytc hb,yq0 hb.1.1 a];by_cases h:ydk t<;>simp[h]
theorem yf3{t:bA}(hb:TB t){f:bL}(b:FB f):zq60 t f=some (decide (AskF t f)):=by
 unfold zq60 AskF;rw[ypw hb,yni hb.1 b];by_cases h:ydk t
 ·have a:Good t.bC:=h.1;simp[h,a]
 ·simp[h]
noncomputable def dv(t:bA)(f:bL)(x y:cZ):Int:=(zq24 t f x y).getD 0
noncomputable def ev(t:bA)(x:cZ):Int:=(zq27 t x).getD 0
theorem ycq{t:bA}{f:bL}(h:AskF t f){i k:Nat}{x y:cZ}(A:t.bn[i]? =some x)(C:t.bn[k]? =some y):(0<=dv t f x y/\ dv t f x y<=120)/\ zq24 t f x y=some (dv t f x y)/\ zq64 t f (i:Int) (k:Int)=some (dv t f x y):=by
 obtain⟨z,H,I,p⟩:=h;obtain⟨m,b,g,_⟩:=yfy z A;obtain⟨J,e,j,_⟩:=yfy z C;obtain⟨⟨K,M,N⟩,O⟩:=ybu g;obtain⟨⟨P,Q,R⟩,S⟩:=ybu j;obtain⟨s,hs⟩:=jak (l:=m.bq) (i:=m.bq.length-1) (by omega);obtain⟨u,v⟩:=jak (l:=J.bq) (i:=0) (by omega);have s1:=ykg g hs;have D:=ykg j v;have E:w64 ((m.bq.length:Int)-1)=((m.bq.length-1:Nat):Int):=by rw[jaj (by omega)];omega
 obtain⟨row,a⟩:=jak (l:=f.dR) (i:=s.toNat) (by omega);have hR:=p s.toNat row a;obtain⟨d,hd⟩:=jak (l:=row) (i:=u.toNat) (by rw[hR.1];omega);have o:=hR.2.2 d (bT hd);have w:zq24 t f x y=some d:=by
  unfold zq24 zq41 zq29;rw[ykh b,ykh e];simp only[bF,E,jal,hs,jlm s1.1 a,idx0,v,jlm D.1 hd]
 have F:zq64 t f (i:Int) (k:Int)=some d:=by
  unfold zq64;rw[ydu A b,ydu C e];simp only[bF,E,jal,hs,jlm s1.1 a,idx0,v,jlm D.1 hd]
 have G:dv t f x y=d:=by unfold dv;rw[w];rfl
 rw[G];exact⟨o,w,F⟩
theorem ydf{t:bA}(b:ydk t){i:Nat}{x:cZ}(m:t.bn[i]? =some x):(x.d9<ev t x/\ ev t x<=1799)/\ (0<=x.d9/\ x.d9<=1799)/\ zq27 t x=some (ev t x)/\ yft t (i:Int)=some (ev t x):=by
 obtain⟨l,h,v,_,hs,C,u⟩:=yfy b m;have g:=yp0 b.1 h hs;have o:=yps b.1 m h hs;have p:ev t x=x.d9+l.bY.sum:=by unfold ev;rw[g];rfl
 obtain⟨⟨y,e,A⟩,a⟩:=ybu v;have j:1<=l.bY.sum:=by
  cases k:l.bY with
  |nil=>rw[k]at e;simp at e
  |cons r rs=>
   rw[k]at a;have q1:=a r (by simp);have D:=Q7 (l:=rs) fun z w=>by have:=a z (by simp[w]);omega
   rw[Aq];omega
 rw[p];exact⟨⟨by omega,u⟩,hs,g,o⟩
def Fol(t:bA)(f:bL)(x y:cZ):Prop:=ev t x+f.gV+dv t f x y<=y.d9
noncomputable instance(t:bA)(f:bL)(x y:cZ):Decidable (Fol t f x y):=Classical.propDecidable _
theorem yua{t:bA}{f:bL}(h:AskF t f){i k:Nat}{x y:cZ}(a:t.bn[i]? =some x)(e:t.bn[k]? =some y)(b:Fol t f x y):x.d9<y.d9:=by
 have g:=(ycq h a e).1;have j:=ydf h.1 a;have l:=h.2.2.1;unfold Fol at b;omega
theorem yc5{t:bA}{f:bL}(h:AskF t f){i k:Nat}{x y:cZ}(a:t.bn[i]? =some x)(b:t.bn[k]? =some y):zq17 t f x y=some (decide (Fol t f x y))/\ zq66 t f (i:Int) (k:Int)=some (decide (Fol t f x y)):=by
 obtain⟨w,m,o⟩:=ycq h a b;obtain⟨u,v,j,l⟩:=ydf h.1 a;have hT:=h.2.2.1;have g:w64 (w64 (ev t x+f.gV)+dv t f x y)=ev t x+f.gV+dv t f x y:=by rw[jaj (x:=ev t x+f.gV) (by omega),jaj (by omega)]
 refine⟨?_,?_⟩
 ·unfold zq17;rw[j,m];simp only[bF,g];exact congrArg some (decide_eq_decide.2 Iff.rfl)
 ·unfold zq66;by_cases e:i=k
  ·subst e;rw[a]at b;cases b;have:¬Fol t f x x:=fun p=>by have:=yua h a a p;omega
   simp[this]
  ·have hb:((i:Int)!=(k:Int))=true:=by simp;omega
   simp only[hb,if_true,jal,b,l,o,bF,g];exact congrArg some (decide_eq_decide.2 Iff.rfl)
theorem or64{u a:Nat}(i:u<4096)(h:a<4096):IntKind.i64.wrap (((BitVec.ofInt (IntKind.i64).bits (u:Int)|||BitVec.ofInt (IntKind.i64).bits (a:Int)).toNat:Nat):Int)=((u|||a:Nat):Int):=by
 have b:(BitVec.ofInt (IntKind.i64).bits (u:Int)).toNat=u:=by
  rw[BitVec.ofInt_natCast,BitVec.toNat_ofNat];exact DX (by show u<2^64;omega)
 have e:(BitVec.ofInt (IntKind.i64).bits (a:Int)).toNat=a:=by
  rw[BitVec.ofInt_natCast,BitVec.toNat_ofNat];exact DX (by show a<2^64;omega)
 rw[BitVec.toNat_or,b,e];have g:u|||a<2^12:=Ak (by omega) (by omega);exact jaj (x:=((u|||a:Nat):Int)) (by omega)
theorem yw8{n q:Nat}(hc:((n-q:Nat):Int)<(n:Int))(b:q<=n)(a:n<=1000000):w64 (((n-q:Nat):Int)+1)=((n-(q-1):Nat):Int):=by
 rw[jaj (by omega)];omega
theorem yur{n:Nat}(i:n<=9){v:Int}(j:v= -1 \/(0<=v/\ v<n)):∃s:Nat,w64 (1*2^(min ((IntKind.u64.wrap v):Int).toNat (IntKind.i64).bits))=(s:Int)/\ s<2^n:=by
 rcases j with rfl|⟨h0,k⟩
 ·refine⟨0,?_,nG n⟩;kernel_rfl
 ·have e:IntKind.u64.wrap v=v:=vW h0 (by show v<(18446744073709551616:Int);omega);rw[e];have b:min v.toNat (IntKind.i64).bits=v.toNat:=tV (by show v.toNat<=64;omega);rw[b];have a:2^v.toNat<2^n:=xS (by omega) (by omega);have h:2^n<=2^9:=pq (by omega) i;refine⟨2^v.toNat,?_,a⟩;have g:(1:Int)*2^v.toNat=((2^v.toNat:Nat):Int):=by rw[Int.one_mul,Ed];rfl
  rw[g];generalize 2^v.toNat=p at a ⊢;generalize 2^n=q at a h;exact jaj (by omega)
theorem ygp(v:Int):(0:Int)<=IntKind.u64.wrap v:=(OT v).1
def KS(n:Nat)(a:List (List Int)):Prop:=a.length=n/\ ∀row∈a,row.length=2^n
theorem LW{n:Nat}{b:List (List Int)}(h:KS n b){i:Nat}{row:List Int}(e:row.length=2^n):KS n (b.set i row):=by
 refine⟨by rw[gH];exact h.1,fun r a=>?_⟩;rcases tZ a with a|rfl
 ·exact h.2 r a
 ·exact e
theorem ynd{n:Nat}(a:n<=9){u:Int}(e:0<=u/\ u<(2^n:Nat)){s:Nat}(hs:s<2^n):0<=IntKind.i64.wrap (((BitVec.ofInt (IntKind.i64).bits u|||BitVec.ofInt (IntKind.i64).bits (s:Int)).toNat:Nat):Int)/\ IntKind.i64.wrap (((BitVec.ofInt (IntKind.i64).bits u|||BitVec.ofInt (IntKind.i64).bits (s:Int)).toNat:Nat):Int)<(2^n:Nat):=by
 have b:2^n<=2^9:=pq (by omega) a;obtain⟨m,rfl⟩:∃m:Nat,u=(m:Int):=⟨u.toNat,by omega⟩;rw[or64 (by omega) (by omega)];have:=Ak (x:=m) (y:=s) (n:=n) (by omega) hs;omega
theorem yno{t:bA}{f:bL}(h:AskF t f)(w:t.bn.length<=9):∀(m N:Nat)(a:List (List Int))(i:Nat)(u:Int),m+i=t.bn.length->m<N->KS t.bn.length a->(0<=u/\ u<(2^t.bn.length:Nat))->
  Tot (yjp N ⟨t,f,a⟩ (i:Int) u) fun r=>KS t.bn.length r.2
 |m,0,a,i,u,_,hN,_,_=>by omega
 |m,N+1,a,i,u,X,hN,g,p=>by
  show Tot (yfg (yjp N) ⟨t,f,a⟩ (i:Int) u) _;unfold yfg;by_cases hi:i=t.bn.length
  ·have hb:((i:Int)==(t.bn.length:Int))=true:=by simp;omega
   simp only[hb,if_true];exact .ok g
  ·have hb:((i:Int)==(t.bn.length:Int))=false:=by simp;omega
   simp only[hb,bW,if_false];have e:∀{a:List (List Int)},KS t.bn.length a->∃row,a[i]? =some row/\ row.length=2^t.bn.length:=fun{a} g=>by
    obtain⟨row,j⟩:=jak (l:=a) (i:=i) (by rw[g.1];omega);exact⟨row,j,g.2 row (bT j)⟩
   obtain⟨row,j,S⟩:=e g;have I:w64 ((i:Int)+1)=((i+1:Nat):Int):=jai (by omega);refine .eq (ixs j) (.idx p.1 (by omega) fun U Q=>.iteP (fun _=>.eq (ixs j) (.idx p.1 (by omega) fun V _=>.ok g)) fun _=>?_);rw[I];refine .call (yno h w (m-1) N a (i+1) u (by omega) (by omega) g p) fun r E=>?_;refine .call (P:=fun o=>KS t.bn.length o.2) ?_ fun o z=>?_
   ·refine .iter (fun q s=>s.2.1=((t.bn.length-q:Nat):Int)/\ q<=t.bn.length/\ KS t.bn.length s.2.2) (n:=t.bn.length) ⟨by simp,dQ _,E⟩ ?_;rintro q ⟨v,v1,T⟩ ⟨H,Y,b⟩;simp only at H b;subst H;unfold yle;refine .iteP (fun hc=>?_) (fun hc=>.dn b);have R:0<q:=by simp only at hc;omega
    obtain⟨x,J⟩:=jak (l:=t.bn) (i:=t.bn.length-q) (by omega);obtain⟨y,K⟩:=jak (l:=t.bn) (i:=i) (by omega);have C:=(yc5 h J K).2;have A:=(ycq h J K).2.2;obtain⟨s,F,G⟩:=yur (n:=t.bn.length) w (v:=((t.bn.length-q:Nat):Int)) (.inr ⟨by omega,by omega⟩);refine .call (P:=fun o=>KS t.bn.length o.2) (.chk (ygp _) (.call (P:=fun _=>True) (.ite (fun _=>.eq C (.ok trivial)) fun _=>.ok trivial) fun v5 _=>.ite (fun _=>?_) fun _=>.ok b)) fun o z=>.nx ⟨q-1,by omega,?_,by omega,z⟩
    ·refine .eq A (.chk (ygp _) ?_);rw[F,I];refine .call (yno h w (m-1) N T (i+1) _ (by omega) (by omega) b (ynd w p G)) fun Z O=>?_;unfold yj2;exact .call (P:=fun _=>True) (.iteP (fun _=>.ok trivial) fun _=>.ok trivial) fun _ _=>.ok O
    ·show w64 (((t.bn.length-q:Nat):Int)+1)=_;rw[jaj (by omega)];omega
   ·obtain⟨v6,v7⟩:=o;obtain⟨M,D,k⟩:=e z;refine .eq (ixs D) (.idx p.1 (by omega) fun W _=>.ok (LW z (by rw[gH];exact k)))
theorem yji{t:bA}{f:bL}(h:AskF t f)(b:t.bn.length<=9){a:List (List Int)}{i:Nat}{u:Int}(hi:i<=t.bn.length)(e:KS t.bn.length a)(g:0<=u/\ u<(2^t.bn.length:Nat)):Tot (zq68 ⟨t,f,a⟩ (i:Int) u) fun r=>KS t.bn.length r.2:=by
 unfold zq68;exact yno h b (t.bn.length-i) _ a i u (by omega) (by omega) e g
def BeP(t:bA)(f:bL)(a:List Int):Prop:=a.length=t.bn.length/\ ∀(i:Nat) b,a[i]? =some b->b= -1 \/∃(k:Nat)(x y:cZ),b=(k:Int)/\ t.bn[k]? =some x/\ t.bn[i]? =some y/\ Fol t f x y
theorem yut{t:bA}{f:bL}(h:AskF t f)(u:t.bn.length<=9):Tot (zq61 t f) (BeP t f):=by
 have T:2^t.bn.length<=2^9:=pq (by omega) u;have U:=nG t.bn.length;unfold zq61;have W:w64 (1*2^(min ((IntKind.u64.wrap (t.bn.length:Int)):Int).toNat (IntKind.i64).bits))=((2^t.bn.length:Nat):Int):=by
  have e:IntKind.u64.wrap (t.bn.length:Int)=(t.bn.length:Int):=vW (by omega) (by show(t.bn.length:Int)<(18446744073709551616:Int);omega);rw[e];have I:min ((t.bn.length:Int)).toNat (IntKind.i64).bits=t.bn.length:=by rw[gI];exact tV (by show t.bn.length<=64;omega)
  rw[I];have e2:(1:Int)*2^t.bn.length=((2^t.bn.length:Nat):Int):=by rw[Int.one_mul,Ed];rfl
  rw[e2];generalize 2^t.bn.length=p at T ⊢;exact jaj (by omega)
 refine .call (P:=KS t.bn.length) ?_ fun v1 X=>.call (P:=BeP t f) ?_ fun o S=>.ok S
 ·refine .iter (fun q s=>s.1=((t.bn.length-q:Nat):Int)/\ q<=t.bn.length/\ s.2.length=t.bn.length-q/\ ∀row∈s.2,row.length=2^t.bn.length) (n:=t.bn.length) ⟨by simp,dQ _,by simp,by simp⟩ ?_;rintro q ⟨k,v⟩ ⟨w,V,A,J⟩;simp only at w A J;subst w;unfold ylk;refine .iteP (fun hc=>?_) (fun hc=>.dn ⟨by omega,J⟩);rw[W];refine .chk (ygp _) (.chk ⟨by omega,by omega⟩ (.call (P:=fun o=>o.length=2^t.bn.length) ?_ fun o S=>.chk (by simp;omega) (.nx ⟨q-1,by omega,?_,by omega,?_,fun row hm=>?_⟩)))
  ·refine .iter (fun q s=>s.1=((2^t.bn.length-q:Nat):Int)/\ q<=2^t.bn.length/\ s.2.length=2^t.bn.length) (n:=2^t.bn.length) ⟨by simp,dQ _,by show(List.replicate _ _).length=_;rw[xW,gI]⟩ ?_;rintro q ⟨k,o⟩ ⟨w,V,A⟩;simp only at w A;subst w;unfold yll;refine .iteP (fun hc=>.idx (by omega) hc fun e _=>.nx ⟨q-1,by omega,?_,by omega,by rw[gH];exact A⟩) (fun hc=>.dn A);show w64 (((2^t.bn.length-q:Nat):Int)+1)=_;rw[jaj (by omega)];omega
  ·show w64 (((t.bn.length-q:Nat):Int)+1)=_;rw[jaj (by omega)];omega
  ·simp;omega
  ·rcases fA.1 hm with hm|hm
   ·exact J row hm
   ·rw[iR.1 hm];exact S
 ·refine .iter (fun q (s:Int×Int×List Int×List (List Int))=>s.2.1=((t.bn.length-q:Nat):Int)/\ q<=t.bn.length/\ s.2.2.1.length=t.bn.length-q/\ (0<=s.1/\ s.1<(2^t.bn.length:Nat))/\ KS t.bn.length s.2.2.2/\ ∀(i:Nat) b,s.2.2.1[i]? =some b->b= -1 \/∃(k:Nat)(x y:cZ),b=(k:Int)/\ t.bn[k]? =some x/\ t.bn[i]? =some y/\ Fol t f x y) (n:=t.bn.length) ⟨by simp,dQ _,by simp,⟨kR 0,Int.ofNat_lt.2 U⟩,X,by simp⟩ ?_;rintro q ⟨ab,M,i,v2⟩ ⟨hb,V,A,H,w,hB⟩;simp only at hb A H w hB;subst hb;unfold yli;refine .iteP (fun hc=>?_) (fun hc=>.dn ⟨by omega,hB⟩);have hw:w64 (((t.bn.length-q:Nat):Int)+1)=((t.bn.length-q+1:Nat):Int):=jai (by omega);obtain⟨y,Y⟩:=jak (l:=t.bn) (i:=t.bn.length-q) (by omega);refine .call (yji h u (by omega) w H) fun r J=>.call (P:=fun(o:Int×Int×List (List Int))=>(0<=o.1/\ o.1<(2^t.bn.length:Nat))/\ KS t.bn.length o.2.2/\ (o.2.1= -1 \/∃(k:Nat)(x:cZ),o.2.1=(k:Int)/\ t.bn[k]? =some x/\ Fol t f x y)) ?_ fun⟨aa,v3,v4⟩ g=>.chk (by clear g;simp;omega) (.nx ⟨q-1,by clear g;omega,?_,by clear g;omega,?_,g.1,g.2.1,fun j b m=>?_⟩)
  ·rw[hw];refine .call (yji h u (by omega) J H) fun r1 K=>.ite (fun _=>?_) fun _=>.ok ⟨H,K,.inl rfl⟩;refine .call (P:=fun o=>KS t.bn.length o.2/\ (o.1= -1 \/∃(k:Nat)(x:cZ),o.1=(k:Int)/\ t.bn[k]? =some x/\ Fol t f x y)) ?_ fun⟨Z,ah⟩ ⟨g1,z⟩=>.chk (ygp _) (.ok ?_)
   ·refine .iter (fun p s=>s.2.1=((t.bn.length-p:Nat):Int)/\ p<=t.bn.length/\ KS t.bn.length s.2.2/\ (s.1= -1 \/∃(k:Nat)(x:cZ),s.1=(k:Int)/\ t.bn[k]? =some x/\ Fol t f x y)) (n:=t.bn.length) ⟨by simp,dQ _,K,.inl rfl⟩ ?_;rintro p ⟨v5,v6,v7⟩ ⟨hv,hp,a,C⟩;simp only at hv a C;subst hv;unfold ylj;refine .call (P:=fun b=>b=true->0<p) (.iteP (fun hc=>.ok fun _=>by omega) fun _=>.ok nofun) fun b hb=>.ite (fun N=>?_) fun _=>.dn ⟨a,C⟩;have ac:=hb N;obtain⟨x,F⟩:=jak (l:=t.bn) (i:=t.bn.length-p) (by omega);have Q:=(yc5 h F Y).2;have O:=(ycq h F Y).2.2;obtain⟨s,D,E⟩:=yur (n:=t.bn.length) u (v:=((t.bn.length-p:Nat):Int)) (.inr ⟨by omega,by omega⟩);refine .call (P:=fun o=>KS t.bn.length o.2/\ (o.1= -1 \/∃(k:Nat)(x:cZ),o.1=(k:Int)/\ t.bn[k]? =some x/\ Fol t f x y)) (.chk (ygp _) (.call (P:=fun o=>KS t.bn.length o.2/\ (o.1=true->Fol t f x y)) ?_ fun⟨ae,af⟩ ⟨a1,a2⟩=>.ite (fun ht=>.ok ⟨a1,.inr ⟨_,x,rfl,F,a2 ht⟩⟩) fun _=>.ok ⟨a1,C⟩)) fun⟨v9,ad⟩ ⟨b1,b2⟩=>.nx ⟨p-1,by omega,?_,by omega,b1,b2⟩
    ·refine .ite (fun _=>.eq Q (.iteP (fun hF=>.eq O (.chk (ygp _) ?_)) fun _=>.ok ⟨a,nofun⟩)) fun _=>.ok ⟨a,nofun⟩;rw[D,hw];exact .call (yji h u (by omega) a (ynd u H E)) fun r4 h4=>.ok ⟨h4,fun _=>hF⟩
    ·show w64 (((t.bn.length-p:Nat):Int)+1)=_;rw[jaj (by omega)];omega
   ·obtain⟨s,D,E⟩:=yur (n:=t.bn.length) u (v:=Z) (by
     rcases z with z|⟨k,x,z,F,_⟩
     ·exact .inl z
     ·have:=fK F;exact .inr ⟨by simp only at z;omega,by simp only at z;omega⟩)
    dsimp only
    rw[D];exact⟨ynd u H E,g1,z⟩
  ·exact yw8 hc V (by clear g;omega)
  ·clear g;show(i++[v3]).length=_;simp;omega
  ·have G:=g.2.2;clear g;simp only at G;have m:(i++[v3])[j]? =some b:=m;rcases jC j i.length with hji|hji
   ·rw[jK hji]at m;exact hB j b m
   ·rw[kg hji]at m;have:=fK m;simp only[lQ]at this;have R:j=t.bn.length-q:=by omega
    subst R;rw[show t.bn.length-q-i.length=0 by omega]at m;simp only[mM,bU]at m;subst m;rcases G with G|⟨k,x,G,F,hF⟩
    ·exact .inl G
    ·exact .inr ⟨k,x,y,G,F,Y,hF⟩
def Pc{α:Type}(m:Option α)(Q:α->Prop):Prop:=∀r,m=some r->Q r
theorem Pc.call{α β:Type}{m:Option α}{P:α->Prop}{k:α->Option β}{Q:β->Prop}(h:Tot m P)(a:∀x,P x->Pc (k x) Q):Pc (m.bind k) Q:=by
 obtain⟨x,e,b⟩:=h;subst e;exact a x b
theorem Pc.any{α β:Type}{m:Option α}{k:α->Option β}{Q:β->Prop}(a:∀x,Pc (k x) Q):Pc (m.bind k) Q:=by
 intro r b;obtain⟨x,_,e⟩:=jaf b;exact a x r e
theorem Pc.bind{α β:Type}{m:Option α}{k:α->Option β}{P:α->Prop}{Q:β->Prop}(h:Pc m P)(a:∀x,P x->Pc (k x) Q):Pc (m.bind k) Q:=by
 intro r e;obtain⟨x,b,g⟩:=jaf e;exact a x (h x b) r g
theorem Pc.ok{α:Type}{a:α}{Q:α->Prop}(h:Q a):Pc (some a) Q:=by intro r b;cases b;exact h
theorem Pc.ite{α:Type}{c:Bool}{a b:Option α}{Q:α->Prop}(e:Pc a Q)(g:Pc b Q):Pc (if c then a else b) Q:=by
 cases c
 ·exact g
 ·exact e
theorem Pc.flb{R V:Type}{m:Option (Fl R V)}{k:V->Option R}{Q:R->Prop}(h:Pc m fun v=>(∀r,v=.ret r->Q r)/\ ∀u,v=.go u->Pc (k u) Q):Pc (Ab.flb m k) Q:=by
 intro r b;obtain⟨v,e,a⟩:=jaf b;have:=h v e;cases v with
 |ret g=>cases a;exact this.1 _ rfl
 |go u=>exact this.2 u rfl r a
theorem Pc.go{R V:Type}{u:V}{Q:R->Prop}{P:V->Prop}(h:P u):Pc (some (Fl.go u:Fl R V)) fun v=>(∀r,v=.ret r->Q r)/\ ∀u,v=.go u->P u:=Pc.ok ⟨fun r h=>(by cases h),fun a h=>by cases h;assumption⟩
theorem Pc.ret{R V:Type}{r:R}{Q:R->Prop}{P:V->Prop}(h:Q r):Pc (some (Fl.ret r:Fl R V)) fun v=>(∀r,v=.ret r->Q r)/\ ∀u,v=.go u->P u:=Pc.ok ⟨fun a h=>by cases h;assumption,fun u h=>by cases h⟩
theorem Tot.pc{α:Type}{m:Option α}{P Q:α->Prop}(h:Tot m P)(e:Pc m Q):Tot m fun r=>P r/\ Q r:=by
 obtain⟨x,a,b⟩:=h;exact⟨x,a,b,e x a⟩
theorem yuu{k:Nat}{c:bM}(h:Cur k c)(I:k<=200000000):Pc (zq94 c) fun r=>2<=r.1.bq.length:=by
 unfold zq94;refine .call (ybt h (by omega)) fun r ⟨_,w⟩=>.any fun j=>.any fun e=>.flb ?_;have a:=w.1.1;have fin:∀(v:List UInt8)(l m:Int)(o:ByteArray)(b:List ByteArray)(g:List bK)(p:List Int),2<=b.length->Pc ((idx g j.1).bind fun i=>some ((⟨b,(g.set j.1.toNat (⟨o,i.bq,p⟩:bK))⟩:bC),(⟨v,l,(⟨m⟩:IK .u64)⟩:bM))) fun r=>2<=r.1.bq.length:=fun v l m o b g p x=>.any fun i=>.ok x;refine .any fun J=>.ite (.any fun K=>.any fun F=>.go (fin _ _ _ _ _ _ _ (by rw[gH];exact a))) (.ite (.any fun M=>.go (fin _ _ _ _ _ _ _ a)) (.ite (.any fun N=>.any fun O=>.any fun G=>.go (fin _ _ _ _ _ _ _ a)) (.ite (.any fun y=>.any fun z=>.any fun H=>.go (fin _ _ _ _ _ _ _ a)) (.ite (.any fun u=>.go (fin _ _ _ _ _ _ _ a)) (.ite (.ret a) (.ite (.any fun⟨A,C,D,E⟩=>.ret a) (.go (fin _ _ _ _ _ _ _ a))))))))
theorem yq8{k:Nat}{c:bM}(h:Cur k c)(H:k<=50000000):Pc (zq95 c) fun r=>2<=r.1.bC.bq.length:=by
 unfold zq95;refine .call (yd2 h (by omega)) fun r ⟨hc,_,y,I⟩=>?_;have a:=y.1.1;refine .ite (.ok a) (.call (ya1 _ hc (by omega)) fun j ⟨b,_⟩=>.any fun e=>.flb (.call (ya1 24 b (by omega)) fun J ⟨g,_⟩=>?_));have fin:∀(v:List UInt8)(l m:Int)(o:List bK)(p u w:Int)(i:List ByteArray),2<=i.length->Pc ((idx r.1.bn j.1).bind fun F=>some ((⟨(⟨i,o⟩:bC),(r.1.bn.set j.1.toNat (⟨p,u,w⟩:cZ))⟩:bA),(⟨v,l,(⟨m⟩:IK .u64)⟩:bM))) fun r=>2<=r.1.bC.bq.length:=fun v l m o p u w i z=>.any fun G=>.ok z;refine .ite (.any fun K=>.go (fin _ _ _ _ _ _ _ _ a)) (.ite (.any fun M=>.go (fin _ _ _ _ _ _ _ _ a)) (.ite (.any fun N=>.go (fin _ _ _ _ _ _ _ _ a)) (.ite (.bind (yuu g (by omega)) fun O x=>.go (fin _ _ _ _ _ _ _ _ x)) (.ite (.any fun⟨A,C,D,E⟩=>.ret a) (.go (fin _ _ _ _ _ _ _ _ a))))))
theorem ywg{k:Nat}{c:bM}(h:Cur k c)(e:k<=40000000):Pc (yj3 c) fun r=>2<=r.1.bC.bq.length:=by
 unfold yj3;refine .call (ypq 16 h (by omega)) fun r hc=>.ite (.bind (yq8 hc (by omega)) fun g a=>.ok a) (.call (yqx hc (by omega)) fun i ⟨_,b⟩=>.any fun j=>.any fun⟨l,m,o,p⟩=>.any fun u=>.ok b.1.1)
theorem yw0{k:Nat}{c:bM}{n:bC}(h:Cur k c)(hk:k<=30000000)(hn:2<=n.bq.length/\ n.bq.length<=1000):Tot (zq99 c n) fun r=>Cur (k+3000000) r.2/\ FB r.1:=by
 unfold zq99;refine .call (yiz _ (by simp) h (by omega)) fun r ⟨hc,_⟩=>?_;refine .call (P:=fun o=>Cur (k+2+2000*n.bq.length) ⟨o.1,o.2.1,⟨o.2.2.1⟩⟩/\ o.2.2.2.length=n.bq.length/\ ∀row∈o.2.2.2,row.length=n.bq.length) ?_ fun⟨V,W,X,b⟩ ⟨y,C,j⟩=>?_
 ·refine .iter (fun q s=>s.1=((n.bq.length-q:Nat):Int)/\ q<=n.bq.length/\ s.2.2.2.2.length=n.bq.length-q/\ (∀row∈s.2.2.2.2,row.length=n.bq.length)/\ Cur (k+2+2000*(n.bq.length-q)) ⟨s.2.1,s.2.2.1,⟨s.2.2.2.1⟩⟩) (n:=n.bq.length) ⟨by simp,dQ _,by simp,by simp,hc.mono (by omega)⟩ ?_;rintro q ⟨v,w1,w2,w3,w4⟩ ⟨D,hq,C,j,a⟩;simp only at D C j a;subst D;unfold ykv;refine .iteP (fun w=>?_) (fun w=>.dn ⟨a.mono (by omega),by simp only;omega,j⟩);have R:0<q:=by omega
  refine .call (P:=fun o=>Cur (k+2+2000*(n.bq.length-q)+2*n.bq.length) ⟨o.1,o.2.1,⟨o.2.2.1⟩⟩/\ o.2.2.2.length=n.bq.length) ?_ fun⟨v9,T,U,I⟩ ⟨u,G⟩=>.chk (by simp;omega) (.nx ⟨q-1,by omega,?_,by omega,?_,fun row hm=>?_,u.mono (by omega)⟩)
  ·refine .iter (fun p s=>s.1=((n.bq.length-p:Nat):Int)/\ p<=n.bq.length/\ s.2.2.2.2.length=n.bq.length-p/\ Cur (k+2+2000*(n.bq.length-q)+2*(n.bq.length-p)) ⟨s.2.1,s.2.2.1,⟨s.2.2.2.1⟩⟩) (n:=n.bq.length) ⟨by simp,dQ _,by simp,a.mono (by omega)⟩ ?_;rintro p ⟨v,x1,x2,x3,x4⟩ ⟨D,hp,C,a⟩;simp only at D C a;subst D;unfold ykw;refine .iteP (fun w=>?_) (fun w=>.dn ⟨a.mono (by omega),by simp only;omega⟩);have Q:0<p:=by omega
   refine .call (P:=fun _=>True) (by unfold yj1;exact .iteP (fun _=>.ok trivial) fun _=>.ok trivial) fun r1 _=>.call (yct 4 a (by omega)) fun r2 ⟨u,_⟩=>.chk (by simp;omega) (.nx ⟨p-1,by omega,?_,by omega,by simp;omega,u.mono (by omega)⟩);show w64 (((n.bq.length-p:Nat):Int)+1)=_;rw[jaj (by omega)];omega
  ·show w64 (((n.bq.length-q:Nat):Int)+1)=_;rw[jaj (by omega)];omega
  ·simp;omega
  ·have hm:row∈w4++[I]:=hm;rcases fA.1 hm with hm|hm
   ·exact j row hm
   ·rw[iR.1 hm];exact G
 ·simp only at y C j;obtain⟨e,J⟩:=jak (l:=b) (i:=0) (by omega);have z:=j e (bT J);have M:idx b 0=some e:=ixs J;have m:∀(row:List Int),row.length=n.bq.length->FB ⟨b.set (0:Int).toNat row,r.1⟩:=fun row K=>⟨by show(b.set _ _).length<=1000;rw[gH];omega,fun x H=>by
   rcases tZ H with H|rfl
   ·have:=j x H;omega
   ·omega⟩
  have A:∀x:Int,FB ⟨b,x⟩:=fun x=>⟨by show b.length<=1000;omega,fun row hm=>by have:=j row hm;omega⟩;refine .call (P:=fun o=>Cur (k+3000000) ⟨o.1,o.2.1,⟨o.2.2.1⟩⟩/\ FB ⟨o.2.2.2.1,o.2.2.2.2⟩) (.call (yct 32 y (by omega)) fun r3 ⟨g,_⟩=>.ite (fun _=>.call (yiz _ (by simp) g (by omega)) fun r4 ⟨E,_⟩=>.ok ⟨E.mono (by omega),A _⟩) fun _=>.ite (fun _=>.eq M (.idx (by omega) (by omega) fun e1 _=>.ok ⟨g.mono (by omega),m _ (by rw[gH];exact z)⟩)) fun _=>.ite (fun _=>.eq M (.call (yiz _ (by simp) g (by omega)) fun r6 ⟨F,_⟩=>?_)) fun _=>.ite (fun _=>.chk (by omega) (.ok ⟨g.mono (by omega),⟨by show(b.drop _).length<=1000;simp;omega,fun row hm=>by have:=j row (List.mem_of_mem_drop hm);omega⟩⟩)) fun _=>.ok ⟨g.mono (by omega),A _⟩) fun⟨Y,Z,aa,ab,ac⟩ ⟨N,O⟩=>.ok ⟨N,O⟩;have S:w64 ((n.bq.length:Int)-1)=((n.bq.length-1:Nat):Int):=by rw[jaj (by omega)];omega
  rw[S];exact .idx (by omega) (by omega) fun e5 _=>.ok ⟨F.mono (by omega),m _ (by rw[gH];exact z)⟩
def BB(B:List (List Int)):Prop:=B.length<=20/\ ∀b∈B,b.length<=2000
def tix(t:bA)(e:Int):Int:=fixI (fun x=>x.Id==e) t.bn
def tr(t:bA)(e:Int):cZ:=(t.bn[(tix t e).toNat]?).getD ⟨0,0,0⟩
theorem ybg{t:bA}{e:Int}(h:0<=tix t e):t.bn[(tix t e).toNat]? =some (tr t e)/\ (tr t e).Id=e/\ ((tix t e).toNat:Int)=tix t e/\ (tix t e).toNat<t.bn.length:=by
 obtain⟨k,x,i,a,j,_⟩:=wZ (p:=fun x:cZ=>x.Id==e) (l:=t.bn) (by unfold tix at h;omega);have b:tix t e=(k:Int):=i;have g:tr t e=x:=by unfold tr;rw[b,gI,a];rfl
 rw[b,gI,g];exact⟨a,by simpa using j,rfl,fK a⟩
theorem yfz{t:bA}{e:Int}(h:0<=tix t e):idx t.bn (tix t e)=some (tr t e):=by
 have:=ybg h;rw[<-this.2.2.1];exact ixs this.1
theorem yte{t:bA}{a b:Int}(h:0<=tix t a)(e:tix t a=tix t b):a=b:=by
 have i:=ybg h;have g:=ybg (t:=t) (e:=b) (by omega);rw[<-e,i.1]at g;have:=gT g.1;rw[<-i.2.1,<-g.2.1,this]
theorem ytd{t:bA}(hT:ydk t){e:Int}(h:0<=tix t e):1<=e:=by
 have a:=ybg h;have:=(hT.2.2.1 _ _ a.1).1.1;rw[a.2.1]at this;exact this
theorem yiy{t:bA}(hb:TB t)(e:Int):zq52 t e=some (tix t e):=yj7 t hb.2 e
theorem yc9{t:bA}(hb:TB t)(e:Int):ycs t e=some (tix t e):=ytz t hb.2 e
theorem yqt{t:bA}(hb:TB t){e:Int}(h:0<=tix t e):zq54 t e=some (tr t e):=by
 unfold zq54;rw[yiy hb];simp only[bF,yfz h]
def FolE(t:bA)(f:bL)(a c:Int):Prop:=Fol t f (tr t a) (tr t c)
noncomputable instance(t:bA)(f:bL)(a c:Int):Decidable (FolE t f a c):=Classical.propDecidable _
theorem ywy{t:bA}{f:bL}(h:AskF t f){a c:Int}(j:0<=tix t a)(hc:0<=tix t c):zq17 t f (tr t a) (tr t c)=some (decide (FolE t f a c))/\ zq66 t f (tix t a) (tix t c)=some (decide (FolE t f a c)):=by
 have e:=ybg j;have g:=ybg hc;obtain⟨i,b⟩:=yc5 h e.1 g.1;rw[e.2.2.1,g.2.2.1]at b;rw[i,b];exact⟨congrArg some (decide_eq_decide.2 Iff.rfl),congrArg some (decide_eq_decide.2 Iff.rfl)⟩
theorem pig{n:Nat}:∀{l:List Int},l.Nodup->(∀x∈l,0<=x/\ x<(n:Int))->l.length<=n:=by
 induction n with
 |zero=>
  intro l _ h;cases l with
  |nil=>simp
  |cons a l=>have:=h a (by simp);omega
 |succ n i=>
  intro l hd h;by_cases g:((n:Nat):Int)∈l
  ·have:=i (l:=l.erase (n:Int)) (hd.erase _) (fun x b=>by
    have j:=h x (List.mem_of_mem_erase b);have k:x≠(n:Int):=(hd.mem_erase_iff.1 b).1;omega)
   rw[List.length_erase_of_mem g]at this;omega
  ·have:=i hd (fun x b=>by
    have j:=h x b;have k:x≠(n:Int):=fun e=>g (e▸b);omega)
   omega
def yxe(t:bA)(f:bL)(b:List Int):Prop:=∀(j:Nat) a c,b[j]? =some a->b[j+1]? =some c->FolE t f a c
def yku(t:bA)(f:bL)(b:List Int):Prop:=b≠[]/\ (∀e∈b,0<=tix t e)/\ yxe t f b
def ybk(t:bA)(f:bL)(B:List (List Int)):Prop:=(∀b∈B,yku t f b)/\ (B.flatten.map (tix t)).Nodup/\ B.flatten.length=t.bn.length
def ygd(u:List Bool)(at_:List Int):Prop:=u.length=12/\ ∀p:Nat,p<12->u[p]? =some (decide ((p:Int)∈at_))
theorem ypi:ygd (List.replicate 12 false) []:=⟨by simp,fun p a=>by
 rw[Ay];simp[a]⟩
theorem yph{u:List Bool}{at_:List Int}(h:ygd u at_){r:Int}(h0:0<=r/\ r<12):ygd (u.set r.toNat true) (at_++[r]):=by
 refine⟨by rw[gH];exact h.1,fun p a=>?_⟩;rw[D8];by_cases e:r.toNat=p
 ·subst e;rw[if_pos rfl,if_pos (by rw[h.1];exact a)];have:((r.toNat:Nat):Int)=r:=by omega
  simp[this]
 ·rw[if_neg e,h.2 p a];have:(p:Int)≠r:=by omega
  simp[this]
theorem yix{u:List Bool}{at_:List Int}(h:ygd u at_){r:Int}(h0:0<=r/\ r<12):idx u r=some (decide (r∈at_)):=by
 have e:((r.toNat:Nat):Int)=r:=by omega
 have:=h.2 r.toNat (by omega);rw[e]at this;rw[<-e,jal,this,e]
section
variable{t:bA}{f:bL}{B:List (List Int)}
theorem yw4(hb:TB t)(h:AskF t f)(hB:BB B){v:Nat}{b:List Int}(N:B[v]? =some b){o:List Int}(Y:∀x∈o,0<=x/\ x<(t.bn.length:Int)){u0:List Bool}(aa:ygd u0 o)(V:o.Nodup):
  ∃x x',iter (yb1 t f b) ((o.length:Int),(0:Int),u0)=some x/\ iter (ybj t f B (v:Int)) ((0:Int),o)=some x'/\
   ((x=.ret (.dn (.ret false))/\ x'=.ret (.dn (.ret false))) \/∃at_ u,x=.go ((at_.length:Int),u)/\ x'=.go at_/\ at_=o++b.map (tix t)/\ ygd u at_/\ at_.Nodup/\ (∀e∈b,0<=tix t e)/\ yxe t f b):=by
 have hn:=h.1.2.1;have ad:=hB.2 b (bT N);refine Bz (fun m (a:Int×Int×List Bool) (a':Int×List Int)=>∃j:Nat,m+j=b.length/\ a.1=(a'.2.length:Int)/\ a.2.1=(j:Int)/\ a'.1=(j:Int)/\ a'.2=o++(b.take j).map (tix t)/\ ygd a.2.2 a'.2/\ a'.2.Nodup/\ (∀e∈b.take j,0<=tix t e)/\ ∀(i:Nat) p q,i+1<j->b[i]? =some p->b[i+1]? =some q->FolE t f p q) _ ?_ (k:=b.length) ⟨0,rfl,rfl,rfl,rfl,by simp,aa,V,by simp,by simp⟩;rintro m ⟨n1,v3,u⟩ ⟨v2,at_⟩ ⟨j,hm,e1,e2,e3,P,hU,hD,hE,hC⟩;simp only at e1 e2 e3 P hU hD;subst e2 e3 e1;have G:∀x∈at_,0<=x/\ x<(t.bn.length:Int):=fun x hx=>by
  rw[P]at hx;rcases fA.1 hx with hx|hx
  ·exact Y x hx
  ·obtain⟨e,w,rfl⟩:=jE.1 hx;have:=ybg (hE e w);omega
 have ac:=pig hD G;by_cases hj:j<b.length
 ·obtain⟨e,w⟩:=jak hj;have g:decide ((j:Int)<(b.length:Int))=true:=by simp;omega
  by_cases h0:tix t e<0
  ·refine .inr ⟨_,_,?_,?_,.inl ⟨rfl,rfl⟩⟩
   ·simp only[yb1,g,if_true,jal,w,bF,yiy hb,h0,decide_true]
   ·simp only[ybj,ixs N,g,if_true,jal,w,bF,yc9 hb,h0,decide_true]
  have z:0<=tix t e:=by omega
  have af:=ybg z;have A:0<=tix t e/\ tix t e<12:=by omega
  have E:chk ((0:Int)<=tix t e/\ tix t e<12)=some ():=ja9 A;have H:=yix hU A;have F:=ydc at_ (by omega) (tix t e);by_cases D:tix t e∈at_
  ·refine .inr ⟨_,_,?_,?_,.inl ⟨rfl,rfl⟩⟩
   ·simp only[yb1,g,if_true,jal,w,bF,yiy hb,h0,decide_false,bW,if_false,E,H,D,decide_true]
   ·simp only[ybj,ixs N,g,if_true,jal,w,bF,yc9 hb,h0,decide_false,bW,if_false,F,D,decide_true]
  have J:chk (at_.length+([tix t e]:List Int).length<=4294967296)=some ():=ja9 (by simp;omega);have T:(at_++[tix t e]).Nodup:=kJ.2 ⟨hD,by simp,fun a I c hc=>by
   rw[iR.1 hc];intro e;exact D (e▸I)⟩
  have W:∀e'∈b.take (j+1),0<=tix t e':=fun e' he'=>by
   rw[jap w]at he';rcases fA.1 he' with he'|he'
   ·exact hE e' he'
   ·rw[iR.1 he'];exact z
  have U:at_++[tix t e]=o++(b.take (j+1)).map (tix t):=by
   rw[jap w,oD,<-eU,<-P];rfl
  have fin:(∀(i:Nat) p q,i+1<j+1->b[i]? =some p->b[i+1]? =some q->FolE t f p q)->∃k',k'<m/\ ∃j':Nat,k'+j'=b.length/\ w64 ((at_.length:Int)+1)=((at_++[tix t e]).length:Int)/\ w64 ((j:Int)+1)=(j':Int)/\ w64 ((j:Int)+1)=(j':Int)/\ at_++[tix t e]=o++(b.take j').map (tix t)/\ ygd (u.set (tix t e).toNat true) (at_++[tix t e])/\ (at_++[tix t e]).Nodup/\ (∀e∈b.take j',0<=tix t e)/\ ∀(i:Nat) p q,i+1<j'->b[i]? =some p->b[i+1]? =some q->FolE t f p q:=fun S=>
   ⟨m-1,by omega,j+1,by omega,(by rw[jai (n:=at_.length) (by omega)];simp),jai (by omega),jai (by omega),U,yph hU A,T,W,S⟩
  by_cases ae:0<j
  ·obtain⟨a,I⟩:=jak (l:=b) (i:=j-1) (by omega);have R:w64 ((j:Int)-1)=((j-1:Nat):Int):=by rw[jaj (by omega)];omega
   have K:0<=tix t a:=hE a (bT (show(b.take j)[j-1]? =some a by rw[kL (by omega)];exact I));have y:decide ((0:Int)<(j:Int))=true:=by simp;omega
   obtain⟨f1,f2⟩:=ywy h K z;by_cases hF:FolE t f a e
   ·obtain⟨k',M,C⟩:=fin fun i p q hi Q O=>by
     by_cases X:i+1<j
     ·exact hC i p q X Q O
     ·have:i=j-1:=by omega
      subst this;rw[I]at Q;cases Q;rw[show j-1+1=j by omega,w]at O;cases O;exact hF
    refine .inl ⟨(w64 ((at_.length:Int)+1),w64 ((j:Int)+1),u.set (tix t e).toNat true),(w64 ((j:Int)+1),at_++[tix t e]),k',?_,?_,M,C⟩
    ·simp only[yb1,g,if_true,jal,w,bF,yiy hb,h0,decide_false,bW,if_false,E,H,D,y,R,I,yqt hb K,yfz z,f1,hF,decide_true,fT]
    ·simp only[ybj,ixs N,g,if_true,jal,w,bF,yc9 hb,h0,decide_false,bW,if_false,F,D,y,R,I,f2,hF,decide_true,fT,J]
   ·refine .inr ⟨_,_,?_,?_,.inl ⟨rfl,rfl⟩⟩
    ·simp only[yb1,g,if_true,jal,w,bF,yiy hb,h0,decide_false,bW,if_false,E,H,D,y,R,I,yqt hb K,yfz z,f1,hF,kS]
    ·simp only[ybj,ixs N,g,if_true,jal,w,bF,yc9 hb,h0,decide_false,bW,if_false,F,D,y,R,I,f2,hF,kS]
  ·have ab:j=0:=by omega
   obtain⟨k',M,C⟩:=fin fun i p q hi=>by omega
   have y:decide ((0:Int)<(j:Int))=false:=by simp;omega
   refine .inl ⟨(w64 ((at_.length:Int)+1),w64 ((j:Int)+1),u.set (tix t e).toNat true),(w64 ((j:Int)+1),at_++[tix t e]),k',?_,?_,M,C⟩
   ·simp only[yb1,g,if_true,jal,w,bF,yiy hb,h0,decide_false,bW,if_false,E,H,D,y]
   ·simp only[ybj,ixs N,g,if_true,jal,w,bF,yc9 hb,h0,decide_false,bW,if_false,F,D,y,J]
 ·have g:decide ((j:Int)<(b.length:Int))=false:=by simp;omega
  have Z:b.take j=b:=iw (by omega);rw[Z]at P hE;refine .inr ⟨_,_,?_,?_,.inr ⟨at_,u,rfl,rfl,P,hU,hD,hE,fun i p q Q O=>hC i p q (by have:=fK O;omega) Q O⟩⟩
  ·simp only[yb1,g,bW,if_false]
  ·simp only[ybj,ixs N,g,bW,if_false,bF]
theorem ynq(hb:TB t)(h:AskF t f)(hB:BB B):∃v,zq12 t f B=some v/\ zq62 t f B=some v/\ (v=true->ybk t f B):=by
 have hn:=h.1.2.1;have H:∃x x',iter (ybs t f B) ((0:Int),(0:Int),(0:Int),(List.replicate 12 (false:Bool)))=some x/\ iter (ybi t f B) ((0:Int),([]:List Int))=some x'/\
   ((x=.ret false/\ x'=.ret false) \/∃at_:List Int,x=.go (at_.length:Int)/\ x'=.go at_/\ at_=B.flatten.map (tix t)/\ at_.Nodup/\ ∀b∈B,yku t f b):=by
  refine Bz (fun m (a:Int×Int×Int×List Bool) (a':Int×List Int)=>∃v:Nat,m+v=B.length/\ a.1=(a'.2.length:Int)/\ a.2.2.1=(v:Int)/\ a'.1=(v:Int)/\ a'.2=(B.take v).flatten.map (tix t)/\ ygd a.2.2.2 a'.2/\ a'.2.Nodup/\ (∀b∈B.take v,yku t f b)/\ (v=0->a.2.1=0)/\ (0<v->∃b,B[v-1]? =some b/\ b[0]? =some a.2.1)) _ ?_ (k:=B.length) ⟨0,rfl,rfl,rfl,rfl,by simp,ypi,by simp,by simp,fun _=>rfl,fun h=>by omega⟩;rintro m ⟨n1,k,v',u⟩ ⟨v2,at_⟩ ⟨v,hm,e1,e2,e3,I,hU,hD,hE,M,N⟩;simp only at e1 e2 e3 I hU hD M N;subst e2 e3 e1;have C:∀x∈at_,0<=x/\ x<(t.bn.length:Int):=fun x hx=>by
   rw[I]at hx;obtain⟨e,Q,rfl⟩:=jE.1 hx;obtain⟨b,U,V⟩:=mh.1 Q;have:=ybg ((hE b U).2.1 e V);omega
  by_cases hv:v<B.length
  ·obtain⟨b,g⟩:=jak hv;have j:decide ((v:Int)<(B.length:Int))=true:=by simp;omega
   by_cases hz:b.length=0
   ·have p:((b.length:Int)==0)=true:=beq_iff_eq.2 (by omega);refine .inr ⟨_,_,?_,?_,.inl ⟨rfl,rfl⟩⟩
    ·simp only[ybs,j,if_true,jal,g,bF,p]
    ·simp only[ybi,j,if_true,jal,g,bF,p]
   have p:((b.length:Int)==0)=false:=beq_eq_false_iff_ne.2 (by omega);obtain⟨e,Q⟩:=jak (l:=b) (i:=0) (by omega);have y:idx b 0=some e:=ixs (i:=0) Q;have F:¬e<=k->(∀R,ybi t f B ((v:Int),at_)=R↔(flb (iter (ybj t f B (v:Int)) ((0:Int),at_)) fun(z:List Int)=>some (.nx ((w64 ((v:Int)+1)),z)))=R)->(∃w E,∃k',ybs t f B ((at_.length:Int),k,(v:Int),u)=some (.nx w)/\ ybi t f B ((v:Int),at_)=some (.nx E)/\ k'<m/\ ∃v:Nat,k'+v=B.length/\ w.1=(E.2.length:Int)/\ w.2.2.1=(v:Int)/\ E.1=(v:Int)/\ E.2=(B.take v).flatten.map (tix t)/\ ygd w.2.2.2 E.2/\ E.2.Nodup/\ (∀b∈B.take v,yku t f b)/\ (v=0->w.2.1=0)/\ (0<v->∃b,B[v-1]? =some b/\ b[0]? =some w.2.1)) \/∃x x',ybs t f B ((at_.length:Int),k,(v:Int),u)=some (.dn x)/\ ybi t f B ((v:Int),at_)=some (.dn x')/\ ((x=.ret false/\ x'=.ret false) \/∃at_:List Int,x=.go (at_.length:Int)/\ x'=.go at_/\ at_=B.flatten.map (tix t)/\ at_.Nodup/\ ∀b∈B,yku t f b):=by
    intro o hS;obtain⟨x,x',O,P,S⟩:=yw4 hb h hB g C hU hD;have hI:ybs t f B ((at_.length:Int),k,(v:Int),u)=flb (iter (yb1 t f b) ((at_.length:Int),(0:Int),u)) fun((A,v6):Int×(List Bool))=>some (.nx (A,e,(w64 ((v:Int)+1)),v6)):=by
     simp only[ybs,j,if_true,jal,g,bF,p,bW,if_false,y,o,decide_false]
    rcases S with⟨rfl,rfl⟩|⟨G,u2,rfl,rfl,q1,Z,q3,q4,q5⟩
    ·refine .inr ⟨_,_,?_,?_,.inl ⟨rfl,rfl⟩⟩
     ·rw[hI,O];rfl
     ·rw[hS,P];rfl
    ·refine .inl ⟨((G.length:Int),e,w64 ((v:Int)+1),u2),(w64 ((v:Int)+1),G),m-1,?_,?_,by omega,v+1,by omega,rfl,jai (by have:=hB.1;omega),jai (by have:=hB.1;omega),?_,Z,q3,?_,fun h=>by omega,fun _=>⟨b,g,Q⟩⟩
     ·rw[hI,O];rfl
     ·rw[hS,P];rfl
     ·rw[jap g,nJ,oD,<-I,q1];simp
     ·intro E hb';rw[jap g]at hb';rcases fA.1 hb' with hb'|hb'
      ·exact hE E hb'
      ·rw[iR.1 hb'];exact⟨fun hn=>by rw[hn]at hz;exact hz rfl,q4,q5⟩
   by_cases Y:0<v
   ·obtain⟨c,K,W⟩:=N Y;have hw:w64 ((v:Int)-1)=((v-1:Nat):Int):=by rw[jaj (by have:=hB.1;omega)];omega
    have D:decide ((0:Int)<(v:Int))=true:=by simp;omega
    have J:idx c 0=some k:=ixs (i:=0) W;by_cases o:e<=k
    ·refine .inr ⟨_,_,?_,?_,.inl ⟨rfl,rfl⟩⟩
     ·simp only[ybs,j,if_true,jal,g,bF,p,bW,if_false,y,o,decide_true]
     ·simp only[ybi,j,if_true,jal,g,bF,p,bW,if_false,y,D,hw,K,J,o,decide_true]
    ·refine F o fun R=>?_;simp only[ybi,j,if_true,jal,g,bF,p,bW,if_false,y,D,hw,K,J,o,decide_false]
   ·have hk:=M (by omega);subst hk;have D:decide ((0:Int)<(v:Int))=false:=by simp;omega
    have hS:ybi t f B ((v:Int),at_)=(flb (iter (ybj t f B (v:Int)) ((0:Int),at_)) fun(z:List Int)=>some (.nx ((w64 ((v:Int)+1)),z))):=by
     simp only[ybi,j,if_true,jal,g,bF,p,bW,if_false,D]
    by_cases o:e<=0
    ·have X:tix t e<0:=by
      rcases Int.lt_or_le (tix t e) 0 with h|h'
      ·exact h
      ·have:=ytd h.1 h';omega
     have T:decide ((0:Int)<(b.length:Int))=true:=by simp;omega
     refine .inr ⟨_,_,?_,?_,.inl ⟨rfl,rfl⟩⟩
     ·simp only[ybs,j,if_true,jal,g,bF,p,bW,if_false,y,o,decide_true]
     ·rw[hS,je5 (b:=.ret (.dn (.ret false))) (by simp only[ybj,ixs g,T,if_true,y,bF,yc9 hb,X,decide_true])];rfl
    ·exact F o fun R=>by rw[hS]
  ·have j:decide ((v:Int)<(B.length:Int))=false:=by simp;omega
   rw[iw (by omega:B.length<=v)]at I hE;refine .inr ⟨_,_,?_,?_,.inr ⟨at_,rfl,rfl,I,hD,hE⟩⟩
   ·simp only[ybs,j,bW,if_false]
   ·simp only[ybi,j,bW,if_false]
 obtain⟨x,x',O,P,S⟩:=H;unfold zq12 zq62;rw[O,P];rcases S with⟨rfl,rfl⟩|⟨at_,rfl,rfl,q1,Z,q3⟩
 ·exact⟨false,rfl,rfl,nofun⟩
 ·refine⟨_,rfl,rfl,fun h=>⟨q3,q1▸Z,?_⟩⟩;have:(at_.length:Int)=(t.bn.length:Int):=by simpa using h
  rw[q1,iy]at this;omega
end
theorem yj5{t:bA}{f:bL}{B:List (List Int)}(hb:TB t)(a:FB f)(hB:BB B):∃v,zq7 t f B=some v/\ zq70 t f B=some v/\ (v=true->AskF t f/\ ybk t f B):=by
 unfold zq7 zq70;rw[ywt hb a,yf3 hb a];by_cases h:AskF t f
 ·obtain⟨v,b,e,g⟩:=ynq hb h hB;exact⟨v,by simp[h,b],by simp[h,e],fun i=>⟨h,g i⟩⟩
 ·exact⟨false,by simp[h],by simp[h],nofun⟩
theorem yja{t:bA}{f:bL}(h:AskF t f){a:Int}(k:0<=tix t a):((tr t a).d9<ev t (tr t a)/\ ev t (tr t a)<=1799)/\ (0<=(tr t a).d9/\ (tr t a).d9<=1799)/\ zq27 t (tr t a)=some (ev t (tr t a))/\ yft t (tix t a)=some (ev t (tr t a)):=by
 have e:=ybg k;obtain⟨g,i,j,b⟩:=ydf h.1 e.1;rw[e.2.2.1]at b;exact⟨g,i,j,b⟩
theorem yjc{t:bA}{f:bL}(h:AskF t f){a c:Int}(k:0<=tix t a)(hc:0<=tix t c):(0<=dv t f (tr t a) (tr t c)/\ dv t f (tr t a) (tr t c)<=120)/\ zq24 t f (tr t a) (tr t c)=some (dv t f (tr t a) (tr t c))/\ zq64 t f (tix t a) (tix t c)=some (dv t f (tr t a) (tr t c)):=by
 have e:=ybg k;have g:=ybg hc;obtain⟨i,j,b⟩:=ycq h e.1 g.1;rw[e.2.2.1,g.2.2.1]at b;exact⟨i,j,b⟩
theorem ykp{b:List Int}{k:Nat}{e:Int}(h:b[k]? =some e):b.getD k 0=e:=by rw[dD,h];rfl
def InjB(t:bA)(B:List (List Int)):Prop:=∀(i:Nat) b (k:Nat) e (i':Nat) b' (k':Nat) e',B[i]? =some b->b[k]? =some e->B[i']? =some b'->b'[k']? =some e'->tix t e=tix t e'->i=i'/\ k=k'
theorem pwG{α:Type}{R:α->α->Prop}{M:List α}(h:M.Pairwise R){i j:Nat}{a b:α}(e:i<j)(g:M[i]? =some a)(hb:M[j]? =some b):R a b:=by
 have:=Au.1 h i j (fK g) (fK hb) e;rw[(cK.1 g).2,(cK.1 hb).2]at this;exact this
theorem LU{t:bA}{B:List (List Int)}(h:(B.flatten.map (tix t)).Nodup):InjB t B:=by
 rw[List.map_flatten,List.Nodup,D5]at h;obtain⟨p,o⟩:=h;intro i b k e i' u k' e' hb m a g heq;have l:∀{i:Nat}{b:List Int},B[i]? =some b->(B.map (List.map (tix t)))[i]? =some (b.map (tix t)):=fun h=>by rw[lu,h];rfl
 have j:∀{b:List Int}{k:Nat}{e:Int},b[k]? =some e->(b.map (tix t))[k]? =some (tix t e):=fun h=>by rw[lu,h];rfl
 rcases Al i i' with hlt|rfl|hlt
 ·exact absurd heq (pwG o hlt (l hb) (l a) _ (bT (j m)) _ (bT (j g)))
 ·rw[hb]at a;cases a;have hd:=p _ (bT (l hb));refine⟨rfl,?_⟩;rcases Al k k' with hlt|h|hlt
  ·exact absurd heq (pwG hd hlt (j m) (j g))
  ·exact h
  ·exact absurd heq.symm (pwG hd hlt (j g) (j m))
 ·exact absurd heq.symm (pwG o hlt (l a) (l hb) _ (bT (j g)) _ (bT (j m)))
section
variable{t:bA}{B:List (List Int)}
theorem Lh(A:InjB t B)(hB:BB B)(hT:∀b∈B,∀e∈b,0<=tix t e){i:Nat}{b:List Int}{k:Nat}{e:Int}(hb:B[i]? =some b)(h:b[k]? =some e):zq48 B e=some ((i:Int),(k:Int)):=by
 unfold zq48;have H:Tot (iter (ycx B e) (0:Int)) fun r=>r=.ret ((i:Int),(k:Int)):=by
  have hi:=fK hb;refine .iter (fun m v=>∃j:Nat,v=(j:Int)/\ m+j=i) (n:=i) ⟨0,rfl,rfl⟩ ?_;rintro m v ⟨j,rfl,F⟩;obtain⟨c,hc⟩:=jak (l:=B) (i:=j) (by omega);have C:=hB.2 c (bT hc);have x:=hB.1;unfold ycx;refine .iteP (fun _=>.eq (ixs hc) (.eq (yby c (by omega) e) (.iteP (fun h0=>?_) (fun h0=>?_)))) (fun D=>absurd (by omega) D)
  ·obtain⟨q,y,o,u,w,_⟩:=wZ (p:=fun z=>e==z) (l:=c) (by omega);have g:y=e:=(show e=y by simpa using w).symm;subst g;obtain⟨rfl,rfl⟩:=A _ _ _ _ _ _ _ _ hc u hb h rfl;rw[o];exact .dn rfl
  ·refine .nx ⟨m-1,?_,j+1,jai (by omega),?_⟩;all_goals
    have a:j≠i:=fun a=>by
     subst a;rw[hb]at hc;cases hc;have:=Hy (p:=fun z=>e==z) (l:=b) (by omega) e (bT h);simp at this
    omega
 obtain⟨r,E,rfl⟩:=H;rw[E];rfl
end
section
variable{t:bA}{f:bL}{B:List (List Int)}
theorem ynf(hB:BB B){e:Int}(h:∀b∈B,e∉b):zq48 B e=some (-1,0):=by
 have u:=hB.1;unfold zq48;have H:Tot (iter (ycx B e) (0:Int)) fun r=>r=.go ():=by
  refine .iter (fun m v=>∃j:Nat,v=(j:Int)/\ m+j=B.length) (n:=B.length) ⟨0,rfl,rfl⟩ ?_;rintro m v ⟨j,rfl,A⟩;unfold ycx;refine .iteP (fun hc=>?_) (fun hc=>.dn rfl);obtain⟨c,g⟩:=jak (l:=B) (i:=j) (by omega);have a:=bT g;have w:=hB.2 c a;refine .eq (ixs g) (.eq (yby c (by omega) e) (.iteP (fun h0=>?_) (fun h0=>.nx ⟨m-1,by omega,j+1,jai (by omega),by omega⟩)));obtain⟨q,y,_,k,o,_⟩:=wZ (p:=fun z=>e==z) (l:=c) (by omega);have:e=y:=by simpa using o
  subst this;exact absurd (bT k) (h c a)
 obtain⟨r,x,rfl⟩:=H;rw[x];rfl
theorem ygs(hB:BB B)(e:Int):Tot (zq67 B e) fun r=>(r=(-1,-1)/\ ∀b∈B,e∉b) \/∃(i k:Nat)(b:List Int),r=((i:Int),(k:Int))/\ B[i]? =some b/\ b[k]? =some e:=by
 have A:=hB.1;unfold zq67;have H:Tot (iter (yg9 B e) (0:Int)) fun r=>(r=.go ()/\ ∀b∈B,e∉b) \/∃(i k:Nat)(b:List Int),r=.ret ((i:Int),(k:Int))/\ B[i]? =some b/\ b[k]? =some e:=by
  refine .iter (fun m v=>∃j:Nat,v=(j:Int)/\ m+j=B.length/\ ∀(i:Nat) b,i<j->B[i]? =some b->e∉b) (n:=B.length) ⟨0,rfl,rfl,fun i b h=>by omega⟩ ?_;rintro m v ⟨j,rfl,D,hP⟩;unfold yg9;refine .iteP (fun hc=>?_) (fun hc=>.dn (.inl ⟨rfl,fun b hb=>?_⟩))
  ·obtain⟨c,a⟩:=jak (l:=B) (i:=j) (by omega);have C:=hB.2 c (bT a);have row:Tot (iter (yha B e (j:Int)) (0:Int)) fun r=>(r=.go ()/\ e∉c) \/∃k:Nat,r=.ret (.dn (.ret ((j:Int),(k:Int))))/\ c[k]? =some e:=by
    refine .iter (fun m v=>∃q:Nat,v=(q:Int)/\ m+q=c.length/\ e∉c.take q) (n:=c.length) ⟨0,rfl,rfl,by simp⟩ ?_;rintro m v ⟨q,rfl,D,u⟩;unfold yha;refine .eq (ixs a) (.iteP (fun h=>?_) (fun h=>.dn (.inl ⟨rfl,by rw[iw (by omega)]at u;exact u⟩)));obtain⟨y,x⟩:=jak (l:=c) (i:=q) (by omega);refine .eq (ixs a) (.eq (ixs x) (.ite (fun g=>?_) (fun g=>.nx ⟨m-1,by omega,q+1,jai (by omega),by omega,fun o=>?_⟩)))
    ·have:y=e:=by simpa using g
     subst this;exact .dn (.inr ⟨q,rfl,x⟩)
    ·rw[jap x]at o;rcases fA.1 o with h1|h1
     ·exact u h1
     ·have:e=y:=iR.1 h1;subst this;simp at g
   obtain⟨r,w,h⟩:=row;rw[w];rcases h with⟨rfl,h⟩|⟨k,rfl,h⟩
   ·refine .nx ⟨m-1,by omega,j+1,jai (by omega),by omega,fun i b hi hb=>?_⟩;by_cases p:i=j
    ·subst p;rw[a]at hb;cases hb;exact h
    ·exact hP i b (by omega) hb
   ·exact .dn (.inr ⟨j,k,c,rfl,a,h⟩)
  ·obtain⟨i,hi⟩:=jJ hb;exact hP i b (by have:=fK hi;omega) hi
 obtain⟨r,w,h⟩:=H;rw[w];rcases h with⟨rfl,h⟩|⟨i,k,b,rfl,h1,z⟩
 ·exact .ok (.inl ⟨rfl,h⟩)
 ·exact .ok (.inr ⟨i,k,b,rfl,h1,z⟩)
theorem ykb{a b:List Int}(u:a.length=b.length)(p:a.length<=1000000){step:Int->Option (Lp Int (Fl Bool Unit))}(hs:∀(i:Nat) x y,a[i]? =some x->b[i]? =some y->step (i:Int)=if x=y then some (.nx (w64 ((i:Int)+1)))else some (.dn (.ret false)))(o:step (a.length:Int)=some (.dn (.go ()))):Ab.flb (iter step (0:Int)) (fun _=>some true)=some (decide (a=b)):=by
 refine je8 (.iter (fun m v=>∃i:Nat,v=(i:Int)/\ m+i=a.length/\ a.take i=b.take i) (n:=a.length) ⟨0,rfl,rfl,by simp⟩ ?_);rintro m v ⟨i,rfl,w,j⟩;by_cases hi:i<a.length
 ·obtain⟨x,g⟩:=jak hi;obtain⟨y,k⟩:=jak (l:=b) (i:=i) (by omega);rw[hs i x y g k];by_cases e:x=y
  ·rw[if_pos e];exact .nx ⟨m-1,by omega,i+1,jai (by omega),by omega,by rw[jap g,jap k,j,e]⟩
  ·rw[if_neg e];refine .dn (.inr ⟨rfl,fun h=>?_⟩);rw[h,k]at g;exact e (gT g).symm
 ·have:i=a.length:=by omega
  subst this;rw[o];rw[rD,iw (by omega)]at j;exact .dn (.inl ⟨rfl,j⟩)
theorem LP{a b:List Int}(k:a.length=b.length)(m:a.length<=1000000):yqg a b=some (decide (a=b)):=by
 unfold yqg;have g:((a.length:Int)!=(b.length:Int))=false:=by rw[k];simp
 simp only[g,bW,if_false];refine ykb k m (fun i x y j l=>?_) (by unfold yc6;simp);have e:decide ((i:Int)<(a.length:Int))=true:=by have:=fK j;rw[decide_eq_true_eq];omega
 by_cases h:x=y
 ·subst h;simp only[yc6,e,if_true,jal,j,l,bF,bne_self_eq_false,bW,if_false]
 ·have hb:(x !=y)=true:=by simp[h]
  simp only[yc6,e,if_true,jal,j,l,bF,hb,h,if_false]
theorem Ej{a b:List Int}(k:a.length=b.length)(m:a.length<=1000000):yqk a b=some (decide (a=b)):=by
 unfold yqk;have g:((a.length:Int)!=(b.length:Int))=false:=by rw[k];simp
 simp only[g,bW,if_false];refine ykb k m (fun i x y j l=>?_) (by unfold yc8;simp);have e:decide ((i:Int)<(a.length:Int))=true:=by have:=fK j;rw[decide_eq_true_eq];omega
 by_cases h:x=y
 ·subst h;simp only[yc8,e,if_true,jal,j,l,bF,bne_self_eq_false,bW,if_false]
 ·have hb:(x !=y)=true:=by simp[h]
  simp only[yc8,e,if_true,jal,j,l,bF,hb,h,if_false]
def IsP(B:List (List Int))(p:List Int):Prop:=p≠[]/\ ∃(i k:Nat)(b:List Int),B[i]? =some b/\ k+p.length<=b.length/\ (b.take (k+p.length)).drop k=p
noncomputable instance(B:List (List Int))(p:List Int):Decidable (IsP B p):=Classical.propDecidable _
theorem ykm{p:List Int}{i k:Nat}{b:List Int}(hb:B[i]? =some b)(e:k+p.length<=b.length)(h:(b.take (k+p.length)).drop k=p){j:Nat}(a:j<p.length):b[k+j]? =p[j]?:=by
 have:((b.take (k+p.length)).drop k)[j]? =p[j]?:=by rw[h]
 rw[iX,kL (by omega)]at this;exact this
theorem ynj{p:List Int}(h:IsP B p):∃b∈B,∀e∈p,e∈b:=by
 obtain⟨_,i,k,b,hb,_,g⟩:=h;refine⟨b,bT hb,fun e a=>?_⟩;rw[<-g]at a;exact rE (List.mem_of_mem_drop a)
theorem Lf(C:InjB t B)(hB:BB B)(hT:∀b∈B,∀e∈b,0<=tix t e){p:List Int}(N:p.length<=3000):zq37 B p=some (decide (IsP B p)):=by
 unfold zq37;by_cases h0:p=[]
 ·subst h0;have:¬IsP B []:=fun h=>h.1 rfl;simp[this]
 have M:p.length≠0:=fun h=>h0 (kK.1 h);have F:((p.length:Int)==0)=false:=beq_eq_false_iff_ne.2 (by omega);obtain⟨e,z⟩:=jak (l:=p) (i:=0) (by omega);have u:idx p 0=some e:=ixs (i:=0) z;by_cases v:∃b∈B,e∈b
 ·obtain⟨b,hb,E⟩:=v;obtain⟨i,hi⟩:=jJ hb;obtain⟨k,A⟩:=jJ E;have I:=hB.2 b hb;have J:=fK A;have K:w64 ((k:Int)+(p.length:Int))=((k+p.length:Nat):Int):=by rw[jaj (by omega)];omega
  have o:decide ((0:Int)<=(i:Int))=true:=by rw[decide_eq_true_eq];omega
  simp only[F,bW,if_false,u,bF,Lh C hB hT hi A,o,if_true,jal,hi,K];by_cases w:k+p.length<=b.length
  ·have hd:decide (((k+p.length:Nat):Int)<=(b.length:Int))=true:=by rw[decide_eq_true_eq];omega
   have D:chk ((0:Int)<=(k:Int)/\ (k:Int)<=((k+p.length:Nat):Int)/\ ((k+p.length:Nat):Int)<=(b.length:Int))=some ():=ja9 (by omega);simp only[hd,if_true,D,bF,gI];rw[LP (by rw[gY,eF];omega) (by rw[gY,eF];omega)];simp only[bF];refine congrArg some (decide_eq_decide.2 ⟨fun h=>⟨h0,i,k,b,hi,w,h⟩,fun⟨_,i',k',G,a,g,y⟩=>?_⟩);have m:=ykm a g y (j:=0) (by omega);rw[z,lN]at m;obtain⟨rfl,rfl⟩:=C _ _ _ _ _ _ _ _ a m hi A rfl;rw[hi]at a;cases a;exact y
  ·have hd:decide (((k+p.length:Nat):Int)<=(b.length:Int))=false:=by rw[decide_eq_false_iff_not];omega
   simp only[hd,bW,if_false,bF];refine congrArg some ?_;have:¬IsP B p:=fun⟨_,i',k',G,a,g,y⟩=>by
    have m:=ykm a g y (j:=0) (by omega);rw[z,lN]at m;obtain⟨rfl,rfl⟩:=C _ _ _ _ _ _ _ _ a m hi A rfl;rw[hi]at a;cases a;exact w g
   simp[this]
 ·have x:∀b∈B,e∉b:=fun b hb h=>v ⟨b,hb,h⟩;have o:decide ((0:Int)<= -1)=false:=by decide
  simp only[F,bW,if_false,u,bF,ynf hB x,o];have:¬IsP B p:=fun h=>by
   obtain⟨b,hb,H⟩:=ynj h;exact x b hb (H e (bT z))
  simp[this]
theorem ygu(hB:BB B){p:List Int}(C:p.length<=3000):Tot (zq77 B p) fun v=>v=true->p≠[]:=by
 unfold zq77;refine .ite (fun _=>.ok nofun) (fun h0=>?_);have g:p≠[]:=fun h=>by subst h;simp at h0
 have x:p.length≠0:=fun h=>g (kK.1 h);obtain⟨e,o⟩:=jak (l:=p) (i:=0) (by omega);refine .eq (ixs (i:=0) o) (.call (ygs hB e) fun r z=>?_);rcases z with⟨rfl,_⟩|⟨i,k,b,rfl,hi,u⟩
 ·exact .eq (a:=true) rfl (.ok fun _=>g)
 ·have m:=hB.2 b (bT hi);have w:=fK u;have A:w64 ((k:Int)+(p.length:Int))=((k+p.length:Nat):Int):=by rw[jaj (by omega)];omega
  have j:decide ((i:Int)<0)=false:=by rw[decide_eq_false_iff_not];omega
  simp only[j,bW,if_false,jal,hi,bF,A];refine .iteP (fun _=>.ok fun _=>g) (fun y=>.chk (by omega) ?_);rw[gI,gI,Ej (by rw[gY,eF];omega) (by rw[gY,eF];omega)];exact .eq rfl (.ok fun _=>g)
theorem Lg(E:InjB t B)(hB:BB B)(hT:∀b∈B,∀e∈b,0<=tix t e){p:List Int}(O:p.length<=3000):zq77 B p=some (decide (IsP B p)):=by
 unfold zq77;by_cases h0:p=[]
 ·subst h0;have:¬IsP B []:=fun h=>h.1 rfl;simp[this]
 have N:p.length≠0:=fun h=>h0 (kK.1 h);have G:((p.length:Int)==0)=false:=beq_eq_false_iff_ne.2 (by omega);obtain⟨e,w⟩:=jak (l:=p) (i:=0) (by omega);have o:idx p 0=some e:=ixs (i:=0) w;obtain⟨r,F,D⟩:=ygs hB e;rcases D with⟨rfl,C⟩|⟨i,k,b,rfl,hi,z⟩
 ·have:¬IsP B p:=fun h=>by
   obtain⟨b,hb,I⟩:=ynj h;exact C b hb (I e (bT w))
  have x:decide ((-1:Int)<0)=true:=by decide
  simp only[G,bW,if_false,o,bF,F,x,if_true,this,decide_false]
 ·have J:=hB.2 b (bT hi);have K:=fK z;have M:w64 ((k:Int)+(p.length:Int))=((k+p.length:Nat):Int):=by rw[jaj (by omega)];omega
  have A:decide ((i:Int)<0)=false:=by rw[decide_eq_false_iff_not];omega
  simp only[G,bW,if_false,o,bF,F,A,jal,hi,M];by_cases u:k+p.length<=b.length
  ·have hd:decide ((b.length:Int)<((k+p.length:Nat):Int))=false:=by rw[decide_eq_false_iff_not];omega
   have y:chk ((0:Int)<=(k:Int)/\ (k:Int)<=((k+p.length:Nat):Int)/\ ((k+p.length:Nat):Int)<=(b.length:Int))=some ():=ja9 (by omega);simp only[hd,bW,if_false,y,bF,gI];rw[Ej (by rw[gY,eF];omega) (by rw[gY,eF];omega)];simp only[bF];refine congrArg some (decide_eq_decide.2 ⟨fun h=>⟨h0,i,k,b,hi,u,h⟩,fun⟨_,i',k',H,a,g,v⟩=>?_⟩);have m:=ykm a g v (j:=0) (by omega);rw[w,lN]at m;obtain⟨rfl,rfl⟩:=E _ _ _ _ _ _ _ _ a m hi z rfl;rw[hi]at a;cases a;exact v
  ·have hd:decide ((b.length:Int)<((k+p.length:Nat):Int))=true:=by rw[decide_eq_true_eq];omega
   have:¬IsP B p:=fun⟨_,i',k',H,a,g,v⟩=>by
    have m:=ykm a g v (j:=0) (by omega);rw[w,lN]at m;obtain⟨rfl,rfl⟩:=E _ _ _ _ _ _ _ _ a m hi z rfl;rw[hi]at a;cases a;exact u g
   simp only[hd,if_true,this,decide_false]
def yb0(r:cB):Prop:=(0<=r.iU/\ r.iU<=900)/\ (0<=r.iV/\ r.iV<=900)/\ (0<=r.jV/\ r.jV<=900)/\ (0<=r.jM/\ r.jM<=900)/\ (0<=r.jd/\ r.jd<=900)/\ (0<=r.kP/\ r.kP<=900)
noncomputable instance(r:cB):Decidable (yb0 r):=Classical.propDecidable _
theorem Li(r:cB):zq9 r=some (decide (yb0 r)):=by
 unfold zq9;have hP:yb0 r↔∀x∈([r.iU,r.iV,r.jV,r.jM,r.jd,r.kP]:List Int),0<=x/\ x<=900:=by
  unfold yb0;simp only[dY,kI,or_false,forall_eq_or_imp,forall_eq]
 have b:([r.iU,r.iV,r.jV,r.jM,r.jd,r.kP]:List Int).length=6:=rfl;generalize hL:([r.iU,r.iV,r.jV,r.jM,r.jd,r.kP]:List Int)=L at hP b;refine je8 (.iter (fun m v=>∃i:Nat,v=(i:Int)/\ m+i=6/\ ∀x∈L.take i,0<=x/\ x<=900) (n:=6) ⟨0,rfl,rfl,by simp⟩ ?_);rintro m v ⟨i,rfl,j,h⟩;unfold yq9;rw[hL];refine .iteP (fun hc=>?_) (fun hc=>.dn (.inl ⟨rfl,hP.2 (by rw[iw (by omega)]at h;exact h)⟩));obtain⟨x,a⟩:=jak (l:=L) (i:=i) (by omega);refine .chk (by omega) (.eq (ixs a) (.eq (ybf _ _ _) (.iteN (fun e=>.dn (.inr ⟨rfl,fun hR=>e (hP.1 hR x (bT a))⟩)) (fun g=>.nx ⟨m-1,by omega,i+1,jai (by omega),by omega,fun y hy=>?_⟩))));rw[jap a]at hy;rcases fA.1 hy with hy|hy
 ·exact h y hy
 ·rw[iR.1 hy];exact g
theorem Lj(r:cB):zq79 r=some (decide (yb0 r)):=by
 have j:∀x,zq75 x=some (decide (0<=x/\ x<=900)):=fun x=>by unfold zq75;rw[ybv];rfl
 unfold zq79 yb0;simp only[j,bF];by_cases a:0<=r.iU/\ r.iU<=900<;>by_cases b:0<=r.iV/\ r.iV<=900<;>by_cases e:0<=r.jV/\ r.jV<=900<;>by_cases g:0<=r.jM/\ r.jM<=900<;>by_cases h:0<=r.jd/\ r.jd<=900<;>by_cases i:0<=r.kP/\ r.kP<=900<;>simp[a,b,e,g,h,i]
theorem ygr(hb:TB t)(g:FB f)(hB:BB B)(r:cB):∃v,zq14 t f B r=some v/\ zq69 t f B r=some v/\ (v=true->AskF t f/\ ybk t f B/\ yb0 r):=by
 obtain⟨v,a,b,e⟩:=yj5 hb g hB;unfold zq14 zq69;rw[a,b,Li,Lj];cases v with
 |false=>exact⟨false,rfl,rfl,nofun⟩
 |true=>
  obtain⟨hA,hP⟩:=e rfl;refine⟨decide (yb0 r),rfl,rfl,fun h=>⟨hA,hP,of_decide_eq_true h⟩⟩
noncomputable def pS(t:bA)(p:List Int):Int:=(tr t (p.getD 0 0)).d9
noncomputable def pE(t:bA)(p:List Int):Int:=ev t (tr t (p.getD (p.length-1) 0))
noncomputable def gap(t:bA)(f:bL)(a b:List Int):Int:=w64 (w64 (pS t b-pE t a)-dv t f (tr t (a.getD (a.length-1) 0)) (tr t (b.getD 0 0)))
def Trs(t:bA)(p:List Int):Prop:=p≠[]/\ p.length<=3000/\ ∀e∈p,0<=tix t e
theorem Lm(hT:∀b∈B,∀e∈b,0<=tix t e){p:List Int}(h:IsP B p)(i:p.length<=3000):Trs t p:=by
 obtain⟨b,hb,a⟩:=ynj h;exact⟨h.1,i,fun e g=>hT b hb e (a e g)⟩
theorem ybp{p:List Int}(h:Trs t p):∃a z,p[0]? =some a/\ p[p.length-1]? =some z/\ 0<=tix t a/\ 0<=tix t z/\ w64 ((p.length:Int)-1)=((p.length-1:Nat):Int)/\ p.getD 0 0=a/\ p.getD (p.length-1) 0=z:=by
 have j:p.length≠0:=fun g=>h.1 (kK.1 g);obtain⟨a,b⟩:=jak (l:=p) (i:=0) (by omega);obtain⟨z,e⟩:=jak (l:=p) (i:=p.length-1) (by omega);refine⟨a,z,b,e,h.2.2 a (bT b),h.2.2 z (bT e),?_,ykp b,ykp e⟩;have:=h.2.1;rw[jaj (by omega)];omega
theorem yqu(hb:TB t)(hA:AskF t f){p:List Int}(h:Trs t p):zq50 t p=some ⟨pS t p,pE t p⟩:=by
 obtain⟨a,z,k,m,o,e,l,g,j⟩:=ybp h;have b:idx p 0=some a:=ixs (i:=0) k;unfold zq50 pS pE;simp only[b,bF,yqt hb o,l,jal,m,yqt hb e,(yja hA e).2.2.1,g,j]
theorem yj8(hb:TB t){p:List Int}(h:Trs t p):zq80 t p=some (pS t p):=by
 obtain⟨a,z,g,m,j,o,l,e,k⟩:=ybp h;have b:idx p 0=some a:=ixs (i:=0) g;unfold zq80 pS;simp only[b,bF,yc9 hb,yfz j,e]
theorem endS(hb:TB t)(hA:AskF t f){p:List Int}(h:Trs t p):zq72 t p=some (pE t p):=by
 obtain⟨a,z,k,g,l,i,e,j,b⟩:=ybp h;unfold zq72 pE;simp only[e,jal,g,bF,yc9 hb,(yja hA i).2.2.2,b]
theorem gapS(hb:TB t)(hA:AskF t f){a b:List Int}(h:Trs t a)(e:Trs t b):zq73 t f a b=some (gap t f a b):=by
 obtain⟨_,z,_,m,_,p,l,_,k⟩:=ybp h;obtain⟨c,_,hc,_,o,_,_,j,_⟩:=ybp e;have g:idx b 0=some c:=ixs (i:=0) hc;unfold zq73 gap;simp only[yj8 hb e,endS hb hA h,bF,l,jal,m,g,yc9 hb,(yjc hA p o).2.2,k,j]
noncomputable def gaps(t:bA)(f:bL)(d:List (List Int)):List Int:=(List.range (d.length-1)).map fun v=>gap t f (d.getD v []) (d.getD (v+1) [])
theorem yq1{d:List (List Int)}{k:Nat}{p:List Int}(h:d[k]? =some p):d.getD k []=p:=by rw[dD,h];rfl
theorem AU(hb:TB t)(hA:AskF t f){d:List (List Int)}(M:d.length<=4)(hd:∀p∈d,Trs t p):zq31 t f d=some (gaps t f d):=by
 unfold zq31;refine Tot.val (.call (P:=fun o=>o=gaps t f d) ?_ fun o j=>.ok j);refine .iter (fun m (s:Int×List Int)=>∃v:Nat,s.1=((v+1:Nat):Int)/\ m+v=d.length/\ s.2.length<=v/\ (v<=d.length-1->s.2=(List.range v).map fun v=>gap t f (d.getD v []) (d.getD (v+1) []))/\ (d.length<=v->s.2=gaps t f d)) (n:=d.length) ⟨0,rfl,rfl,by simp,fun _=>rfl,fun h=>?_⟩ ?_
 ·have:d=[]:=kK.1 (by omega);subst this;rfl
 rintro m ⟨O,o⟩ ⟨v,D,N,x,j,E⟩;simp only at D x j E;subst D;unfold ylt;refine .iteP (fun hc=>?_) (fun hc=>.dn ?_)
 ·obtain⟨a,k⟩:=jak (l:=d) (i:=v) (by omega);obtain⟨b,e⟩:=jak (l:=d) (i:=v+1) (by omega);have F:=hd a (bT k);have tb:=hd b (bT e);obtain⟨_,z,_,C,_,H,K,_,J⟩:=ybp F;obtain⟨c,_,w,_,G,_,_,I,_⟩:=ybp tb;have A:w64 (((v+1:Nat):Int)-1)=(v:Int):=by rw[jaj (by omega)];omega
  have u:idx b 0=some c:=ixs (i:=0) w;have g:w64 (w64 (pS t b-pE t a)-dv t f (tr t z) (tr t c))=gap t f a b:=by unfold gap;rw[J,I]
  rw[A];refine .eq (ixs k) (.eq (ixs e) (.eq (yqu hb hA tb) (.eq (yqu hb hA F) ?_)));rw[K];refine .eq (ixs C) (.eq (yqt hb H) (.eq u (.eq (yqt hb G) (.eq (yjc hA H G).2.1 (.chk (by simp;omega) (.nx ⟨m-1,by omega,v+1,jai (by omega),by omega,?_,fun y=>?_,fun y=>by omega⟩))))))
  ·simp only[gu,lQ];omega
  ·show o++[w64 (w64 (pS t b-pE t a)-dv t f (tr t z) (tr t c))]=_;rw[g,j (by omega),List.range_succ,oD,List.map_singleton,yq1 k,yq1 e]
 ·rcases jC v d.length with h|h
  ·have y:v=d.length-1:=by omega
   show o=_;rw[j (by omega),y];rfl
  ·exact E h
theorem yqy(hb:TB t)(hA:AskF t f)(r:cB){d:List (List Int)}(m:1<=d.length/\ d.length<=4)(hd:∀p∈d,Trs t p):∃n,zq42 t r ⟨d⟩=some n/\ zq74 t r ⟨d⟩=some n:=by
 obtain⟨a,g⟩:=jak (l:=d) (i:=0) (by omega);obtain⟨z,e⟩:=jak (l:=d) (i:=d.length-1) (by omega);have j:=hd a (bT g);have k:=hd z (bT e);have h:w64 ((d.length:Int)-1)=((d.length-1:Nat):Int):=by rw[jaj (by omega)];omega
 have b:idx d 0=some a:=ixs (i:=0) g;refine⟨w64 (w64 (w64 (r.iU+pE t z)-pS t a)+r.iV),?_,?_⟩
 ·unfold zq42;simp only[h,jal,e,bF,yqu hb hA k,b,yqu hb hA j]
 ·unfold zq74;simp only[h,jal,e,bF,endS hb hA k,b,yj8 hb j]
end
theorem LK{l c:List Int}(hs:l.Pairwise (· <= ·))(hc:comM l=some c):c.length<l.length↔¬l.Nodup:=by
 unfold comM at hc;cases hc;have a:∀{j:Nat}{x:Int},l[j]? =some x->l.toArray[j]! =x:=fun{j x} h=>by rw[getElem!_def,uh,h]
 have k:(Lib.compactUpTo l.toArray l.length).length=((List.range l.length).filter (Lib.keeps l.toArray)).length:=by unfold Lib.compactUpTo;rw[iy]
 have u:((List.range l.length).filter (Lib.keeps l.toArray)).length<=l.length:=pz (List.length_filter_le ..) (by simp);have g:((List.range l.length).filter (Lib.keeps l.toArray)).length=l.length↔∀j,j<l.length->Lib.keeps l.toArray j=true:=by
  have h:=List.length_filter_eq_length_iff (p:=Lib.keeps l.toArray) (l:=List.range l.length);rw[mo]at h;rw[h];exact⟨fun h j b=>h j (jo.2 b),fun h j b=>h j (jo.1 b)⟩
 have o:(∀j,j<l.length->Lib.keeps l.toArray j=true)↔l.Nodup:=by
  constructor
  ·intro h;rw[List.Nodup,Au];intro i j hi b m v;have h1:=h j b;unfold Lib.keeps at h1;rw[decide_eq_true_eq]at h1;rcases h1 with h1|h1
   ·omega
   ·have q1:=fO b;have e:=fO (l:=l) (i:=j-1) (by omega);rw[a q1,a e]at h1;have w:l[j-1]<=l[j]:=pwG hs (by omega:j-1<j) e q1;have y:l[i]<=l[j-1]:=by
     rcases jC i (j-1)with h|h
     ·exact pwG hs h (fO hi) e
     ·have:i=j-1:=by omega
      subst this;exact kR _
    omega
  ·intro h j b;unfold Lib.keeps;rw[decide_eq_true_eq];by_cases h0:j=0
   ·exact .inl h0
   ·right;have q1:=fO b;have e:=fO (l:=l) (i:=j-1) (by omega);rw[a q1,a e];exact(pwG h (by omega:j-1<j) e q1).symm
 rw[k,<-o,<-g];omega
def ybq(B d:List (List Int)):Prop:=(1<=d.length/\ d.length<=3)/\ (∀p∈d,IsP B p)/\ d.flatten.Nodup
noncomputable instance(B d:List (List Int)):Decidable (ybq B d):=Classical.propDecidable _
theorem ye9:∀{d:List (List Int)},(∀p∈d,p.length<=3000)->d.flatten.length<=3000*d.length
 |[],_=>by simp
 |p::d,h=>by
  have b:=ye9 (d:=d) fun q a=>h q (dZ _ a);have e:=h p (dU ..);rw[vU,gu,gZ];omega
section
variable{t:bA}{f:bL}{B:List (List Int)}{r:cB}{d:List (List Int)}
theorem K9(w:InjB t B)(hB:BB B)(hT:∀b∈B,∀e∈b,0<=tix t e)(C:d.length<=4)(u:∀p∈d,p.length<=3000):Tot (iter (yhs B ⟨d⟩) ((0:Int),([]:List Int))) fun b=>(b=.go d.flatten/\ ∀p∈d,IsP B p) \/(b=.ret 1/\ ¬∀p∈d,IsP B p):=by
 refine .iter (fun m (s:Int×List Int)=>∃v:Nat,s.1=(v:Int)/\ m+v=d.length/\ s.2=(d.take v).flatten/\ ∀p∈d.take v,IsP B p) (n:=d.length) ⟨0,rfl,rfl,by simp,by simp⟩ ?_;rintro m ⟨E,s⟩ ⟨v,k,D,o,hP⟩;simp only at k o;subst k o;unfold yhs;dsimp only
 refine .iteP (fun hc=>?_) (fun hc=>.dn (.inl ?_))
 ·obtain⟨p,a⟩:=jak (l:=d) (i:=v) (by omega);have g:=bT a;have j:=u p g;have x:=ye9 (d:=d.take v) fun q hq=>u q (rE hq);have z:(d.take v).length<=v:=by rw[eF];omega
  refine .eq (ixs a) (.eq (Lf w hB hT j) (.iteN (fun y=>.dn (.inr ⟨rfl,fun h=>y (h p g)⟩)) (fun A=>.chk (by omega) (.nx ⟨m-1,by omega,v+1,jai (by omega),by omega,?_,fun q hq=>?_⟩))))
  ·rw[jap a,nJ];simp
  ·rw[jap a]at hq;rcases fA.1 hq with hq|hq
   ·exact hP q hq
   ·rw[iR.1 hq];exact A
 ·rw[iw (by omega)]at hP ⊢;exact⟨rfl,hP⟩
theorem Kg(N:InjB t B)(hB:BB B)(hT:∀b∈B,∀e∈b,0<=tix t e)(V:d.length<=4)(I:∀p∈d,p.length<=3000):zq78 B ⟨d⟩=some (decide (ybq B d)):=by
 have inner:∀(v:Nat) p (k:List Int),d[v]? =some p->k.length<=90000->k.Nodup->Tot (iter (yg7 ⟨d⟩ (v:Int)) ((0:Int),k)) fun x=>(x=.go (k++p)/\ (k++p).Nodup) \/(x=.ret (.dn (.ret false))/\ ¬(k++p).Nodup):=fun v p k H R Q=>by
  have z:=I p (bT H);refine .iter (fun m (s:Int×List Int)=>∃j:Nat,s.1=(j:Int)/\ m+j=p.length/\ s.2=k++p.take j/\ s.2.Nodup) (n:=p.length) ⟨0,rfl,rfl,by simp,Q⟩ ?_;rintro m ⟨j',s⟩ ⟨j,w,S,y,hN⟩;simp only at w y hN;subst w y;unfold yg7;dsimp only
  refine .eq (ixs H) (.iteP (fun hc=>?_) (fun hc=>.dn (.inl ?_)))
  ·obtain⟨e,G⟩:=jak (l:=p) (i:=j) (by omega);have J:(k++p.take j).length<=93000:=by rw[gu,eF];omega
   have C:k++p=(k++p.take (j+1))++p.drop (j+1):=by rw[eU,l9]
   refine .eq (ixs H) (.eq (ixs G) ?_);by_cases o:e∈k++p.take j
   ·have u:yfw (k++p.take j) e=some true:=by
     rw[ydc (k++p.take j) (by omega) e];simp[o]
    refine .eq u (.dn (.inr ⟨rfl,fun h=>?_⟩));rw[C]at h;have E:=(kJ.1 h).1;rw[jap G,<-eU]at E;exact(kJ.1 E).2.2 e o e (iR.2 rfl) rfl
   ·have u:yfw (k++p.take j) e=some false:=by
     rw[ydc (k++p.take j) (by omega) e];simp only[o,decide_false]
    refine .eq u (.eq (ixs H) (.eq (ixs G) (.chk (by rw[lQ];omega) (.nx ⟨m-1,by omega,j+1,jai (by omega),by omega,?_,?_⟩))))
    ·rw[jap G,eU]
    ·refine kJ.2 ⟨hN,by simp,fun a O c hc=>?_⟩;rw[iR.1 hc];intro h;exact o (h▸O)
  ·rw[iw (by omega)]at hN ⊢;exact⟨rfl,hN⟩
 have outer:Tot (iter (yg6 B ⟨d⟩) ((0:Int),([]:List Int))) fun x=>(x=.go ()/\ (∀p∈d,IsP B p)/\ d.flatten.Nodup) \/(x=.ret false/\ ¬((∀p∈d,IsP B p)/\ d.flatten.Nodup)):=by
  refine .iter (fun m (s:Int×List Int)=>∃v:Nat,s.1=(v:Int)/\ m+v=d.length/\ s.2=(d.take v).flatten/\ s.2.Nodup/\ ∀p∈d.take v,IsP B p) (n:=d.length) ⟨0,rfl,rfl,by simp,by simp,by simp⟩ ?_;rintro m ⟨W,s⟩ ⟨v,w,S,y,hN,hP⟩;simp only at w y hN;subst w y;unfold yg6;dsimp only
  refine .iteP (fun hc=>?_) (fun hc=>.dn (.inl ?_))
  ·obtain⟨p,g⟩:=jak (l:=d) (i:=v) (by omega);have A:=bT g;have z:=I p A;have P:=ye9 (d:=d.take v) fun q hq=>I q (rE hq);have J:(d.take v).length<=v:=by rw[eF];omega
   refine .eq (ixs g) (.eq (Lg N hB hT z) (.iteN (fun T=>.dn (.inr ⟨rfl,fun h=>T (h.1 p A)⟩)) (fun U=>?_)));obtain⟨x,K,M⟩:=inner v p (d.take v).flatten g (by omega) hN;have D:(d.take (v+1)).flatten=(d.take v).flatten++p:=by rw[jap g,nJ];simp
   rw[K];rcases M with⟨rfl,h⟩|⟨rfl,h⟩
   ·refine .nx ⟨m-1,by omega,v+1,jai (by omega),by omega,D.symm,h,fun q hq=>?_⟩;rw[jap g]at hq;rcases fA.1 hq with hq|hq
    ·exact hP q hq
    ·rw[iR.1 hq];exact U
   ·refine .dn (.inr ⟨rfl,fun u=>h ?_⟩);have F:=u.2;rw[<-l9 (v+1) d,nJ,D]at F;exact(kJ.1 F).1
  ·rw[iw (by omega)]at hP hN;exact⟨rfl,hP,hN⟩
 unfold zq78;obtain⟨x,K,h⟩:=outer;rw[K];rcases h with⟨rfl,E,F⟩|⟨rfl,h⟩
 ·simp only[jco,ybv,bF];refine congrArg some (decide_eq_decide.2 ⟨fun h=>⟨by omega,E,F⟩,fun h=>by have:=h.1;omega⟩)
 ·have:¬ybq B d:=fun u=>h ⟨u.2.1,u.2.2⟩;simp[this]
def ykt(t:bA)(r:cB)(d:List (List Int)):Prop:=∀p∈d,¬r.jV<w64 (pE t p-pS t p)
def GapP(t:bA)(f:bL)(r:cB)(d:List (List Int)):Prop:=∀g∈gaps t f d,¬g<r.jM
theorem ydh{X:Type}(l:List X)(k:l.length<=100000)(ok:X->Prop)[DecidablePred ok]{R:Type}(rv:R){step:Int->Option (Lp Int (Fl R Unit))}(a:Nat)(hs:∀(i:Nat) x,l[i]? =some x->step ((i+a:Nat):Int)=if ok x then some (.nx (w64 (((i+a:Nat):Int)+1)))else some (.dn (.ret rv)))(j:∀i:Nat,l.length<=i->step ((i+a:Nat):Int)=some (.dn (.go ())))(p:a<=1):Tot (iter step (a:Int)) fun b=>(b=.go ()/\ ∀x∈l,ok x) \/(b=.ret rv/\ ¬∀x∈l,ok x):=by
 refine .iter (fun m v=>∃i:Nat,v=((i+a:Nat):Int)/\ m+i=l.length/\ ∀x∈l.take i,ok x) (n:=l.length) ⟨0,by simp,rfl,by simp⟩ ?_;rintro m v ⟨i,rfl,o,hP⟩;by_cases hi:i<l.length
 ·obtain⟨x,g⟩:=jak hi;rw[hs i x g];by_cases e:ok x
  ·rw[if_pos e];refine .nx ⟨m-1,by omega,i+1,?_,by omega,fun y hy=>?_⟩
   ·rw[jaj (by omega)];omega
   ·rw[jap g]at hy;rcases fA.1 hy with hy|hy
    ·exact hP y hy
    ·rw[iR.1 hy];exact e
  ·rw[if_neg e];exact .dn (.inr ⟨rfl,fun h=>e (h x (bT g))⟩)
 ·rw[j i (by omega)];rw[iw (by omega)]at hP;exact .dn (.inl ⟨rfl,hP⟩)
theorem Lc(hb:TB t)(hA:AskF t f)(k:d.length<=4)(hd:∀p∈d,Trs t p):Tot (iter (ydp t r ⟨d⟩) (0:Int)) fun b=>(b=.go ()/\ ykt t r d) \/(b=.ret 2/\ ¬ykt t r d):=by
 refine ydh d (by omega) (fun p=>¬r.jV<w64 (pE t p-pS t p)) (2:Int) 0 (fun i p j=>?_) (fun i hi=>?_) (by omega)
 ·have a:decide (((i+0:Nat):Int)<(d.length:Int))=true:=by have:=fK j;rw[decide_eq_true_eq];omega
  have g:=yqu hb hA (hd p (bT j));have e:idx d ((i+0:Nat):Int)=some p:=ixs j;by_cases h:r.jV<w64 (pE t p-pS t p)
  ·simp only[ydp,a,if_true,e,bF,g,h,decide_true,not_true,if_false]
  ·simp only[ydp,a,if_true,e,bF,g,h,decide_false,bW,if_false,not_false_eq_true]
 ·have a:decide (((i+0:Nat):Int)<(d.length:Int))=false:=by rw[decide_eq_false_iff_not];omega
  simp only[ydp,a,bW,if_false]
theorem Ld(hb:TB t)(hA:AskF t f)(k:d.length<=4)(hd:∀p∈d,Trs t p):Tot (iter (ydm t r ⟨d⟩) (0:Int)) fun b=>(b=.go ()/\ ykt t r d) \/(b=.ret 2/\ ¬ykt t r d):=by
 refine ydh d (by omega) (fun p=>¬r.jV<w64 (pE t p-pS t p)) (2:Int) 0 (fun i p j=>?_) (fun i hi=>?_) (by omega)
 ·have a:decide (((i+0:Nat):Int)<(d.length:Int))=true:=by have:=fK j;rw[decide_eq_true_eq];omega
  have g:=hd p (bT j);have e:idx d ((i+0:Nat):Int)=some p:=ixs j;by_cases h:r.jV<w64 (pE t p-pS t p)
  ·simp only[ydm,a,if_true,e,bF,endS hb hA g,yj8 hb g,h,decide_true,not_true,if_false]
  ·simp only[ydm,a,if_true,e,bF,endS hb hA g,yj8 hb g,h,decide_false,bW,if_false,not_false_eq_true]
 ·have a:decide (((i+0:Nat):Int)<(d.length:Int))=false:=by rw[decide_eq_false_iff_not];omega
  simp only[ydm,a,bW,if_false]
theorem yi8(t:bA)(f:bL)(d:List (List Int)):(gaps t f d).length=d.length-1:=by unfold gaps;rw[iy,mo]
theorem gapI(l:d.length<=4):Tot (iter (ydo r (gaps t f d)) (0:Int)) fun b=>(b=.go ()/\ GapP t f r d) \/(b=.ret 3/\ ¬GapP t f r d):=by
 have k:=yi8 t f d;refine ydh (gaps t f d) (by omega) (fun g=>¬g<r.jM) (3:Int) 0 (fun i g j=>?_) (fun i hi=>?_) (by omega)
 ·have a:decide (((i+0:Nat):Int)<((gaps t f d).length:Int))=true:=by have:=fK j;rw[decide_eq_true_eq];omega
  have e:idx (gaps t f d) ((i+0:Nat):Int)=some g:=ixs j;by_cases h:g<r.jM
  ·simp only[ydo,a,if_true,e,bF,h,decide_true,not_true,if_false]
  ·simp only[ydo,a,if_true,e,bF,h,decide_false,bW,if_false,not_false_eq_true]
 ·have a:decide (((i+0:Nat):Int)<((gaps t f d).length:Int))=false:=by rw[decide_eq_false_iff_not];omega
  simp only[ydo,a,bW,if_false]
theorem K4(hb:TB t)(hA:AskF t f)(z:d.length<=4)(hd:∀p∈d,Trs t p):Tot (iter (ydl t f r ⟨d⟩) (1:Int)) fun b=>(b=.go ()/\ GapP t f r d) \/(b=.ret 3/\ ¬GapP t f r d):=by
 have y:=yi8 t f d;refine ydh (gaps t f d) (by omega) (fun g=>¬g<r.jM) (3:Int) 1 (fun i g u=>?_) (fun i hi=>?_) (by omega)
 ·have hi:=fK u;have e:decide (((i+1:Nat):Int)<(d.length:Int))=true:=by rw[decide_eq_true_eq];omega
  obtain⟨a,v⟩:=jak (l:=d) (i:=i) (by omega);obtain⟨b,j⟩:=jak (l:=d) (i:=i+1) (by omega);have w:g=gap t f a b:=by
   unfold gaps at u;rw[lu,pI (by omega)]at u;have:=gT u;rw[<-this];show gap t f (d.getD i []) (d.getD (i+1) [])=_;rw[yq1 v,yq1 j]
  have x:w64 (((i+1:Nat):Int)-1)=(i:Int):=by rw[jaj (by omega)];omega
  have k:=gapS hb hA (hd a (bT v)) (hd b (bT j));rw[<-w]at k;have m:idx d (i:Int)=some a:=ixs v;have o:idx d ((i+1:Nat):Int)=some b:=ixs j;by_cases h:g<r.jM
  ·simp only[ydl,e,if_true,x,m,o,bF,k,h,decide_true,not_true,if_false]
  ·simp only[ydl,e,if_true,x,m,o,bF,k,h,decide_false,bW,if_false,not_false_eq_true]
 ·have e:decide (((i+1:Nat):Int)<(d.length:Int))=false:=by rw[decide_eq_false_iff_not];omega
  simp only[ydl,e,bW,if_false]
theorem yf9(hb:TB t)(hA:AskF t f)(hP:ybk t f B)(hB:BB B)(o:d.length<=4)(K:∀p∈d,p.length<=3000)(S:d.flatten.length<=srtN):∃v,zq16 t f B r ⟨d⟩=some v/\ zq71 t f B r ⟨d⟩=some v/\ (v=0->ybq B d/\ (∀p∈d,Trs t p)/\ GapP t f r d/\ ∃n,zq42 t r ⟨d⟩=some n/\ ¬r.kP<n):=by
 have V:=LU hP.2.1;have hT:=fun b h=>(hP.1 b h).2.1;have hS:=Kg (d:=d) V hB hT o K;unfold zq16 zq71;rw[hS,ybf];by_cases w:(1:Int)<=(d.length:Int)/\ (d.length:Int)<=3
 ·obtain⟨x,hx,U⟩:=K9 (d:=d) V hB hT o K;simp only[w,and_self,decide_true,fT,bW,if_false,bF,hx];rcases U with⟨rfl,g⟩|⟨rfl,Q⟩
  ·have X:=ye9 K;obtain⟨s,hs,J,T⟩:=ywk d.flatten S;have Z:=J.length_eq;have O:chk (([]:List Int).length+s.length<=4294967296)=some ():=ja9 (by rw[mq];omega);obtain⟨p0,R⟩:=jak (l:=d) (i:=0) (by omega);have Y:s.length≠0:=by
    have u:=bT R;have W:=(g p0 u).1;cases hc:p0 with
    |nil=>exact absurd hc W
    |cons a q=>
     have:a∈d.flatten:=mh.2 ⟨p0,u,by rw[hc];exact dU ..⟩;have:=List.length_pos_of_mem this;omega
   obtain⟨c,hc⟩:∃c,comM s=some c:=⟨_,rfl⟩;have G:=LK T hc;have H:s.Nodup↔d.flatten.Nodup:=J.nodup_iff;have P:Bc s=some c:=hc;have m:yh2 s=some s:=by unfold yh2;rw[O];rfl
   simp only[jco,hs,bF,m,P];by_cases hN:d.flatten.Nodup
   ·have e:ybq B d:=⟨by omega,g,hN⟩;have y:¬(c.length:Int)<(s.length:Int):=fun h=>(G.1 (by omega)) (H.2 hN);have hd:∀p∈d,Trs t p:=fun p I=>Lm hT (g p I) (K p I);obtain⟨a1,M,C⟩:=Lc (r:=r) hb hA o hd;obtain⟨b1,N,E⟩:=Ld (r:=r) hb hA o hd;obtain⟨a3,j,D⟩:=gapI (t:=t) (f:=f) (r:=r) o;obtain⟨b3,k,F⟩:=K4 (r:=r) hb hA o hd;obtain⟨n,n1,n2⟩:=yqy hb hA r (d:=d) ⟨by omega,o⟩ hd;simp only[e,decide_true,fT,bW,if_false,y,decide_false,M,N,AU hb hA o hd,j,k];by_cases hD:ykt t r d
    ·rcases C with⟨rfl,_⟩|⟨_,h⟩
     ·rcases E with⟨rfl,_⟩|⟨_,h⟩
      ·simp only[jco,bF,j,k,AU hb hA o hd];by_cases z:GapP t f r d
       ·rcases D with⟨rfl,_⟩|⟨_,h⟩
        ·rcases F with⟨rfl,_⟩|⟨_,h⟩
         ·simp only[jco,n1,n2,bF];by_cases A:r.kP<n
          ·exact⟨4,by simp[A,j],by simp[A,k],nofun⟩
          ·exact⟨0,by simp[A,j],by simp[A,k],fun _=>⟨trivial,hd,z,n,rfl,A⟩⟩
         ·exact absurd z h
        ·exact absurd z h
       ·rcases D with⟨_,h⟩|⟨rfl,_⟩
        ·exact absurd h z
        ·rcases F with⟨_,h⟩|⟨rfl,_⟩
         ·exact absurd h z
         ·exact⟨3,rfl,rfl,nofun⟩
      ·exact absurd hD h
     ·exact absurd hD h
    ·rcases C with⟨_,h⟩|⟨rfl,_⟩
     ·exact absurd h hD
     ·rcases E with⟨_,h⟩|⟨rfl,_⟩
      ·exact absurd h hD
      ·exact⟨2,rfl,rfl,nofun⟩
   ·have e:¬ybq B d:=fun h=>hN h.2.2;have y:(c.length:Int)<(s.length:Int):=by
     have:=G.2 fun h=>hN (H.1 h);omega
    simp only[e,decide_false,kS,if_true,y,decide_true];exact⟨1,rfl,rfl,nofun⟩
  ·have e:¬ybq B d:=fun h=>Q h.2.1;simp only[e,decide_false,kS,if_true];exact⟨1,rfl,rfl,nofun⟩
 ·have e:¬ybq B d:=fun h=>w (by have:=h.1;omega);simp only[w,e,decide_false,kS,if_true,bF];exact⟨1,rfl,rfl,nofun⟩
end
theorem yq5{k:Nat}{c:bM}(h:Cur k c)(w:k<=100000000):Tot (yqn c) fun r=>Cur (k+20) r.2:=by
 unfold yqn;refine .call (yct 3 h (by omega)) fun r ⟨u,_⟩=>.call (yct 2 u (by omega)) fun x ⟨e,_⟩=>.call (yco _ (by simp) e (by omega)) fun y ⟨g,_⟩=>.call (yco _ (by simp) g (by omega)) fun z ⟨i,_⟩=>.call (yco _ (by simp) i (by omega)) fun A ⟨j,_⟩=>.call (yco _ (by simp) j (by omega)) fun C ⟨l,_⟩=>?_;exact .call (P:=fun o=>Cur (k+20) ⟨o.1,o.2.1,⟨o.2.2.1⟩⟩) (.call (yct 24 l (by omega)) fun D ⟨b,_⟩=>.ite (fun _=>.call (yco _ (by simp) b (by omega)) fun m ⟨a,_⟩=>.ok (a.mono (by omega))) fun _=>.ite (fun _=>.call (yco _ (by simp) b (by omega)) fun m ⟨a,_⟩=>.ok (a.mono (by omega))) fun _=>.ite (fun _=>.call (yco _ (by simp) b (by omega)) fun m ⟨a,_⟩=>.ok (a.mono (by omega))) fun _=>.ok (b.mono (by omega))) fun⟨v,E,F,G,H,I⟩ p=>.ok p
theorem Le(a b:Int):zq2 [a,b]=some (if a≠0 then a else b):=by
 have g:idx [a,b] 0=some a/\ idx [a,b] 1=some b:=⟨rfl,rfl⟩;have j:w64 1=1:=rfl;have k:w64 2=2:=rfl;unfold zq2;by_cases e:a=0
 ·have s1:ycd [a,b] 0=some (.nx 1):=by unfold ycd;dsimp only;rw[g.1];simp[e,j]
  by_cases hb:b=0
  ·have h:ycd [a,b] 1=some (.nx 2):=by unfold ycd;dsimp only;rw[g.2];simp[hb,k]
   have i:ycd [a,b] 2=some (.dn (.go ())):=by unfold ycd;simp
   rw[jgd s1,jgd h,je5 i];simp[e,hb]
  ·have h:ycd [a,b] 1=some (.dn (.ret b)):=by unfold ycd;dsimp only;rw[g.2];simp[hb]
   rw[jgd s1,je5 h];simp[e]
 ·have s1:ycd [a,b] 0=some (.dn (.ret a)):=by unfold ycd;dsimp only;rw[g.1];simp[e]
  rw[je5 s1];simp[e]
theorem ykc{a:Nat}(h:a<=12):w64 (1*2^(min (a:Int).toNat (IntKind.i64).bits))=((2^a:Nat):Int):=by
 have b:min ((a:Int)).toNat (IntKind.i64).bits=a:=by rw[gI];exact tV (by show a<=64;omega)
 rw[b];have g:2^a<=2^12:=pq (by omega) h;have e:(1:Int)*2^a=((2^a:Nat):Int):=by rw[Int.one_mul,Ed];rfl
 rw[e];generalize 2^a=p at g ⊢;exact jaj (by omega)
theorem ypr{n u:Nat}(a:n<=12)(b:u<2^n):u<4096:=kH b (pq (by omega) a:2^n<=2^12)
theorem ydt{n u a:Nat}(e:n<=12)(g:u<2^n)(h:a<n):IntKind.i64.wrap (((BitVec.ofInt (IntKind.i64).bits (u:Int)|||BitVec.ofInt (IntKind.i64).bits (w64 (1*2^(min (a:Int).toNat (IntKind.i64).bits)))).toNat:Nat):Int)=((u|||2^a:Nat):Int)/\ u|||2^a<2^n:=by
 have b:2^a<2^n:=xS (by omega) h;rw[ykc (by omega)];exact⟨or64 (ypr e g) (ypr e b),Ak g b⟩
theorem yb2{u a:Nat}(j:u<4096)(k:a<=12):IntKind.i64.wrap (((BitVec.ofInt (IntKind.i64).bits ((u:Int).fdiv (2^(min (a:Int).toNat (IntKind.i64).bits)))&&&BitVec.ofInt (IntKind.i64).bits 1).toNat:Nat):Int)=if u.testBit a=true then 1 else 0:=by
 have b:min ((a:Int)).toNat (IntKind.i64).bits=a:=by rw[gI];exact tV (by show a<=64;omega)
 rw[b];have e:(u:Int).fdiv (2^a)=((u/2^a:Nat):Int):=by
  have:(2:Int)^a=((2^a:Nat):Int):=by rw[Ed];rfl
  rw[this,Int.fdiv_eq_ediv_of_nonneg _ (Int.natCast_nonneg _)];rfl
 rw[e];have l:u/2^a<4096:=Nat.lt_of_le_of_lt (Nat.div_le_self _ _) j;have g:(BitVec.ofInt (IntKind.i64).bits ((u/2^a:Nat):Int)).toNat=u/2^a:=by
  rw[BitVec.ofInt_natCast,BitVec.toNat_ofNat];exact DX (by show u/2^a<2^64;omega)
 have i:(BitVec.ofInt (IntKind.i64).bits (1:Int)).toNat=1:=by kernel_rfl
 rw[BitVec.toNat_and,g,i,Nat.and_one_is_mod,Nat.testBit_eq_decide_div_mod_eq];rcases Nat.mod_two_eq_zero_or_one (u/2^a)with h|h
 ·rw[h];exact jaj (x:=0) (by omega)
 ·rw[h];exact jaj (x:=1) (by omega)
theorem ypx{β:Type}(z v:β)(k k':Int×Int):∀m:List ((Int×Int)×β),getL z k' (putL k v m)=if k=k' then(v,true)else getL z k' m
 |[]=>by
  unfold putL getL;by_cases h:k=k'<;>simp[h,getL]
 |(q,d)::m=>by
  unfold putL;by_cases a:q=k
  ·subst a;rw[if_pos rfl];simp only[getL];by_cases h:q=k'<;>simp[h]
  ·rw[if_neg a];simp only[getL];by_cases h:q=k'
   ·subst h;simp[Ne.symm a]
   ·simp only[if_neg h];exact ypx z v k k' m
theorem ybd{a:Nat}(h:a<=4096):IntKind.u64.wrap (a:Int)=(a:Int):=vW (by omega) (by show(a:Int)<(18446744073709551616:Int);omega)
theorem ywp(a b:Int):yj2 a b=some (if a<b then a else b):=by
 unfold yj2;by_cases h:a<b<;>simp[h]
namespace Ct
def sgl(s:Nat->Nat)(P:Nat->Bool):Nat->Nat
 |0=>0
 |m+1=>sgl s P m+if P m then 0 else s m
def add1(P:Nat->Bool)(i:Nat):Nat->Bool:=fun j=>P j||j==i
def add2(P:Nat->Bool)(i k:Nat):Nat->Bool:=fun j=>P j||j==i||j==k
def flt(m:List (Nat×Nat)):List Nat:=m.flatMap fun p=>[p.1,p.2]
def inM(P:Nat->Bool)(m:List (Nat×Nat)):Nat->Bool:=fun j=>P j||(flt m).contains j
def qs(q:Nat->Nat->Nat)(m:List (Nat×Nat)):Nat:=(m.map fun p=>q p.1 p.2).sum
def cm(n:Nat)(s:Nat->Nat)(q:Nat->Nat->Nat)(P:Nat->Bool)(m:List (Nat×Nat)):Nat:=qs q m+sgl s (inM P m) n
structure Mt(n:Nat)(q:Nat->Nat->Nat)(B:Nat)(i:Nat)(P:Nat->Bool)(m:List (Nat×Nat)):Prop where
 hd:∀p∈m,i<=p.1/\ p.1<n/\ p.2<n/\ P p.1=false/\ P p.2=false/\ q p.1 p.2<B
 nd:(flt m).Nodup
theorem sgl_add1{s:Nat->Nat}{P:Nat->Bool}{i:Nat}(hP:P i=false):∀{m:Nat},sgl s P m=sgl s (add1 P i) m+if i<m then s i else 0
 |0=>by simp[sgl]
 |m+1=>by
  unfold sgl;rw[sgl_add1 hP (m:=m)];by_cases h:m=i
  ·subst h;simp[add1,hP]
  ·have:add1 P i m=P m:=by simp[add1,h]
   rw[this];by_cases b:i<m
   ·have a:i<m+1:=by omega
    rw[if_pos b,if_pos a];omega
   ·have a:¬i<m+1:=by omega
    rw[if_neg b,if_neg a];omega
theorem ypz{m a:List (Nat×Nat)}(h:m.Perm a):(flt m).Perm (flt a):=h.flatMap_right _
theorem mem_flt{m:List (Nat×Nat)}{j:Nat}:j∈flt m↔∃p∈m,j=p.1 \/j=p.2:=by
 unfold flt;simp[rF]
theorem ypv{P:Nat->Bool}{m a:List (Nat×Nat)}(h:m.Perm a):inM P m=inM P a:=by
 funext j;unfold inM;congr 1;rw[Bool.eq_iff_iff,xX,xX];exact(ypz h).mem_iff
theorem ynp{n:Nat}{s:Nat->Nat}{q:Nat->Nat->Nat}{P:Nat->Bool}{m a:List (Nat×Nat)}(h:m.Perm a):cm n s q P m=cm n s q P a:=by
 unfold cm qs;rw[ypv h,(h.map _).sum_nat]
theorem yi6{P:Nat->Bool}{i k:Nat}{m:List (Nat×Nat)}:inM P ((i,k)::m)=inM (add2 P i k) m:=by
 funext j;unfold inM add2 flt;simp[Bool.or_assoc]
theorem ydx{n:Nat}{s:Nat->Nat}{q:Nat->Nat->Nat}{P:Nat->Bool}{i k:Nat}{m:List (Nat×Nat)}:cm n s q P ((i,k)::m)=q i k+cm n s q (add2 P i k) m:=by
 unfold cm;rw[yi6];simp[qs];omega
theorem Mt.perm{n:Nat}{q:Nat->Nat->Nat}{B i:Nat}{P:Nat->Bool}{m b:List (Nat×Nat)}(h:Mt n q B i P m)(a:m.Perm b):Mt n q B i P b:=
 ⟨fun p e=>h.hd p (a.mem_iff.2 e),(ypz a).nodup_iff.1 h.nd⟩
theorem Mt.tail{n:Nat}{q:Nat->Nat->Nat}{B i:Nat}{P:Nat->Bool}{a k:Nat}{m:List (Nat×Nat)}(h:Mt n q B i P ((a,k)::m)):Mt n q B i (add2 P a k) m:=by
 have b:=h.nd;have e:flt ((a,k)::m)=a::k::flt m:=rfl;rw[e,jW,jW]at b;refine⟨fun p l=>?_,b.2.2⟩;obtain⟨w,x,y,z,A,C⟩:=h.hd p (dZ _ l);have o:∀j,j=p.1 \/j=p.2->j≠a/\ j≠k:=fun j D=>by
  have g:j∈flt m:=mem_flt.2 ⟨p,l,D⟩;exact⟨fun e=>b.1 (e▸dZ _ g),fun e=>b.2.1 (e▸g)⟩
 have u:=o p.1 (.inl rfl);have v:=o p.2 (.inr rfl);exact⟨w,x,y,by simp[add2,z,u],by simp[add2,A,v],C⟩
theorem Mt.cons{n:Nat}{q:Nat->Nat->Nat}{B i:Nat}{P:Nat->Bool}{a k:Nat}{m:List (Nat×Nat)}(h:Mt n q B i (add2 P a k) m)(y:i<=a)(z:a<n)(A:k<n)(C:P a=false)(D:P k=false)(E:q a k<B)(F:a≠k):Mt n q B i P ((a,k)::m):=by
 have v:∀j,j∈flt m->j≠a/\ j≠k:=fun j l=>by
  obtain⟨p,hp,l⟩:=mem_flt.1 l;obtain⟨_,_,_,b,g,_⟩:=h.hd p hp;rcases l with rfl|rfl
  ·simp[add2]at b;exact⟨b.1.2,b.2⟩
  ·simp[add2]at g;exact⟨g.1.2,g.2⟩
 refine⟨fun p hp=>?_,?_⟩
 ·rcases dY.1 hp with rfl|hp
  ·exact⟨y,z,A,C,D,E⟩
  ·obtain⟨w,b,g,o,u,x⟩:=h.hd p hp;simp[add2]at o u;exact⟨w,b,g,o.1.1,u.1.1,x⟩
 ·show(a::k::flt m).Nodup;rw[jW,jW];refine⟨fun hm=>?_,fun hm=>(v k hm).2 rfl,h.nd⟩;rcases dY.1 hm with e|hm
  ·exact F e
  ·exact(v a hm).1 rfl
theorem Mt.heads{n:Nat}{q:Nat->Nat->Nat}{B i i':Nat}{P:Nat->Bool}{m:List (Nat×Nat)}(h:Mt n q B i P m)(b:∀p∈m,i'<=p.1):Mt n q B i' P m:=
 ⟨fun p a=>⟨b p a,(h.hd p a).2⟩,h.nd⟩
theorem Mt.front{n:Nat}{q:Nat->Nat->Nat}{B i:Nat}{P:Nat->Bool}{m:List (Nat×Nat)}{p:Nat×Nat}(h:Mt n q B i P m)(a:p∈m):∃b,m.Perm (p::b)/\ Mt n q B i P (p::b):=
 ⟨m.erase p,List.perm_cons_erase a,h.perm (List.perm_cons_erase a)⟩
def IsG(n:Nat)(s:Nat->Nat)(q:Nat->Nat->Nat)(B i:Nat)(P:Nat->Bool)(v:Nat):Prop:=
 (∃m,Mt n q B i P m/\ cm n s q P m=v)/\ ∀m,Mt n q B i P m->v<=cm n s q P m
theorem IsG.uniq{n:Nat}{s:Nat->Nat}{q:Nat->Nat->Nat}{B i:Nat}{P:Nat->Bool}{v w:Nat}(h:IsG n s q B i P v)(j:IsG n s q B i P w):v=w:=by
 obtain⟨⟨m,a,l⟩,b⟩:=h;obtain⟨⟨k,e,o⟩,g⟩:=j;have:=b k e;have:=g m a;omega
theorem isG_end{n:Nat}{s:Nat->Nat}{q:Nat->Nat->Nat}{B:Nat}{P:Nat->Bool}:IsG n s q B n P (sgl s P n):=by
 have e:cm n s q P []=sgl s P n:=by
  unfold cm qs;have:inM P []=P:=by funext j;simp[inM,flt]
  rw[this];simp
 refine⟨⟨[],⟨fun p b=>by simp at b,by simp[flt]⟩,e⟩,fun m a=>?_⟩;cases m with
 |nil=>rw[e];exact dQ _
 |cons p m=>have:=a.hd p (dU ..);omega
def IsK(n:Nat)(s:Nat->Nat)(q:Nat->Nat->Nat)(B i K:Nat)(P:Nat->Bool)(v:Nat):Prop:=
 (∃m,(Mt n q B i P m/\ ∀p∈m,p.1=i->p.2<K)/\ cm n s q P m=v)/\ ∀m,Mt n q B i P m->(∀p∈m,p.1=i->p.2<K)->v<=cm n s q P m
theorem isK_zero{n:Nat}{s:Nat->Nat}{q:Nat->Nat->Nat}{B i:Nat}{P:Nat->Bool}{v:Nat}(h:IsG n s q B (i+1) P v):IsK n s q B i 0 P v:=by
 obtain⟨⟨m,b,j⟩,k⟩:=h;refine⟨⟨m,⟨b.heads fun p a=>by have:=(b.hd p a).1;omega,fun p a e=>by have:=(b.hd p a).1;omega⟩,j⟩,fun m g l=>k m (g.heads fun p a=>?_)⟩;have:=(g.hd p a).1;rcases jC i p.1 with h|h
 ·exact h
 ·exact absurd (l p a (by omega)) (by omega)
theorem isK_end{n:Nat}{s:Nat->Nat}{q:Nat->Nat->Nat}{B i:Nat}{P:Nat->Bool}{v:Nat}(h:IsK n s q B i n P v):IsG n s q B i P v:=by
 obtain⟨⟨m,⟨b,_⟩,e⟩,g⟩:=h;exact⟨⟨m,b,e⟩,fun m a=>g m a fun p j _=>(a.hd p j).2.2.1⟩
theorem isK_skip{n:Nat}{s:Nat->Nat}{q:Nat->Nat->Nat}{B i K:Nat}{P:Nat->Bool}{v:Nat}(h:IsK n s q B i K P v)(hn:i=K \/P i=true \/P K=true \/B<=q i K):IsK n s q B i (K+1) P v:=by
 obtain⟨⟨m,⟨w,g⟩,x⟩,y⟩:=h;refine⟨⟨m,⟨w,fun p a e=>by have:=g p a e;omega⟩,x⟩,fun m b z=>y m b fun p a e=>?_⟩;have D:=z p a e;rcases jC p.2 K with h|h
 ·exact h
 ·exfalso;have j:p.2=K:=by omega
  obtain⟨_,_,_,k,l,u⟩:=b.hd p a;have A:=b.nd;rw[e]at k u;rw[j]at l u;rcases hn with hn|hn|hn|hn
  ·obtain⟨E,C,o⟩:=b.front a;have:=o.nd;obtain⟨F,G⟩:=p;simp only at e j;subst e;subst j;subst hn;simp[flt]at this
  ·rw[hn]at k;cases k
  ·rw[hn]at l;cases l
  ·omega
theorem isK_cand{n:Nat}{s:Nat->Nat}{q:Nat->Nat->Nat}{B i K:Nat}{P:Nat->Bool}{v w:Nat}(h:IsK n s q B i K P v)(hi:i<n)(hK:K<n)(h0:i≠K)(F:P i=false)(G:P K=false)(H:q i K<B)(J:IsG n s q B (i+1) (add2 P i K) w):IsK n s q B i (K+1) P (min v (q i K+w)):=by
 obtain⟨⟨m,⟨A,j⟩,Q⟩,C⟩:=h;obtain⟨⟨N,k,D⟩,E⟩:=J;constructor
 ·rcases Nat.le_total v (q i K+w)with hv|hv
  ·exact⟨m,⟨A,fun p hp e=>by have:=j p hp e;omega⟩,by omega⟩
  ·refine⟨(i,K)::N,⟨(k.heads (i':=i) fun p hp=>by have:=(k.hd p hp).1;omega).cons (dQ _) hi hK F G H h0,fun p hp e=>?_⟩,by rw[ydx,D];omega⟩;rcases dY.1 hp with rfl|hp
   ·exact Am _
   ·have:=(k.hd p hp).1;omega
 ·intro z x I;by_cases a:∃p∈z,p.1=i/\ p.2=K
  ·obtain⟨p,hp,u,b⟩:=a;obtain⟨M,o,l⟩:=x.front hp;obtain⟨O,R⟩:=p;simp only at u b;subst u;subst b;rw[ynp o,ydx];have y:=l.tail;have:=E M (y.heads fun p hp=>by
    have g:=y.hd p hp;have:p.1≠O:=fun e=>by have:=g.2.2.2.1;simp[add2,e]at this
    omega)
   omega
  ·have:=C z x fun p hp e=>by
    have:=I p hp e;have:p.2≠K:=fun b=>a ⟨p,hp,e,b⟩;omega
   omega
end Ct
namespace Ct
def minO:Option Nat->Option Nat->Option Nat
 |none,x=>x
 |some a,none=>some a
 |some a,some b=>some (min a b)
def Fs(n:Nat)(s:Nat->Nat)(B:Nat)(D:Nat->Bool)(m:List (Nat×Nat)):Prop:=∀k,k<n->inM D m k=false->s k<B
def IsC(n:Nat)(s:Nat->Nat)(q:Nat->Nat->Nat)(B i:Nat)(D:Nat->Bool)(C:List (Nat×Nat)->Prop)(r:Option Nat):Prop:=
 (∀c,r=some c->∃m,Mt n q B i D m/\ C m/\ Fs n s B D m/\ cm n s q D m=c)/\ ∀m,Mt n q B i D m->C m->Fs n s B D m->∃c,r=some c/\ c<=cm n s q D m
def IsT(n:Nat)(s:Nat->Nat)(q:Nat->Nat->Nat)(B i:Nat)(D:Nat->Bool)(r:Option Nat):Prop:=IsC n s q B i D (fun _=>True) r
theorem IsC.congr{n:Nat}{s:Nat->Nat}{q:Nat->Nat->Nat}{B i:Nat}{D:Nat->Bool}{C j:List (Nat×Nat)->Prop}{r:Option Nat}(h:IsC n s q B i D C r)(hc:∀m,Mt n q B i D m->(C m↔j m)):IsC n s q B i D j r:=
 ⟨fun c e=>by obtain⟨m,a,b,g⟩:=h.1 c e;exact⟨m,a,(hc m a).1 b,g⟩,fun m a b g=>h.2 m a ((hc m a).2 b) g⟩
theorem isT_done{n:Nat}{s:Nat->Nat}{q:Nat->Nat->Nat}{B i:Nat}{D:Nat->Bool}(h:∀k,k<n->D k=true):IsT n s q B i D (some 0):=by
 have z:∀m,m<=n->sgl s (inM D []) m=0:=by
  intro m
  induction m with
  |zero=>intro _;rfl
  |succ m j=>intro b;unfold sgl;rw[j (by omega)];simp[inM,h m (by omega)]
 have e0:cm n s q D []=0:=by unfold cm;rw[z n (dQ _)];rfl
 refine⟨fun c e=>⟨[],⟨fun p g=>by simp at g,by simp[flt]⟩,trivial,fun k a hD=>by simp[inM,h k a]at hD,by cases e;exact e0⟩,fun m b _ _=>⟨0,rfl,o9 _⟩⟩
def Alone(a:Nat)(m:List (Nat×Nat)):Prop:=a∉flt m
theorem yi7{D:Nat->Bool}{a:Nat}{m:List (Nat×Nat)}:inM (add1 D a) m=add1 (inM D m) a:=by
 funext j;simp[inM,add1,Bool.or_right_comm]
theorem isC_alone{n:Nat}{s:Nat->Nat}{q:Nat->Nat->Nat}{B i a:Nat}{D:Nat->Bool}(H:a<n)(hD:D a=false){w:Option Nat}(I:IsT n s q B i (add1 D a) w):IsC n s q B i D (Alone a) (if s a<B then w.map (s a+ ·)else none):=by
 have v:∀m,Alone a m->cm n s q D m=s a+cm n s q (add1 D a) m:=fun m j=>by
  have g:inM D m a=false:=by
   unfold inM;rw[hD,xZ,rR];exact fun h=>j (xX.1 h)
  unfold cm;rw[sgl_add1 g,yi7,if_pos H];omega
 have y:∀m,Alone a m->(Mt n q B i D m↔Mt n q B i (add1 D a) m):=fun m j=>by
  constructor
  ·refine fun h=>⟨fun p u=>?_,h.nd⟩;obtain⟨z,A,C,l,o,E⟩:=h.hd p u;have O:p.1≠a:=fun e=>j (mem_flt.2 ⟨p,u,.inl e.symm⟩);have P:p.2≠a:=fun e=>j (mem_flt.2 ⟨p,u,.inr e.symm⟩);exact⟨z,A,C,by simp[add1,l,O],by simp[add1,o,P],E⟩
  ·refine fun h=>⟨fun p u=>?_,h.nd⟩;obtain⟨z,A,C,l,o,E⟩:=h.hd p u;simp[add1]at l o;exact⟨z,A,C,l.1,o.1,E⟩
 have al:∀m,Mt n q B i (add1 D a) m->Alone a m:=fun m j g=>by
  obtain⟨p,u,N⟩:=mem_flt.1 g;obtain⟨_,_,_,l,o,_⟩:=j.hd p u;rcases N with e|e
  ·rw[<-e]at l;simp[add1]at l
  ·rw[<-e]at o;simp[add1]at o
 constructor
 ·intro c e;by_cases hs:s a<B
  ·rw[if_pos hs]at e;cases w with
   |none=>cases e
   |some J=>
    cases e;obtain⟨m,G,_,K,M⟩:=I.1 J rfl;have b:=al m G;refine⟨m,(y m b).2 G,b,fun k F g=>?_,by rw[v m b,M]⟩;by_cases x:k=a
    ·subst x;exact hs
    ·exact K k F (by rw[yi7];simp[add1,g,x])
  ·rw[if_neg hs]at e;cases e
 ·intro m j b g;have hs:s a<B:=g a H (by
   unfold inM;rw[hD,xZ,rR];exact fun h=>b (xX.1 h))
  rw[if_pos hs];obtain⟨c,rfl,hc⟩:=I.2 m ((y m b).1 j) trivial fun k F h=>g k F (by rw[yi7]at h;simp[add1]at h;exact h.1);exact⟨s a+c,rfl,by rw[v m b];omega⟩
theorem isC_add{n:Nat}{s:Nat->Nat}{q:Nat->Nat->Nat}{B i a b:Nat}{D:Nat->Bool}{A:Nat×Nat->Prop}{c:Nat}{r w:Option Nat}(h:IsC n s q B i D (fun m=>∀p∈m,p.1=c \/p.2=c->A p) r)(hc:a=c \/b=c)(N:i<=a)(O:a<n)(P:b<n)(Q:D a=false)(R:D b=false)(S:q a b<B)(T:a≠b)(J:IsT n s q B i (add2 D a b) w):
  IsC n s q B i D (fun m=>∀p∈m,p.1=c \/p.2=c->A p \/p=(a,b)) (minO r (w.map (q a b+ ·))):=by
 have G:∀x,r=some x->∃m,Mt n q B i D m/\ (∀p∈m,p.1=c \/p.2=c->A p \/p=(a,b))/\ Fs n s B D m/\ cm n s q D m=x:=fun x e=>by
  obtain⟨m,o,M,v,g⟩:=h.1 x e;exact⟨m,o,fun p hp e=>.inl (M p hp e),v,g⟩
 have I:∀x,w=some x->∃m,Mt n q B i D m/\ (∀p∈m,p.1=c \/p.2=c->A p \/p=(a,b))/\ Fs n s B D m/\ cm n s q D m=q a b+x:=fun x e=>by
  obtain⟨m,o,_,v,g⟩:=J.1 x e;refine⟨(a,b)::m,o.cons N O P Q R S T,fun p hp e=>?_,fun k E u=>v k E (by rw[<-yi6];exact u),by rw[ydx,g]⟩;rcases dY.1 hp with rfl|hp
  ·exact .inr rfl
  ·exfalso;obtain⟨_,_,_,g,C,_⟩:=o.hd p hp;simp[add2]at g C;rcases hc with rfl|rfl<;>rcases e with e|e
   ·exact g.1.2 e
   ·exact C.1.2 e
   ·exact g.2 e
   ·exact C.2 e
 constructor
 ·intro x e;cases r with
  |none=>
   cases w with
   |none=>cases e
   |some y=>have e:=gT e;subst e;exact I y rfl
  |some z=>
   cases w with
   |none=>exact G x e
   |some y=>
    have e:=gT e;subst e;rcases Nat.le_total z (q a b+y)with hv|hv
    ·have:min z (q a b+y)=z:=by omega
     rw[this];exact G z rfl
    ·have:min z (q a b+y)=q a b+y:=by omega
     rw[this];exact I y rfl
 ·intro m H hA u;by_cases j:(a,b)∈m
  ·obtain⟨V,l,F⟩:=H.front j;rw[ynp l,ydx];obtain⟨y,rfl,W⟩:=J.2 V F.tail trivial fun k E h=>u k E (by rw[ypv l,yi6];exact h);cases r with
   |none=>exact⟨q a b+y,rfl,by omega⟩
   |some z=>exact⟨_,rfl,by show min z (q a b+y)<=_;omega⟩
  ·obtain⟨z,rfl,U⟩:=h.2 m H (fun p hp e=>(hA p hp e).resolve_right fun K=>j (K▸hp)) u;cases w with
   |none=>exact⟨_,rfl,U⟩
   |some y=>exact⟨_,rfl,by show min z (q a b+y)<=_;omega⟩
theorem isC_no{n:Nat}{s:Nat->Nat}{q:Nat->Nat->Nat}{B i a b:Nat}{D:Nat->Bool}{A:Nat×Nat->Prop}{c:Nat}{r:Option Nat}(h:IsC n s q B i D (fun m=>∀p∈m,p.1=c \/p.2=c->A p) r)(hn:a<i \/D a=true \/D b=true \/B<=q a b \/a=b):
  IsC n s q B i D (fun m=>∀p∈m,p.1=c \/p.2=c->A p \/p=(a,b)) r:=by
 refine h.congr fun m o=>⟨fun h p g e=>.inl (h p g e),fun h p g e=>(h p g e).resolve_right fun u=>?_⟩;subst u;obtain⟨v,w,x,j,k,y⟩:=o.hd _ g;simp only at v w x j k y;rcases hn with hn|hn|hn|hn|hn
 ·omega
 ·rw[hn]at j;cases j
 ·rw[hn]at k;cases k
 ·omega
 ·subst hn;obtain⟨z,_,l⟩:=o.front g;have:=l.nd;simp[flt]at this
theorem Er:∀{n:Nat}{l:List Nat},l.Nodup->(∀x∈l,x<n)->l.length<=n
 |0,l,_,h=>by
  cases l with
  |nil=>simp
  |cons x l=>exact absurd (h x (dU ..)) (by omega)
 |n+1,l,hd,h=>by
  have a:=Er (n:=n) (hd.erase n) (fun x e=>by
   have b:=(hd.mem_erase_iff).1 e;have:=h x b.2;have:=b.1;omega)
  rw[List.length_erase]at a;split at a<;>omega
theorem g_t{n:Nat}{s:Nat->Nat}{q:Nat->Nat->Nat}{B i C:Nat}{P:Nat->Bool}{v:Nat}{r:Option Nat}(O:IsG n s q B i P v)(z:IsT n s q B i P r)(hs:∀k,k<n->s k<B->s k<=C)(R:∀a b,a<n->b<n->q a b<B->q a b<=C)(hC:2*n*C<B):(v<B->r=some v)/\ (B<=v->r=none):=by
 obtain⟨⟨m,F,G⟩,A⟩:=O;have sg:∀{P:Nat->Bool}{k:Nat},k<n->P k=false->∀j,k<j->s k<=sgl s P j:=by
  intro P k y hP j
  induction j with
  |zero=>intro h;omega
  |succ j u=>
   intro h;unfold sgl;by_cases e:k=j
   ·subst e;rw[if_neg (by simp[hP])];omega
   ·have:=u (by omega);omega
 have V:∀{P:Nat->Bool}(j:Nat),j<=n->(∀k,k<n->P k=false->s k<B)->sgl s P j<=j*C:=by
  intro P j Q hF
  induction j with
  |zero=>simp[sgl]
  |succ j u=>
   unfold sgl;have:=u (by omega);rw[Nat.succ_mul];cases hP:P j
   ·have:=hs j (by omega) (hF j (by omega) hP);simp;omega
   ·simp;omega
 have J:∀m,(flt m).length=2*m.length:=by
  intro m
  induction m with
  |nil=>rfl
  |cons p m u=>show(p.1::p.2::flt m).length=_;simp[u];omega
 have U:∀m:List (Nat×Nat),(∀p∈m,p.1<n/\ p.2<n/\ q p.1 p.2<B)->qs q m<=m.length*C:=by
  intro m
  induction m with
  |nil=>intro _;simp[qs]
  |cons p m u=>
   intro h;have E:=u fun p o=>h p (dZ _ o);have w:=h p (dU ..);have K:=R p.1 p.2 w.1 w.2.1 w.2.2;simp only[qs,dX,Aq,gZ,Nat.succ_mul]at E ⊢;omega
 constructor
 ·intro S;have hF:Fs n s B P m:=fun k y N=>by
   have:=sg y N n y;unfold cm at G;omega
  obtain⟨c,rfl,hc⟩:=z.2 m F trivial hF;obtain⟨j,l,_,_,D⟩:=z.1 c rfl;have:=A j l;congr 1;omega
 ·intro S;cases r with
  |none=>rfl
  |some c=>
   exfalso;obtain⟨j,l,_,H,D⟩:=z.1 c rfl;have E:=A j l;have w:=V n (dQ _) H;have K:=U j fun p o=>⟨(l.hd p o).2.1,(l.hd p o).2.2.1,(l.hd p o).2.2.2.2.2⟩;have M:j.length<=n:=by
    have:=Er (n:=n) l.nd fun x T=>by
     obtain⟨p,o,e⟩:=mem_flt.1 T;have g:=l.hd p o;rcases e with rfl|rfl<;>omega
    rw[J]at this;omega
   have W:j.length*C<=n*C:=l8 _ M;have X:2*n*C=n*C+n*C:=by rw[Nat.mul_assoc,Nat.two_mul]
   have I:=D;unfold cm at I;omega
end Ct
section
variable{t:bA}{f:bL}{B:List (List Int)}{r:cB}{d:List (List Int)}
theorem ybx(hA:AskF t f)(hP:ybk t f B){p:List Int}(h:IsP B p):0<=pS t p/\ pS t p<=pE t p/\ pE t p<=1799:=by
 obtain⟨h0,i,k,b,hb,C,D⟩:=h;have I:p.length≠0:=fun A=>h0 (kK.1 A);obtain⟨_,hT,hC⟩:=hP.1 b (bT hb);have m:=fun{j:Nat}(w:j<p.length)=>ykm hb C D w;have g:∀{j:Nat}{e:Int},p[j]? =some e->0<=tix t e:=fun{j e} x=>hT e (bT (by rw[m (fK x)];exact x));have u:∀j,j<p.length->(tr t (p.getD 0 0)).d9<=(tr t (p.getD j 0)).d9:=by
  intro j
  induction j with
  |zero=>intro _;exact kR _
  |succ j E=>
   intro w;obtain⟨a,o⟩:=jak (l:=p) (i:=j) (by omega);obtain⟨c,hc⟩:=jak (l:=p) (i:=j+1) w;have v:=E (by omega);have hF:FolE t f a c:=hC (k+j) a c (by rw[m (by omega)];exact o) (by rw[j5,m w];exact hc);have H:=yua hA (ybg (g o)).1 (ybg (g hc)).1 hF;rw[ykp o]at v;rw[ykp hc];omega
 obtain⟨z,y⟩:=jak (l:=p) (i:=p.length-1) (by omega);obtain⟨a,o⟩:=jak (l:=p) (i:=0) (by omega);have F:=yja hA (g y);have G:=yja hA (g o);have v:=u (p.length-1) (by omega);unfold pS pE;rw[ykp y]at v ⊢;rw[ykp o]at v ⊢;omega
noncomputable def spn(t:bA)(d:List (List Int)):Int:=(d.map fun p=>pE t p-pS t p).sum
def brk(r:cB)(g:List Int):Int:=(g.map fun g=>min g r.jd).sum
noncomputable def pdv(t:bA)(f:bL)(r:cB)(d:List (List Int)):Int:=r.iU+r.iV+spn t d+brk r (gaps t f d)
theorem ye7{j:Nat}{p:List Int}(h:d[j]? =some p):spn t (d.take (j+1))=spn t (d.take j)+(pE t p-pS t p):=by
 unfold spn;rw[jap h,oD,List.sum_append];simp
theorem yjk{g:List Int}{j:Nat}{x:Int}(h:g[j]? =some x):brk r (g.take (j+1))=brk r (g.take j)+min x r.jd:=by
 unfold brk;rw[jap h,oD,List.sum_append];simp
theorem Kk(hA:AskF t f)(hP:ybk t f B)(b:∀p∈d,IsP B p):∀j,0<=spn t (d.take j)/\ spn t (d.take j)<=1799*j:=by
 intro j
 induction j with
 |zero=>simp[spn]
 |succ j e=>
  rcases jC j d.length with h|h
  ·obtain⟨p,a⟩:=jak h;have:=ybx hA hP (b p (bT a));rw[ye7 a];omega
  ·rw[iw (by omega)]at e ⊢;omega
theorem LH(hR:yb0 r){g:List Int}(b:∀x∈g,¬x<r.jM):∀j,0<=brk r (g.take j)/\ brk r (g.take j)<=900*j:=by
 obtain⟨_,_,_,c,i,_⟩:=hR;intro j
 induction j with
 |zero=>simp[brk]
 |succ j e=>
  rcases jC j g.length with h|h
  ·obtain⟨x,a⟩:=jak h;have:=b x (bT a);rw[yjk a];omega
  ·rw[iw (by omega)]at e ⊢;omega
theorem J6{j:Nat}(h:j+1<d.length){p q:List Int}(a:d[j]? =some p)(b:d[j+1]? =some q):(gaps t f d)[j]? =some (gap t f p q):=by
 unfold gaps;rw[lu,pI (by omega)];simp only[gW,yq1 a,yq1 b]
theorem yto(hb:TB t)(hA:AskF t f)(hP:ybk t f B)(hR:yb0 r)(O:d.length<=4)(z:∀p∈d,IsP B p)(hd:∀p∈d,Trs t p)(y:GapP t f r d):zq47 t f r ⟨d⟩=some (pdv t f r d)/\ zq76 t f r ⟨d⟩=some (pdv t f r d):=by
 have A:=hR;obtain⟨⟨S,T⟩,⟨F,K⟩,_,⟨U,V⟩,⟨W,d2⟩,_⟩:=A;have I:w64 (r.iU+r.iV)=r.iU+r.iV:=jaj (by omega);have N:=yi8 t f d;have E:=Kk hA hP z;have br:=LH hR y;constructor
 ·unfold zq47;rw[I];refine Tot.val (.call (P:=fun v=>v=r.iU+r.iV+spn t d) ?_ fun X M=>.eq (AU hb hA O hd) (.call (P:=fun v=>v=pdv t f r d) ?_ fun R h=>.ok h))
  ·refine .iter (fun m (s:Int×Int)=>∃j:Nat,s.2=(j:Int)/\ m+j=d.length/\ s.1=r.iU+r.iV+spn t (d.take j)) (n:=d.length) ⟨0,rfl,rfl,by simp[spn]⟩ ?_;rintro m ⟨v,J⟩ ⟨j,o,H,e⟩;simp only at o e;subst o;unfold ylp;refine .iteP (fun hc=>?_) (fun hc=>.dn ?_)
   ·have k:j<d.length:=by simp only at hc;omega
    obtain⟨p,b⟩:=jak (l:=d) (i:=j) k;have a:=bT b;have Q:=ybx hA hP (z p a);have s1:=E j;refine .eq (ixs b) (.eq (yqu hb hA (hd p a)) (.nx ⟨m-1,by omega,j+1,jai (by omega),by omega,?_⟩));simp only
    rw[jaj (x:=pE t p-pS t p) (by omega),jaj (by omega),ye7 b];omega
   ·have hc:¬(j:Int)<(d.length:Int):=hc;rw[e,iw (by omega)]
  ·subst M;have s1:=E d.length;rw[rD]at s1;refine .iter (fun m (s:Int×Int)=>∃j:Nat,s.2=(j:Int)/\ m+j=(gaps t f d).length/\ s.1=r.iU+r.iV+spn t d+brk r ((gaps t f d).take j)) (n:=(gaps t f d).length) ⟨0,rfl,rfl,by simp[brk]⟩ ?_;rintro m ⟨v,J⟩ ⟨j,o,H,e⟩;simp only at o e;subst o;unfold ylo;refine .iteP (fun hc=>?_) (fun hc=>.dn ?_)
   ·have hc:(j:Int)<((gaps t f d).length:Int):=hc;obtain⟨g,u⟩:=jak (l:=gaps t f d) (i:=j) (by omega);have C:=y g (bT u);have F:=br j;refine .eq (ixs u) (.nx ⟨m-1,by omega,j+1,jai (by omega),by omega,?_⟩);show w64 (v+(if r.jd<g then r.jd else g))=_;have w:(if r.jd<g then r.jd else g)=min g r.jd:=by split<;>omega
    rw[w,jaj (by omega),yjk u];omega
   ·have hc:¬(j:Int)<((gaps t f d).length:Int):=hc;rw[e,iw (by omega)];rfl
 ·unfold zq76;rw[I];refine Tot.val (.call (P:=fun v=>v=pdv t f r d) ?_ fun R h=>.ok h);refine .iter (fun m (s:Int×Int)=>∃j:Nat,s.2=(j:Int)/\ m+j=d.length/\ s.1=r.iU+r.iV+spn t (d.take j)+brk r ((gaps t f d).take (j-1))) (n:=d.length) ⟨0,rfl,rfl,by simp[spn,brk]⟩ ?_;rintro m ⟨v,J⟩ ⟨j,o,H,e⟩;simp only at o e;subst o;unfold yld;refine .iteP (fun hc=>?_) (fun hc=>.dn ?_)
  ·have k:j<d.length:=by simp only at hc;omega
   obtain⟨p,b⟩:=jak (l:=d) (i:=j) k;have a:=bT b;have Q:=ybx hA hP (z p a);have s1:=E j;have F:=br (j-1);have G:w64 (w64 (v+pE t p)-pS t p)=v+(pE t p-pS t p):=by
    rw[jaj (x:=v+pE t p) (by omega),jaj (by omega)];omega
   refine .call (P:=fun x=>x=r.iU+r.iV+spn t (d.take (j+1))+brk r ((gaps t f d).take (j+1-1))) (.eq (ixs b) (.eq (endS hb hA (hd p a)) (.eq (ixs b) (.eq (yj8 hb (hd p a)) (.iteP (fun h0=>?_) (fun h0=>.ok ?_)))))) fun x w=>.nx ⟨m-1,by omega,j+1,jai (by omega),by omega,w⟩
   ·obtain⟨i,rfl⟩:∃i,j=i+1:=⟨j-1,by omega⟩;obtain⟨q,D⟩:=jak (l:=d) (i:=i) (by omega);have u:=J6 (t:=t) (f:=f) k D b;have C:=y _ (bT u);have K:=br i;rw[jff (by omega)];refine .eq (ixs D) (.eq (ixs b) (.eq (gapS hb hA (hd q (bT D)) (hd p a)) (.eq (ywp _ _) (.ok ?_))));have w:(if gap t f q p<r.jd then gap t f q p else r.jd)=min (gap t f q p) r.jd:=by split<;>omega
    rw[w,G,ye7 b,DY,yjk u,jaj (by omega)];rw[e,DY];omega
   ·have:j=0:=by omega
    subst this;rw[G,e,ye7 b];simp[brk];omega
  ·have hc:¬(j:Int)<(d.length:Int):=hc;rw[e,iw (by omega),iw (by omega)];rfl
theorem J5(hA:AskF t f)(hP:ybk t f B){a b:List Int}(h:IsP B a)(hb:IsP B b)(i:Trs t a)(tb:Trs t b):gap t f a b<=pS t b-pE t a:=by
 have m:=ybx hA hP h;have o:=ybx hA hP hb;obtain⟨_,z,_,l,_,k,_,_,g⟩:=ybp i;obtain⟨c,_,hc,_,j,_,_,e,_⟩:=ybp tb;have:=(yjc hA k j).1;unfold gap;rw[g,e,jaj (x:=pS t b-pE t a) (by omega),jaj (by omega)];omega
theorem Kc(hA:AskF t f)(hP:ybk t f B)(hR:yb0 r){a:List Int}(b:IsP B a):0<=pdv t f r [a]/\ pdv t f r [a]<=3600:=by
 have o:=ybx hA hP b;obtain⟨⟨g,h⟩,⟨i,j⟩,_,⟨k,l⟩,⟨m,d2⟩,_⟩:=hR;have e:pdv t f r [a]=r.iU+r.iV+(pE t a-pS t a):=by
  have:gaps t f [a]=[]:=rfl;unfold pdv;rw[this];simp[spn,brk]
 omega
theorem Ke(hA:AskF t f)(hP:ybk t f B)(hR:yb0 r){a b:List Int}(h:IsP B a)(hb:IsP B b)(j:Trs t a)(tb:Trs t b)(i:GapP t f r [a,b]):(0<=pdv t f r [a,b]/\ pdv t f r [a,b]<=3600)/\ pE t a<=pS t b:=by
 have y:=ybx hA hP h;have z:=ybx hA hP hb;have w:=J5 hA hP h hb j tb;obtain⟨⟨k,l⟩,⟨m,o⟩,_,⟨p,u⟩,⟨v,d2⟩,_⟩:=hR;have g:gaps t f [a,b]=[gap t f a b]:=rfl;have x:=i (gap t f a b) (by rw[g];exact dU ..);have e:pdv t f r [a,b]=r.iU+r.iV+((pE t a-pS t a)+(pE t b-pS t b))+min (gap t f a b) r.jd:=by
  unfold pdv;rw[g];simp[spn,brk]
 omega
def prc(c:Nat):bI:=⟨((c/100000:Nat):Int),((c%100000:Nat):Int)⟩
def BIG:Nat:=107374182400000
def spd(c:Nat):Int:=if c<BIG then(c:Int)-100000 else-1
noncomputable def dc(t:bA)(f:bL)(B:List (List Int))(r:cB)(d:List (List Int)):Nat:=if zq16 t f B r ⟨d⟩=some 0 then 100000+(pdv t f r d).toNat else BIG
theorem ydv(hb:TB t)(hA:AskF t f)(hP:ybk t f B)(hB:BB B)(hR:yb0 r)(hl:d.length=1 \/d.length=2)(x:∀p∈d,p.length<=3000)(k:d.flatten.length<=srtN):
  zq45 d t f B r=some (prc (dc t f B r d))/\ zq85 t f B r ⟨d⟩=some (spd (dc t f B r d))/\ (dc t f B r d=BIG \/(100000<=dc t f B r d/\ dc t f B r d<=103600))/\
   (dc t f B r d<BIG->zq16 t f B r ⟨d⟩=some 0/\ (dc t f B r d:Int)=100000+pdv t f r d/\ ybq B d/\ (∀p∈d,Trs t p)/\ GapP t f r d/\ zq47 t f r ⟨d⟩=some (pdv t f r d)/\ zq71 t f B r ⟨d⟩=some 0)/\ (dc t f B r d=BIG->zq16 t f B r ⟨d⟩≠some 0):=by
 obtain⟨v,l,z,A⟩:=yf9 (r:=r) (d:=d) hb hA hP hB (by omega) x k;unfold zq45 zq85;rw[l,z];by_cases h0:v=0
 ·subst h0;obtain⟨g,i,j,_⟩:=A rfl;obtain⟨m,w⟩:=yto hb hA hP hR (by omega) g.2.1 i j;have o:0<=pdv t f r d/\ pdv t f r d<=3600:=by
   rcases hl with hl|hl
   ·obtain⟨a,rfl⟩:=List.length_eq_one_iff.1 hl;exact Kc hA hP hR (g.2.1 a (dU ..))
   ·obtain⟨a,b,rfl⟩:∃a b,d=[a,b]:=by
     match d,hl with
     |[a,b],_=>exact⟨a,b,rfl⟩
    exact(Ke hA hP hR (g.2.1 a (by simp)) (g.2.1 b (by simp)) (i a (by simp)) (i b (by simp)) j).1
  have e:dc t f B r d=100000+(pdv t f r d).toNat:=by unfold dc;rw[if_pos l]
  have q1:(100000+(pdv t f r d).toNat)/100000=1:=by omega
  have y:(((100000+(pdv t f r d).toNat)%100000:Nat):Int)=pdv t f r d:=by omega
  refine⟨?_,?_,.inr (by rw[e];omega),fun _=>⟨rfl,by rw[e];omega,g,i,j,m,rfl⟩,fun h=>by rw[e]at h;unfold BIG at h;omega⟩
  ·simp only[bF,bne_self_eq_false,bW,if_false,m];rw[e];unfold prc;rw[q1,y];rfl
  ·simp only[bF,bne_self_eq_false,bW,if_false,w];rw[e];unfold spd;rw[if_pos (by unfold BIG;omega)];congr 1;omega
 ·have u:(v !=0)=true:=by simp[h0]
  have e:dc t f B r d=BIG:=by unfold dc;rw[if_neg (by rw[l];simp[h0])]
  refine⟨?_,?_,.inl e,fun h=>by rw[e]at h;exact absurd h (Nat.lt_irrefl _),fun _=>by simp[h0]⟩
  ·simp only[bF,u,if_true];rw[e];rfl
  ·simp only[bF,u,if_true];rw[e];unfold spd;rw[if_neg (Nat.lt_irrefl _)]
end
end Go.Proofs.YtimecodbnhcnoaaGreat
