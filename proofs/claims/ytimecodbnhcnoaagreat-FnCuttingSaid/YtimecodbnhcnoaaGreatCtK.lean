/- The plain law: what the models compute, no program in sight. -/
import Derived.Test.YtimecodbnhcnoaaGreatCtM
import Derived.Test.YtimecodbnhcnoaaGreatAbStb
namespace Go.Proofs.YtimecodbnhcnoaaGreat
open Go Go.Ab
set_option maxHeartbeats 4000000
set_option linter.unusedVariables false
set_option linter.unusedSimpArgs false
def Cur(k:Nat)(c:l1Cur):Prop:=0<=c.at_/\ c.at_<=k
theorem Cur.mono{k k':Nat}{c:l1Cur}(h:Cur k c)(a:k<=k'):Cur k' c:=⟨h.1,by have:=h.2;omega⟩
theorem yq4{k:Nat}{c:l1Cur}(h:Cur k c)(p:k<=4000000000):∃r,yk3 c=some r/\ Cur (k+1) r.2/\ 0<=r.1/\ r.1<=255:=by
 obtain⟨h0,o⟩:=h;have l:w64 (c.at_+1)=c.at_+1:=jak (by omega);have a:∀s,Cur (k+1) ⟨c.code_,w64 (c.at_+1),s⟩:=fun s=>by rw[l];exact⟨by show 0<=c.at_+1;omega,by show c.at_+1<=_;omega⟩
 unfold yk3;have e:∃v,(if(decide (c.at_<(c.code_.length:Int)))=true then(idx c.code_ c.at_).bind fun j=>some (w64 ((j.toNat:Int)))else some 0)=some v/\ 0<=v/\ v<=255:=by
  by_cases b:c.at_<c.code_.length
  ·obtain⟨x,m,_,_⟩:=jdu h0 b;have:=x.toNat_lt;refine⟨(x.toNat:Int),?_,by omega,by omega⟩;simp only[b,decide_true,if_true,m,Option.bind_some];rw[jak (by omega)]
  ·exact⟨0,by simp[b],by omega,by omega⟩
 obtain⟨v,e,g,i⟩:=e;rw[e];simp only[Option.bind_some];split
 ·exact⟨_,rfl,a _,g,i⟩
 ·rw[ja9 (by omega)];exact⟨_,rfl,a _,ju2 _⟩
theorem yab{k:Nat}{c:l1Cur}(n:Int)(h:Cur k c)(C:k<=3000000000):∃r,yad c n=some r/\ Cur (k+2) r.2/\ 0<=r.1/\ (r.1<n \/r.1=0):=by
 unfold yad;by_cases u:n<=1
 ·exact⟨(0,c),by simp[u],h.mono (by omega),by simp,.inr rfl⟩
 ·obtain⟨r,z,hc,h0,A⟩:=yq4 h (by omega);have l:decide (n<=1)=false:=by simpa using u
  simp only[l,Bool.false_eq_true,if_false,z,Option.bind_some];have g:chk (n≠0)=some ():=ja9 (by omega);by_cases p:200<n
  ·obtain⟨o,m,j,x,y⟩:=yq4 hc (by omega);have v:w64 (r.1*256)=r.1*256:=jak (by omega);have w:w64 (r.1*256+o.1)=r.1*256+o.1:=jak (by omega);have e:=jjk (a:=r.1*256+o.1) (b:=n) (by omega) (by omega);simp only[p,decide_true,if_true,m,Option.bind_some,g,v,w];exact⟨_,rfl,j.mono (by omega),e.1,.inl e.2⟩
  ·have i:decide (200<n)=false:=by simpa using p
   have e:=jjk (a:=r.1) (b:=n) (by omega) (by omega);simp only[i,Bool.false_eq_true,if_false,Option.bind_some,g];exact⟨_,rfl,hc.mono (by omega),e.1,.inl e.2⟩
theorem yej{k:Nat}{c:l1Cur}(l:List Int)(e:l≠[])(h:Cur k c)(b:k<=3000000000):∃r,zq94 c l=some r/\ Cur (k+2) r.2/\ r.1∈l:=by
 unfold zq94;obtain⟨r,i,hc,h0,m⟩:=yab (l.length:Int) h b;have a:0<l.length:=List.length_pos_iff.2 e;obtain⟨x,j,_,g⟩:=jdu (l:=l) h0 (by omega);simp only[i,Option.bind_some,j];exact⟨_,rfl,hc,g⟩
theorem yhz{k:Nat}{c:l1Cur}(l:List Int)(b:l≠[])(h:Cur k c)(a:k<=3000000000):∃r,zq93 c l=some r/\ Cur (k+2) r.2/\ r.1∈l:=by
 have:zq93 c l=zq94 c l:=rfl;rw[this];exact yej l b h a
theorem ync{k:Nat}{c:l1Cur}(n:Int)(h:Cur k c)(a:k<=3000000000):∃r,yd3 c n=some r/\ Cur (k+2) r.2:=by
 unfold yd3;obtain⟨r,b,hc,_,_⟩:=yab n h a;simp only[b,Option.bind_some];exact⟨_,rfl,hc⟩
theorem yyj{k:Nat}{c:l1Cur}(l:List ByteArray)(e:l≠[])(h:Cur k c)(b:k<=3000000000):∃r,ywh c l=some r/\ Cur (k+2) r.2/\ r.1∈l:=by
 unfold ywh;obtain⟨r,i,hc,h0,m⟩:=yab (l.length:Int) h b;have a:0<l.length:=List.length_pos_iff.2 e;obtain⟨x,j,_,g⟩:=jdu (l:=l) h0 (by omega);simp only[i,Option.bind_some,j];exact⟨_,rfl,hc,g⟩
theorem yuc{k:Nat}{c:l1Cur}(l:List ByteArray)(b:l≠[])(h:Cur k c)(a:k<=3000000000):∃r,yk2 c l=some r/\ Cur (k+2) r.2/\ r.1∈l:=by
 have:yk2 c l=ywh c l:=rfl;rw[this];exact yyj l b h a
theorem cur0(a:List UInt8):Cur 0 ⟨a,0,⟨0⟩⟩:=⟨by show(0:Int)<=0;omega,by show(0:Int)<=_;omega⟩
theorem yw4{x:Int}(h:0<=x)(k:Nat):x.fdiv (2^k)=x/(2^k:Nat):=by
 rw[Int.fdiv_eq_ediv_of_nonneg _ (by exact_mod_cast Nat.zero_le (2^k))];simp
theorem yna{x y:Int}{v k:Nat}(h:y*(2^v:Nat)<=x)(e:0<=y):y/(2^k:Nat)*(2^(v+k):Nat)<=x:=by
 have a:y/(2^k:Nat)*(2^k:Nat)<=y:=Int.ediv_mul_le _ (by have:=Nat.two_pow_pos k;omega);have b:y/(2^k:Nat)*(2^k:Nat)*(2^v:Nat)<=y*(2^v:Nat):=Int.mul_le_mul_of_nonneg_right a (Int.natCast_nonneg _);rw[Nat.add_comm,Nat.pow_add,Int.natCast_mul,<-Int.mul_assoc];omega
theorem ytj(x:IK .u64)(h0:0<=x.v)(V:x.v<8589934592):Tot (zq58 x) fun r=>0<=r/\ r<=64/\ (1<=x.v->((2^r.toNat:Nat):Int)<=2*x.v):=by
 unfold zq58;refine Tot.call (P:=fun(r:Int×Int)=>0<=r.1/\ r.1<4294967296/\ (1<=x.v->1<=r.1)/\ 0<=r.2/\ r.2<=32/\ r.1*(2^r.2.toNat:Nat)<=x.v) (.iteP (fun hc=>Tot.chk (by decide) (.ok ?_)) (fun hc=>.ok ⟨h0,by dsimp only;omega,fun h=>h,Int.le_refl _,by dsimp only;omega,by simp⟩)) fun⟨G,v⟩ ⟨j,L,w,y,M,p⟩=>?_
 ·have e:((2^32:Nat):Int)=4294967296:=by decide
  have g:x.v.fdiv (2^(min (32:Int).toNat (IntKind.u64).bits))=x.v/(2^32:Nat):=yw4 h0 32;simp only[g];exact⟨by omega,by omega,fun _=>by omega,by omega,by omega,Int.ediv_mul_le _ (by decide)⟩
 dsimp only at j L w y M p ⊢;refine Tot.call (P:=fun(r:Int×Int)=>0<=r.1/\ r.1<65536/\ (1<=x.v->1<=r.1)/\ 0<=r.2/\ r.2<=48/\ r.1*(2^r.2.toNat:Nat)<=x.v) (.iteP (fun hc=>Tot.chk (by decide) (.ok ?_)) (fun hc=>.ok ⟨j,by dsimp only;omega,w,y,by dsimp only;omega,p⟩)) fun⟨H,k⟩ ⟨q1,N,z,A,O,u⟩=>?_
 ·have e:((2^16:Nat):Int)=65536:=by decide
  have g:G.fdiv (2^(min (16:Int).toNat (IntKind.u64).bits))=G/(2^16:Nat):=yw4 j 16;have m:w64 (v+16)=v+16:=jak (by omega);have o:(v+16).toNat=v.toNat+16:=by omega
  simp only[g,m,o];exact⟨by omega,by omega,fun _=>by omega,by omega,by omega,yna p j⟩
 dsimp only at q1 N z A O u ⊢;refine Tot.call (P:=fun(r:Int×Int)=>0<=r.1/\ r.1<256/\ (1<=x.v->1<=r.1)/\ 0<=r.2/\ r.2<=56/\ r.1*(2^r.2.toNat:Nat)<=x.v) (.iteP (fun hc=>Tot.chk (by decide) (.ok ?_)) (fun hc=>.ok ⟨q1,by dsimp only;omega,z,A,by dsimp only;omega,u⟩)) fun⟨l,a⟩ ⟨C,D,E,Q,R,T⟩=>?_
 ·have e:((2^8:Nat):Int)=256:=by decide
  have g:H.fdiv (2^(min (8:Int).toNat (IntKind.u64).bits))=H/(2^8:Nat):=yw4 q1 8;have m:w64 (k+8)=k+8:=jak (by omega);have o:(k+8).toNat=k.toNat+8:=by omega
  simp only[g,m,o];exact⟨by omega,by omega,fun _=>by omega,by omega,by omega,yna u q1⟩
 dsimp only at C D E Q R T ⊢;have J:IntKind.u8.wrap l=l:=Int.emod_eq_of_lt C D;rw[J];generalize hs:str _=S;have hS:(Nat.beq S.size 256&&(List.range 256).all fun i=>Nat.ble (S.data.toList.getD i 0).toNat 8&&(Nat.beq i 0||Nat.ble (2^(S.data.toList.getD i 0).toNat) (2*i)))=true:=by
  rw[<-hs];kernel_rfl
 clear hs;simp only[Bool.and_eq_true,List.all_eq_true,List.mem_range,Bool.or_eq_true]at hS;obtain⟨s1,b⟩:=hS;have s1:=Nat.eq_of_beq_eq_true s1;obtain⟨n,rfl⟩:∃n:Nat,l=n:=⟨l.toNat,by omega⟩;have b:=b n (by omega);have F:=Nat.le_of_ble_eq_true b.1;refine Tot.chk (by omega) (.ok ?_);rw[Int.toNat_natCast];revert F b;generalize(S.data.toList.getD n 0).toNat=t;intro b F;rw[jak (x:=(t:Int)) (by omega),jak (by omega)];refine⟨by omega,by omega,fun K=>?_⟩;have I:(a+(t:Int)).toNat=a.toNat+t:=by omega
 rw[I,Nat.pow_add,Int.natCast_mul];have W:=E K;have U:2^t<=2*n:=by
  rcases b.2 with h|h
  ·have:=Nat.eq_of_beq_eq_true h;omega
  ·exact Nat.le_of_ble_eq_true h
 have X:((2^a.toNat:Nat):Int)*(2^t:Nat)<=(2^a.toNat:Nat)*(2*n:Nat):=Int.mul_le_mul_of_nonneg_left (by exact_mod_cast U) (by exact_mod_cast Nat.zero_le _);have Y:((2^a.toNat:Nat):Int)*((2*n:Nat):Int)=2*((n:Int)*(2^a.toNat:Nat)):=by
  rw[Int.natCast_mul,Int.mul_comm ((2^a.toNat:Nat):Int),Int.mul_assoc];rfl
 omega
theorem yx2(x:IK .u64)(h0:0<=x.v)(a:x.v<8589934592):Tot (zq57 x) fun r=>0<=r/\ r<=64/\ (1<=x.v->((2^r.toNat:Nat):Int)<=2*x.v):=by
 unfold zq57;exact Tot.call (ytj x h0 a) fun r b=>.ok b
theorem yqt{n:Int}(h0:0<=n)(a:n<18446744073709551616):IntKind.u64.wrap n=n:=by
 show n%18446744073709551616=n;exact Int.emod_eq_of_lt h0 a
noncomputable def ye6(x y:Int):Option Int:=some (if x<y then-1 else 0)
theorem yhl(x y:Int):zq1 x y=some (decide (x<y)):=by
 unfold zq1 zq3;simp
theorem yhq(x y:Int):decide ((if x<y then(-1:Int)else 0)<0)=decide (x<y):=by
 by_cases h:x<y<;>simp[h]
theorem yas(a:Int):yc1 a=Pdq.insertionSort_L1 a ye6:=by
 funext ⟨s0,s1⟩;simp only[yc1,Pdq.insertionSort_L1,ye6,yhl,yhq,Option.bind_some]
theorem ybo(a:Int)(b:Int):yc0 a b=Pdq.insertionSort_L2 a b ye6:=by
 funext ⟨s0,s1⟩;simp only[yc0,Pdq.insertionSort_L2,yas,ye6,yhl,yhq,Option.bind_some]
theorem ycn(e:List Int)(a:Int)(b:Int):ykd e a b=Pdq.insertionSort e a b ye6:=by
 simp only[ykd,Pdq.insertionSort,yas,ybo,ye6,yhl,yhq,Option.bind_some]
theorem yyk{n:Nat}(h:n<=12):∃r,zq57 (⟨IntKind.u64.wrap (n:Int)⟩:IK .u64)=some r:=by
 have:n=0 \/n=1 \/(n=2 \/n=3) \/(n=4 \/n=5 \/n=6 \/n=7) \/(n=8 \/n=9 \/n=10 \/n=11 \/n=12):=by omega
 rcases this with rfl|rfl|h|h|h
 ·exact⟨0,by kernel_rfl⟩
 ·exact⟨1,by kernel_rfl⟩
 ·exact⟨2,by rcases h with rfl|rfl<;>kernel_rfl⟩
 ·exact⟨3,by rcases h with rfl|rfl|rfl|rfl<;>kernel_rfl⟩
 ·exact⟨4,by rcases h with rfl|rfl|rfl|rfl|rfl<;>kernel_rfl⟩
theorem yte(l:List Int)(g:l.length<=12):Tot (ykg l) fun s=>s.Perm l/\ s.Pairwise (· <= ·):=by
 obtain⟨r,i⟩:=yyk g;have e:ykd l 0 (l.length:Int)=some (Pdq.isort (fun a b=>decide (a<b)) l):=by
  rw[ycn];exact Pdq.insertion_st (fun x y=>⟨_,rfl,yhq x y⟩) l (by omega)
 unfold ykg yns;refine .eq i (.call (P:=fun s=>s.Perm l/\ s.Pairwise (· <= ·)) ?_ fun s hs=>.ok hs);refine .iter (fun m (_:Unit)=>True) (n:=0) trivial ?_;rintro m ⟨⟩ _;unfold yga;refine .iteP (fun _=>.eq e (.dn ⟨Pdq.isort_perm _,?_⟩)) fun h=>absurd h (by rw[jak (by omega)];omega);refine(Pdq.isort_sorted (lt:=fun a b:Int=>decide (a<b)) (fun a b c e j=>?_) (fun a b h=>?_) l).imp fun{a b} h=>?_
 ·simp only[decide_eq_false_iff_not]at*;omega
 ·simp only[decide_eq_false_iff_not,decide_eq_true_eq]at*;omega
 ·simp only[decide_eq_false_iff_not]at h;omega
def srtN:Nat:=12
theorem yyg:12<=srtN:=Nat.le_refl _
theorem ytf(l:List Int)(h:l.length<=srtN):Tot (ykg l) fun l'=>l'.Perm l/\ l'.Pairwise (· <= ·):=yte l h
theorem yam(n lo hi:Int):zq56 n lo hi=some (decide (lo<=n/\ n<=hi)):=by
 unfold zq56;by_cases h:lo<=n<;>simp[h]
theorem ya1(n lo hi:Int):yau n lo hi=some (decide (lo<=n/\ n<=hi)):=by
 unfold yau;by_cases h:lo<=n<;>simp[h]
def ChOK(i:Nat)(c:UInt8):Prop:=(97<=(c.toNat:Int)/\ (c.toNat:Int)<=122) \/(i≠0/\ 48<=(c.toNat:Int)/\ (c.toNat:Int)<=57)
def yaf(s:ByteArray):Prop:=(1<=s.size/\ s.size<=8)/\ ∀(i:Nat) c,s.data.toList[i]? =some c->ChOK i c
open Classical in
noncomputable instance(s:ByteArray):Decidable (yaf s):=Classical.propDecidable _
theorem yih(s:ByteArray):s.data.toList.length=s.size:=by simp
theorem ylc{α:Type}{l:List α}{i:Nat}{x d:α}(h:l[i]? =some x):l.getD i d=x:=by rw[List.getD_eq_getElem?_getD,h];rfl
theorem yrg(s:ByteArray):zq36 s=some (decide (yaf s)):=by
 unfold zq36;by_cases y:1<=s.size/\ s.size<=8
 ·have m:decide ((s.size:Int)<1)=false:=by simp;omega
  have o:decide (8<(s.size:Int))=false:=by simp;omega
  simp only[m,o,Bool.false_eq_true,if_false,Option.bind_some];have w:=yih s;have key:=Go.Ab.all_loop s.data.toList ChOK (step:=yds s) ?_ ?_ 0 0 rfl (by omega)
  ·rcases key with⟨p,u⟩|⟨p,u⟩
   ·rw[p,jco];have:yaf s:=⟨y,fun i c hc=>u i c (by omega) hc⟩;simp[this]
   ·rw[p,jdp];have:¬yaf s:=fun E=>u fun i c _ hc=>E.2 i c hc;simp[this]
  ·intro i x z;have hi:=(List.getElem?_eq_some_iff.1 z).1;have D:s.data.toList.getD (i:Int).toNat 0=x:=by rw[Int.toNat_natCast];exact ylc z
   have hc:chk ((0:Int)<=(i:Int)/\ (i:Int)<(s.size:Int))=some ():=ja9 (by omega);have v:decide ((i:Int)<(s.size:Int))=true:=by simp;omega
   unfold yds;simp only[v,if_true,hc,D,Option.bind_some,jah (n:=i) (by omega)];unfold ChOK;by_cases g:(97:Int)<=(x.toNat:Int)
   ·by_cases j:(x.toNat:Int)<=122
    ·left;refine⟨by simp[g,j],.inl ⟨g,j⟩⟩
    ·right;refine⟨?_,by omega⟩;have k:decide ((x.toNat:Int)<48)=false:=by simp;omega
     have l:decide ((57:Int)<(x.toNat:Int))=true:=by simp;omega
     have A:¬(x.toNat:Int)<48:=by omega
     have C:(57:Int)<(x.toNat:Int):=by omega
     by_cases b:i=0
     ·simp[g,j,b]
     ·have a:((i:Int)==0)=false:=by simp;omega
      simp[g,j,a,A,C]
   ·by_cases b:i=0
    ·right;refine⟨by simp[g,b],by omega⟩
    ·have a:((i:Int)==0)=false:=by simp;omega
     by_cases k:(x.toNat:Int)<48
     ·right;refine⟨by simp[g,a,k],by omega⟩
     ·by_cases l:(57:Int)<(x.toNat:Int)
      ·right;refine⟨by simp[g,a,k,l],by omega⟩
      ·left;refine⟨by simp[g,a,k,l],.inr ⟨b,by omega,by omega⟩⟩
  ·unfold yds;rw[w];simp
 ·have:¬yaf s:=fun h=>y h.1;have e:(if(decide ((s.size:Int)<1))=true then some true else some (decide (8<(s.size:Int))))=some true:=by
   by_cases F:s.size<1
   ·have:decide ((s.size:Int)<1)=true:=by simp;omega
    simp[this]
   ·have m:decide ((s.size:Int)<1)=false:=by simp;omega
    have o:decide (8<(s.size:Int))=true:=by simp;omega
    simp[m,o]
  rw[e];simp[this]
theorem yis(s:ByteArray):ykt s=some (decide (yaf s)):=by
 unfold ykt;rw[ya1];simp only[Option.bind_some];by_cases E:1<=s.size/\ s.size<=8
 ·have o:decide ((1:Int)<=(s.size:Int)/\ (s.size:Int)<=8)=true:=by simp;omega
  have C:=yih s;obtain⟨a,b⟩:=jaj (l:=s.data.toList) (i:=0) (by omega);have w:s.data.toList.getD (0:Int).toNat 0=a:=ylc b;have v:chk ((0:Int)<=0/\ 0<(s.size:Int))=some ():=ja9 (by omega);simp only[o,Bool.not_true,Bool.false_eq_true,if_false,v,w,Option.bind_some];by_cases J:97<=(a.toNat:Int)/\ (a.toNat:Int)<=122
  ·have G:decide ((a.toNat:Int)<97)=false:=by simp;omega
   have H:decide ((122:Int)<(a.toNat:Int))=false:=by simp;omega
   simp only[G,H,Bool.false_eq_true,if_false,Option.bind_some];have key:=Go.Ab.all_loop s.data.toList ChOK (step:=yb2 s) ?_ ?_ 0 0 rfl (by omega)
   ·rcases key with⟨p,u⟩|⟨p,u⟩
    ·rw[p,jco];have:yaf s:=⟨E,fun i c hc=>u i c (by omega) hc⟩;simp[this]
    ·rw[p,jdp];have:¬yaf s:=fun A=>u fun i c _ hc=>A.2 i c hc;simp[this]
   ·intro i x m;have hi:=(List.getElem?_eq_some_iff.1 m).1;have I:s.data.toList.getD (i:Int).toNat 0=x:=by rw[Int.toNat_natCast];exact ylc m
    have hc:chk ((0:Int)<=(i:Int)/\ (i:Int)<(s.size:Int))=some ():=ja9 (by omega);have z:decide ((i:Int)<(s.size:Int))=true:=by simp;omega
    have h0:i=0->x=a:=fun h=>by subst h;rw[b]at m;cases m;rfl
    unfold yb2;simp only[z,if_true,hc,I,Option.bind_some,jah (n:=i) (by omega)];unfold ChOK;by_cases g:(x.toNat:Int)<97
    ·have y:i≠0:=fun h=>by have:=h0 h;subst this;omega
     by_cases j:(x.toNat:Int)<48
     ·right;refine⟨by simp[g,j],by omega⟩
     ·by_cases k:(57:Int)<(x.toNat:Int)
      ·right;refine⟨by simp[g,j,k],by omega⟩
      ·left;refine⟨by simp[g,j,k],.inr ⟨y,by omega,by omega⟩⟩
    ·by_cases D:(122:Int)<(x.toNat:Int)
     ·right;have j:¬(x.toNat:Int)<48:=by omega
      have k:(57:Int)<(x.toNat:Int):=by omega
      refine⟨by simp[g,D,j,k],by omega⟩
     ·left;refine⟨by simp[g,D],.inl ⟨by omega,by omega⟩⟩
   ·unfold yb2;rw[C];simp
  ·have:¬yaf s:=fun A=>by
    have:=A.2 0 a b;unfold ChOK at this;omega
   have e:(if(decide ((a.toNat:Int)<97))=true then some true else some (decide ((122:Int)<(a.toNat:Int))))=some true:=by
    by_cases F:(a.toNat:Int)<97
    ·simp[F]
    ·have:(122:Int)<(a.toNat:Int):=by omega
     simp[F,this]
   rw[e];simp[this]
 ·have o:decide ((1:Int)<=(s.size:Int)/\ (s.size:Int)<=8)=false:=by simp;omega
  have:¬yaf s:=fun h=>E h.1;simp[o,this]
theorem yit(l:List ByteArray)(g:l.length<=4000000000)(v:ByteArray):ynt l v=some (fixI (fun e=>v.toList==e.toList) l):=by
 unfold ynt;refine jd4 l (fun e=>v.toList==e.toList) (fun i x b=>?_) (by unfold yc2;simp);have hi:=(List.getElem?_eq_some_iff.1 b).1;unfold yc2;have a:decide ((i:Int)<(l.length:Int))=true:=by simp;omega
 simp only[a,if_true,jal,b,Option.bind_some,jah (n:=i) (by omega)];split<;>rfl
theorem ybk(l:List Int)(g:l.length<=4000000000)(v:Int):ykj l v=some (fixI (fun e=>v==e) l):=by
 unfold ykj;refine jd4 l (fun e=>v==e) (fun i x b=>?_) (by unfold yc3;simp);have hi:=(List.getElem?_eq_some_iff.1 b).1;unfold yc3;have a:decide ((i:Int)<(l.length:Int))=true:=by simp;omega
 simp only[a,if_true,jal,b,Option.bind_some,jah (n:=i) (by omega)];split<;>rfl
theorem ye2(x:Line)(g:x.Stops.length<=4000000000)(v:Int):yh7 x v=some (fixI (fun e=>v==e) x.Stops):=by
 have hc:fixI (fun e=>v==e) x.Stops=fixI (fun e=>e==v) x.Stops:=jgd _ fun e=>BEq.comm;rw[hc];unfold yh7;refine jd4 x.Stops (fun e=>e==v) (fun i y b=>?_) (by unfold yc6;simp);have hi:=(List.getElem?_eq_some_iff.1 b).1;unfold yc6;have a:decide ((i:Int)<(x.Stops.length:Int))=true:=by simp;omega
 simp only[a,if_true,jal,b,Option.bind_some,jah (n:=i) (by omega)];split<;>rfl
theorem yry(a b:List UInt8):(a==b)=(b==a):=BEq.comm
theorem yrc(l:List ByteArray)(g:l.length<=4000000000)(v:ByteArray):yny l v=some (fixI (fun e=>v.toList==e.toList) l):=by
 rw[jgd l (q:=fun e=>e.toList==v.toList) fun e=>yry _ _];unfold yny;refine jd4 l (fun e=>e.toList==v.toList) (fun i x b=>?_) (by unfold ydd;simp);have hi:=(List.getElem?_eq_some_iff.1 b).1;unfold ydd;have a:decide ((i:Int)<(l.length:Int))=true:=by simp;omega
 simp only[a,if_true,jal,b,Option.bind_some,jah (n:=i) (by omega)];split<;>rfl
theorem yeo(n:Network)(g:n.Lines.length<=4000000000)(v:ByteArray):yku n v=some (fixI (fun e=>v.toList==e.toList) (n.Lines.map (·.Name))):=by
 rw[jsh,jgd n.Lines (q:=fun e=>e.Name.toList==v.toList) fun e=>yry _ _];unfold yku;refine jd4 n.Lines (fun e=>e.Name.toList==v.toList) (fun i x b=>?_) (by unfold yc8;simp);have hi:=(List.getElem?_eq_some_iff.1 b).1;unfold yc8;have a:decide ((i:Int)<(n.Lines.length:Int))=true:=by simp;omega
 simp only[a,if_true,jal,b,Option.bind_some,jah (n:=i) (by omega)];split<;>rfl
def ycv(l:List ByteArray):Prop:=∀(i:Nat) x,l[i]? =some x->yaf x/\ fixI (fun e=>x.toList==e.toList) l=(i:Int)
def yan(st:Nat)(x:Line):Prop:=(2<=x.Stops.length/\ x.Stops.length<=6)/\ (x.Runs.length:Int)=(x.Stops.length:Int)-1/\
 (∀(i:Nat) e,x.Stops[i]? =some e->(0<=e/\ e<(st:Int))/\ fixI (fun y=>e==y) x.Stops=(i:Int))/\ ∀(i:Nat) r,x.Runs[i]? =some r->1<=r/\ r<=60
def Good(n:Network):Prop:=(2<=n.Stops.length/\ n.Stops.length<=8)/\ (1<=n.Lines.length/\ n.Lines.length<=5)/\ ycv n.Stops/\ ycv (n.Lines.map (·.Name))/\ ∀(i:Nat) x,n.Lines[i]? =some x->yan n.Stops.length x
noncomputable instance(l:List ByteArray):Decidable (ycv l):=Classical.propDecidable _
noncomputable instance(st:Nat)(x:Line):Decidable (yan st x):=Classical.propDecidable _
noncomputable instance(n:Network):Decidable (Good n):=Classical.propDecidable _
def Bd(n:Network):Prop:=n.Stops.length<=1000/\ n.Lines.length<=1000/\ ∀x∈n.Lines,x.Stops.length<=1000/\ x.Runs.length<=1000
theorem yeh(l:List ByteArray)(k:l.length<=1000):zq15 l=some (decide (ycv l)):=by
 unfold zq15;rw[jdi (hd:=Classical.propDecidable _) l (fun i x=>yaf x/\ fixI (fun e=>x.toList==e.toList) l=(i:Int)) (fun i x j=>?_) (by unfold yf7;simp)]
 ·by_cases h:ycv l
  ·rw[if_pos (show∀(i:Nat) x,l[i]? =some x->yaf x/\ fixI (fun e=>x.toList==e.toList) l=(i:Int) from h)];simp[h]
  ·rw[if_neg (show¬∀(i:Nat) x,l[i]? =some x->yaf x/\ fixI (fun e=>x.toList==e.toList) l=(i:Int) from h)];simp[h]
 ·have hi:=(List.getElem?_eq_some_iff.1 j).1;unfold yf7;have b:decide ((i:Int)<(l.length:Int))=true:=by simp;omega
  simp only[b,if_true,jal,j,Option.bind_some,yrg,yit l (by omega),jah (n:=i) (by omega)];by_cases a:yaf x
  ·by_cases g:fixI (fun e=>x.toList==e.toList) l=(i:Int)
   ·left;simp[a,g]
   ·right;simp[a,g]
  ·right;simp[a]
theorem yip(n:Network)(j:n.Lines.length<=1000):zq43 n=some (n.Lines.map (·.Name)):=by
 unfold zq43;rw[ja9 (by omega)];simp only[Option.bind_some];rw[jq0 (fun x:Line=>x.Name) n.Lines _ (by simp) (fun i a x y g h e=>?_) (fun a g=>?_)]
 ·rfl
 ·have hi:=(List.getElem?_eq_some_iff.1 e).1;unfold yfs;have b:decide ((i:Int)<(n.Lines.length:Int))=true:=by simp;omega
  simp only[b,if_true,jal,e,h,Option.bind_some,jah (n:=i) (by omega),Int.toNat_natCast]
 ·unfold yfs;simp
theorem yrf(n:Network)(e:Int):zq39 n e=some (decide (0<=e/\ e<(n.Stops.length:Int))):=by
 unfold zq39;by_cases h:0<=e<;>simp[h]
theorem yrh(n:Network)(e:Int):zq35 n e=some (decide (0<=e/\ e<(n.Lines.length:Int))):=by
 unfold zq35;by_cases h:0<=e<;>simp[h]
theorem yep(n:Network)(l:Line)(u:l.Stops.length<=1000)(v:l.Runs.length<=1000):zq40 n l=some (decide (yan n.Stops.length l)):=by
 unfold zq40;rw[yam];have e0:w64 ((l.Stops.length:Int)-1)=(l.Stops.length:Int)-1:=jak (by omega);simp only[Option.bind_some,e0];by_cases p:2<=l.Stops.length/\ l.Stops.length<=6
 ·have o:decide ((2:Int)<=(l.Stops.length:Int)/\ (l.Stops.length:Int)<=6)=true:=by simp;omega
  simp only[o,Bool.not_true,Bool.false_eq_true,if_false];by_cases m:(l.Runs.length:Int)=(l.Stops.length:Int)-1
  ·have d2:((l.Runs.length:Int)!=(l.Stops.length:Int)-1)=false:=by simp[m]
   simp only[d2,Option.bind_some,Bool.false_eq_true,if_false];rw[jdi (hd:=Classical.propDecidable _) l.Stops (fun i e=>(0<=e/\ e<(n.Stops.length:Int))/\ fixI (fun y=>e==y) l.Stops=(i:Int)) (fun i x k=>?_) (by unfold yfu;simp)]
   ·rw[jdi (hd:=Classical.propDecidable _) l.Runs (fun i r=>1<=r/\ r<=60) (fun i x k=>?_) (by unfold yft;simp)]
    ·by_cases a:∀(i:Nat) e,l.Stops[i]? =some e->(0<=e/\ e<(n.Stops.length:Int))/\ fixI (fun y=>e==y) l.Stops=(i:Int)
     ·rw[if_pos a];by_cases g:∀(i:Nat) r,l.Runs[i]? =some r->1<=r/\ r<=60
      ·rw[if_pos g];have:yan n.Stops.length l:=⟨p,m,a,g⟩;simp[this]
      ·rw[if_neg g];have:¬yan n.Stops.length l:=fun h=>g h.2.2.2;simp[this]
     ·rw[if_neg a];have:¬yan n.Stops.length l:=fun h=>a h.2.2.1;simp[this]
    ·have hi:=(List.getElem?_eq_some_iff.1 k).1;unfold yft;have j:decide ((i:Int)<(l.Runs.length:Int))=true:=by simp;omega
     simp only[j,if_true,jal,k,Option.bind_some,yam,jah (n:=i) (by omega)];by_cases b:1<=x/\ x<=60
     ·left;simp[b]
     ·right;simp[b]
   ·have hi:=(List.getElem?_eq_some_iff.1 k).1;unfold yfu;have j:decide ((i:Int)<(l.Stops.length:Int))=true:=by simp;omega
    simp only[j,if_true,jal,k,Option.bind_some,yrf,ybk l.Stops (by omega),jah (n:=i) (by omega)];by_cases a:0<=x/\ x<(n.Stops.length:Int)
    ·by_cases g:fixI (fun y=>x==y) l.Stops=(i:Int)
     ·left;simp[a,g]
     ·right;simp[a,g]
    ·right;simp[a]
  ·have d2:((l.Runs.length:Int)!=(l.Stops.length:Int)-1)=true:=by simp[m]
   have:¬yan n.Stops.length l:=fun h=>m h.2.1;simp[d2,this]
 ·have o:decide ((2:Int)<=(l.Stops.length:Int)/\ (l.Stops.length:Int)<=6)=false:=by simp;omega
  have:¬yan n.Stops.length l:=fun h=>p h.1;simp[o,this]
theorem yrb(l:Line)(st:Nat)(z:st<=1000)(A:l.Stops.length<=1000)(C:l.Runs.length<=1000):ynx l (st:Int)=some (decide (yaf l.Name/\ yan st l)):=by
 unfold ynx;rw[yis];have e0:w64 ((l.Stops.length:Int)-1)=(l.Stops.length:Int)-1:=jak (by omega);have w:w64 ((st:Int)-1)=(st:Int)-1:=jak (by omega);simp only[Option.bind_some,e0,ya1];by_cases u:yaf l.Name
 ·simp only[u,decide_true,Bool.not_true,Bool.false_eq_true,if_false,true_and];by_cases v:2<=l.Stops.length/\ l.Stops.length<=6
  ·have p:decide ((2:Int)<=(l.Stops.length:Int)/\ (l.Stops.length:Int)<=6)=true:=by simp;omega
   simp only[p,Bool.not_true,Bool.false_eq_true,if_false];by_cases m:(l.Runs.length:Int)=(l.Stops.length:Int)-1
   ·have d2:((l.Runs.length:Int)!=(l.Stops.length:Int)-1)=false:=by simp[m]
    simp only[d2,Option.bind_some,Bool.false_eq_true,if_false];rw[jdi (hd:=Classical.propDecidable _) l.Stops (fun i e=>(0<=e/\ e<(st:Int))/\ fixI (fun y=>e==y) l.Stops=(i:Int)) (fun i x k=>?_) (by unfold yda;simp)]
    ·rw[jdi (hd:=Classical.propDecidable _) l.Runs (fun i r=>1<=r/\ r<=60) (fun i x k=>?_) (by unfold yc9;simp)]
     ·by_cases a:∀(i:Nat) e,l.Stops[i]? =some e->(0<=e/\ e<(st:Int))/\ fixI (fun y=>e==y) l.Stops=(i:Int)
      ·rw[if_pos a];by_cases g:∀(i:Nat) r,l.Runs[i]? =some r->1<=r/\ r<=60
       ·rw[if_pos g];have:yan st l:=⟨v,m,a,g⟩;simp[this]
       ·rw[if_neg g];have:¬yan st l:=fun h=>g h.2.2.2;simp[this]
      ·rw[if_neg a];have:¬yan st l:=fun h=>a h.2.2.1;simp[this]
     ·have hi:=(List.getElem?_eq_some_iff.1 k).1;unfold yc9;have j:decide ((i:Int)<(l.Runs.length:Int))=true:=by simp;omega
      simp only[j,if_true,jal,k,Option.bind_some,ya1,jah (n:=i) (by omega)];by_cases b:1<=x/\ x<=60
      ·left;simp[b]
      ·right;simp[b]
    ·have hi:=(List.getElem?_eq_some_iff.1 k).1;unfold yda;have j:decide ((i:Int)<(l.Stops.length:Int))=true:=by simp;omega
     simp only[j,if_true,jal,k,Option.bind_some,ya1,w,ye2 l (by omega),jah (n:=i) (by omega)];by_cases a:0<=x/\ x<(st:Int)
     ·have o:decide (0<=x/\ x<=(st:Int)-1)=true:=by simp;omega
      by_cases g:fixI (fun y=>x==y) l.Stops=(i:Int)
      ·left;simp only[o];simp[a,g]
      ·right;simp only[o];simp[a,g]
     ·have o:decide (0<=x/\ x<=(st:Int)-1)=false:=by simp;omega
      right;simp only[o];simp[a]
   ·have d2:((l.Runs.length:Int)!=(l.Stops.length:Int)-1)=true:=by simp[m]
    have:¬yan st l:=fun h=>m h.2.1;simp[d2,this]
  ·have p:decide ((2:Int)<=(l.Stops.length:Int)/\ (l.Stops.length:Int)<=6)=false:=by simp;omega
   have:¬yan st l:=fun h=>v h.1;simp[p,this]
 ·simp[u]
theorem yta(n:Network)(h:Bd n):zq9 n=some (decide (Good n)):=by
 obtain⟨w,p,y⟩:=h;unfold zq9;simp only[yam,Option.bind_some,yeh n.Stops w,yip n p,yeh (n.Lines.map (·.Name)) (by simpa using p)];by_cases m:2<=n.Stops.length/\ n.Stops.length<=8
 ·have j:decide ((2:Int)<=(n.Stops.length:Int)/\ (n.Stops.length:Int)<=8)=true:=by simp;omega
  simp only[j,Bool.not_true,Bool.false_eq_true,if_false];by_cases o:1<=n.Lines.length/\ n.Lines.length<=5
  ·have d2:decide ((1:Int)<=(n.Lines.length:Int)/\ (n.Lines.length:Int)<=5)=true:=by simp;omega
   simp only[d2,Bool.not_true,Bool.false_eq_true,if_false];by_cases a:ycv n.Stops
   ·simp only[a,decide_true,Bool.not_true,Bool.false_eq_true,if_false];by_cases e:ycv (n.Lines.map (·.Name))
    ·simp only[e,decide_true,Bool.not_true,Option.bind_some,Bool.false_eq_true,if_false];rw[jdi (hd:=Classical.propDecidable _) n.Lines (fun i x=>yan n.Stops.length x) (fun i x l=>?_) (by unfold yln;simp)]
     ·by_cases g:∀(i:Nat) x,n.Lines[i]? =some x->yan n.Stops.length x
      ·rw[if_pos g];have:Good n:=⟨m,o,a,e,g⟩;simp[this]
      ·rw[if_neg g];have:¬Good n:=fun h=>g h.2.2.2.2;simp[this]
     ·have hi:=(List.getElem?_eq_some_iff.1 l).1;obtain⟨u,v⟩:=y x (List.mem_of_getElem? l);unfold yln;have k:decide ((i:Int)<(n.Lines.length:Int))=true:=by simp;omega
      simp only[k,if_true,jal,l,Option.bind_some,yep n x u v,jah (n:=i) (by omega)];by_cases b:yan n.Stops.length x
      ·left;simp[b]
      ·right;simp[b]
    ·have:¬Good n:=fun h=>e h.2.2.2.1;simp[e,this]
   ·have:¬Good n:=fun h=>a h.2.2.1;simp[a,this]
  ·have d2:decide ((1:Int)<=(n.Lines.length:Int)/\ (n.Lines.length:Int)<=5)=false:=by simp;omega
   have:¬Good n:=fun h=>o h.2.1;simp[d2,this]
 ·have j:decide ((2:Int)<=(n.Stops.length:Int)/\ (n.Stops.length:Int)<=8)=false:=by simp;omega
  have:¬Good n:=fun h=>m h.1;simp[j,this]
theorem yri(n:Network)(h:Bd n):ykv n=some (decide (Good n)):=by
 obtain⟨w,A,z⟩:=h;unfold ykv;simp only[ya1,Option.bind_some];by_cases l:2<=n.Stops.length/\ n.Stops.length<=8
 ·have k:decide ((2:Int)<=(n.Stops.length:Int)/\ (n.Stops.length:Int)<=8)=true:=by simp;omega
  simp only[k,Bool.not_true,Bool.false_eq_true,if_false];by_cases m:1<=n.Lines.length/\ n.Lines.length<=5
  ·have d2:decide ((1:Int)<=(n.Lines.length:Int)/\ (n.Lines.length:Int)<=5)=true:=by simp;omega
   simp only[d2,Bool.not_true,Option.bind_some,Bool.false_eq_true,if_false];rw[jdi (hd:=Classical.propDecidable _) n.Stops (fun i x=>yaf x/\ fixI (fun e=>x.toList==e.toList) n.Stops=(i:Int)) (fun i x a=>?_) (by unfold ydc;simp)]
   ·rw[jdi (hd:=Classical.propDecidable _) n.Lines (fun i x=>(yaf x.Name/\ yan n.Stops.length x)/\ fixI (fun e=>x.Name.toList==e.toList) (n.Lines.map (·.Name))=(i:Int)) (fun i x a=>?_) (by unfold ydb;simp)]
    ·by_cases b:ycv n.Stops
     ·rw[if_pos (show∀(i:Nat) x,n.Stops[i]? =some x->yaf x/\ fixI (fun e=>x.toList==e.toList) n.Stops=(i:Int) from b)];by_cases g:∀(i:Nat) x,n.Lines[i]? =some x->(yaf x.Name/\ yan n.Stops.length x)/\ fixI (fun e=>x.Name.toList==e.toList) (n.Lines.map (·.Name))=(i:Int)
      ·rw[if_pos g];have:Good n:=⟨l,m,b,fun i y p=>by
        rw[List.getElem?_map]at p;obtain⟨x,a,rfl⟩:=Option.map_eq_some_iff.1 p;exact⟨(g i x a).1.1,(g i x a).2⟩,fun i x a=>(g i x a).1.2⟩
       simp[this]
      ·rw[if_neg g];have:¬Good n:=fun h=>g fun i x a=>by
        have o:=h.2.2.2.1 i x.Name (by rw[List.getElem?_map,a];rfl);exact⟨⟨o.1,h.2.2.2.2 i x a⟩,o.2⟩
       simp[this]
     ·rw[if_neg (show¬∀(i:Nat) x,n.Stops[i]? =some x->yaf x/\ fixI (fun e=>x.toList==e.toList) n.Stops=(i:Int) from b)];have:¬Good n:=fun h=>b h.2.2.1;simp[this]
    ·have hi:=(List.getElem?_eq_some_iff.1 a).1;obtain⟨u,v⟩:=z x (List.mem_of_getElem? a);unfold ydb;have j:decide ((i:Int)<(n.Lines.length:Int))=true:=by simp;omega
     simp only[j,if_true,jal,a,Option.bind_some,yrb x n.Stops.length w u v,yeo n (by omega),jah (n:=i) (by omega)];by_cases b:yaf x.Name/\ yan n.Stops.length x
     ·by_cases g:fixI (fun e=>x.Name.toList==e.toList) (n.Lines.map (·.Name))=(i:Int)
      ·left;simp[b,g]
      ·right;simp[b,g]
     ·right;simp[b]
   ·have hi:=(List.getElem?_eq_some_iff.1 a).1;unfold ydc;have j:decide ((i:Int)<(n.Stops.length:Int))=true:=by simp;omega
    simp only[j,if_true,jal,a,Option.bind_some,yis,yrc n.Stops (by omega),jah (n:=i) (by omega)];by_cases b:yaf x
    ·by_cases g:fixI (fun e=>x.toList==e.toList) n.Stops=(i:Int)
     ·left;simp[b,g]
     ·right;simp[b,g]
    ·right;simp[b]
  ·have d2:decide ((1:Int)<=(n.Lines.length:Int)/\ (n.Lines.length:Int)<=5)=false:=by simp;omega
   have:¬Good n:=fun h=>m h.2.1;simp[d2,this]
 ·have k:decide ((2:Int)<=(n.Stops.length:Int)/\ (n.Stops.length:Int)<=8)=false:=by simp;omega
  have:¬Good n:=fun h=>l h.1;simp[k,this]
theorem ynf(l:List Int)(h:l.length<=1000):yck l=some l:=by
 unfold yck;rw[ja9 (by simp;omega)];rfl
theorem ytn(n:Network)(h:Bd n):yks n=some n:=by
 obtain⟨o,p,l⟩:=h;unfold yks;rw[ja9 (by simp;omega)];simp only[Option.bind_some];rw[jsk (fun x:Line=>x) n.Lines (fun i a x m g=>?_) (fun a m=>?_)]
 ·simp only[Option.bind_some,List.map_id',List.nil_append]
 ·have hi:=(List.getElem?_eq_some_iff.1 g).1;obtain⟨j,k⟩:=l x (List.mem_of_getElem? g);unfold yc7;have e:decide ((i:Int)<(n.Lines.length:Int))=true:=by simp;omega
  have b:∀y:Line,chk (a.length+([y]:List Line).length<=4294967296)=some ():=fun y=>ja9 (by simp;omega);simp only[e,if_true,jal,g,Option.bind_some,ynf _ j,ynf _ k,b,jah (n:=i) (by omega)]
 ·unfold yc7;simp
theorem yog(n:Network)(h:Bd n):ykq n=some n:=by
 have:ykq n=yks n:=rfl;rw[this];exact ytn n h
theorem yrd(s:List Int)(hs:s.length<=1000):yxq s=some s.reverse:=by
 unfold yxq;have e0:w64 ((s.length:Int)-1)=(s.length:Int)-1:=jak (by omega);rw[e0];have h:=jb5 (step:=yde s) (fun m a=>∃j:Nat,a.1=(s.length:Int)-1-j/\ m+j=s.length/\ a.2=s.reverse.take j) (fun b=>b=s.reverse) ?_ (k:=s.length) (a:=((s.length:Int)-1,[])) ⟨0,by simp,by omega,by simp⟩
 ·obtain⟨b,hb,rfl⟩:=h;rw[hb];rfl
 rintro m ⟨v,i⟩ ⟨j,y,A,hi⟩;simp only at y hi;subst y;by_cases p:j<s.length
 ·left;have ev:(s.length:Int)-1-j=((s.length-1-j:Nat):Int):=by omega
  rw[ev];obtain⟨e,u⟩:=jaj (l:=s) (i:=s.length-1-j) (by omega);have hd:decide ((0:Int)<=((s.length-1-j:Nat):Int))=true:=by simp
  have w:i.length=j:=by rw[hi];simp;omega
  have o:chk (i.length+([e]:List Int).length<=4294967296)=some ():=ja9 (by simp;omega);have g:w64 (((s.length-1-j:Nat):Int)-1)=(s.length:Int)-1-((j+1:Nat):Int):=by rw[jak (by omega)];omega
  refine⟨((s.length:Int)-1-((j+1:Nat):Int),i++[e]),m-1,?_,by omega,j+1,rfl,by omega,?_⟩
  ·unfold yde;simp only[hd,if_true,jal,u,o,Option.bind_some,g]
  ·show i++[e]=_;rw[jap (x:=e) (by rw[List.getElem?_reverse p];exact u),hi]
 ·right;have z:j=s.length:=by omega
  subst z;have hd:decide ((0:Int)<=(s.length:Int)-1-(s.length:Int))=false:=by simp;omega
  refine⟨i,by unfold yde;simp only[hd,Bool.false_eq_true,if_false],?_⟩;rw[hi,List.take_of_length_le (by simp)]
theorem ye3(s:List Int)(hs:s.length<=1000):ygq s=some s.reverse:=yrd s hs
def LB(x:Line):Prop:=(2<=x.Stops.length/\ x.Stops.length<=10)/\ 1<=x.Runs.length/\ x.Runs.length<=10
def NB(n:Network):Prop:=(2<=n.Stops.length/\ n.Stops.length<=6)/\ (1<=n.Lines.length/\ n.Lines.length<=8)/\ ∀x∈n.Lines,LB x
theorem NB.bd{n:Network}(h:NB n):Bd n:=⟨by have:=h.1;omega,by have:=h.2.1;omega,fun x a=>by have:=h.2.2 x a;unfold LB at this;omega⟩
theorem yng(n:Int)(h0:0<=n)(g:n<10):∃r,yn1 n=some r/\ r.size<=10:=by
 have e:yn1 n=ybw (ygu 4294967295) n:=rfl;rw[e];unfold ybw;have a:decide (n<0)=false:=by simp;omega
 have d2:decide (n<10)=true:=by simp;omega
 have b:w64 (n+1)=n+1:=jak (by omega);have hs:(str [48,49,50,51,52,53,54,55,56,57]).size=10:=rfl;simp only[a,d2,Bool.false_eq_true,if_false,if_true,b,hs];rw[ja9 (by omega)];refine⟨_,rfl,?_⟩;rw[ByteArray.size_extract,hs];omega
theorem yq9{k:Nat}{c:l1Cur}(x:ByteArray)(g:Int)(hs:2<=g/\ g<=1000)(h:Cur k c)(hk:k<=1000000000):∃r,zq99 c x g=some r/\ Cur (k+40) r.2/\ LB r.1:=by
 unfold zq99;obtain⟨r,hr,hc,h0,h1⟩:=yab g h (by omega);obtain⟨D,V,O,aa,ab⟩:=yab 3 hc (by omega);simp only[hr,V,Option.bind_some];have M:w64 (2+D.1)=((2+D.1.toNat:Nat):Int):=by rw[jak (by omega)];omega
 rw[M];have J:∃b,iter (ye9 x g) (r.1,((2+D.1.toNat:Nat):Int),D.2.code_,D.2.at_,D.2.seed_.v,[])=some b/\ (Cur (k+4+2*4) ⟨b.1,b.2.1,⟨b.2.2.1⟩⟩/\ 1<=b.2.2.2.length/\ b.2.2.2.length<=4):=by
  refine jb5 (fun m a=>(0<=a.1/\ a.1<g)/\ a.2.1=(m:Int)/\ m+a.2.2.2.2.2.length<=4/\ (1<=m \/1<=a.2.2.2.2.2.length)/\ Cur (k+4+2*(4-m)) ⟨a.2.2.1,a.2.2.2.1,⟨a.2.2.2.2.1⟩⟩) _ ?_ (k:=2+D.1.toNat) ⟨⟨h0,by show r.1<g;omega⟩,rfl,by simp;omega,.inl (by omega),O.mono (by omega)⟩;rintro m ⟨v,v1,v2,v3,v4,A⟩ ⟨hv,H,Q,T,o⟩;simp only at hv H Q T o;subst H;unfold ye9;cases m with
  |zero=>right;exact⟨_,by simp;rfl,o,by show 1<=A.length;omega,by show A.length<=4;omega⟩
  |succ m=>
   left;have G:decide ((0:Int)<((m+1:Nat):Int))=true:=by simp
   obtain⟨Y,W,E,ac,ad⟩:=yab 2 o (by omega);have U:=ye2 (⟨x,A,[]⟩:Line) (by show A.length<=_;omega) v;have u:chk (A.length+([v]:List Int).length<=4294967296)=some ():=ja9 (by simp;omega);have w:chk (g≠0)=some ():=ja9 (by omega);have w1:w64 (v+1)=v+1:=jak (by omega);have w2:w64 (v+1+Y.1)=v+1+Y.1:=jak (by omega);have ht:=jjk (a:=v+1+Y.1) (b:=g) (by omega) (by omega);simp only[G,if_true,U,u,W,w,w1,w2,Option.bind_some];have w3:w64 (((m+1:Nat):Int)-1)=(m:Int):=jff (by omega);split
   ·refine⟨_,m,by simp only[Option.bind_some];rfl,by omega,ht,w3,?_,.inr ?_,?_⟩
    ·simp;omega
    ·simp
    ·exact E.mono (by omega)
   ·rename_i hn;refine⟨_,m,by simp only[Option.bind_some];rfl,by omega,ht,w3,?_,.inr ?_,?_⟩
    ·show m+A.length<=4;omega
    ·show 1<=A.length;cases A with
     |nil=>simp[fixI]at hn
     |cons a l=>simp
    ·exact E.mono (by omega)
 obtain⟨⟨v7,v8,v9,p⟩,hb,F,S⟩:=J;simp only at F S;rw[hb];simp only[Option.bind_some];have Z:∃j:List Int,(if decide ((p.length:Int)<2)=true then(idx p 0).bind fun M=>(chk ((g:Int)≠0)).bind fun u4=>(chk (p.length+([((w64 (M+1)).tmod g)]:List Int).length<=4294967296)).bind fun u5=>some (p++([((w64 (M+1)).tmod g)]:List Int))else some p)=some j/\ 2<=j.length/\ j.length<=5:=by
  by_cases h2:(p.length:Int)<2
  ·obtain⟨e,he,_⟩:=jdu (l:=p) (i:=0) (by omega) (by omega);have u:∀y:Int,chk (p.length+([y]:List Int).length<=4294967296)=some ():=fun y=>ja9 (by simp;omega);have w:chk (g≠0)=some ():=ja9 (by omega);refine⟨p++[(w64 (e+1)).tmod g],by simp only[h2,decide_true,if_true,he,w,u,Option.bind_some],?_,?_⟩
   ·simp;omega
   ·simp;omega
  ·exact⟨p,by simp[h2],by omega,by omega⟩
 obtain⟨j,I,l1,l2⟩:=Z;rw[I];simp only[Option.bind_some];have C:∃b,iter (ye8 j) (1,v7,v8,v9,[])=some b/\ (Cur (k+40) ⟨b.1,b.2.1,⟨b.2.2.1⟩⟩/\ b.2.2.2.length+1=j.length):=by
  refine jb5 (fun m a=>∃i:Nat,a.1=(i:Int)/\ m+i=j.length/\ a.2.2.2.2.length+1=i/\ Cur (k+12+2*i) ⟨a.2.1,a.2.2.1,⟨a.2.2.2.1⟩⟩) _ ?_ (k:=j.length-1) ⟨1,rfl,by omega,rfl,F.mono (by omega)⟩;rintro m ⟨af,ah,ai,aj,K⟩ ⟨i,hi,hm,Q,o⟩;simp only at hi Q o;subst hi;unfold ye8;by_cases ae:i<j.length
  ·left;have hd:decide ((i:Int)<(j.length:Int))=true:=by simp;omega
   obtain⟨r5,X,P,_⟩:=yab 12 o (by omega);have u:∀y:Int,chk (K.length+([y]:List Int).length<=4294967296)=some ():=fun y=>ja9 (by simp;omega);refine⟨_,m-1,by simp only[hd,if_true,X,u,Option.bind_some,jah (n:=i) (by omega)];rfl,by omega,i+1,rfl,by omega,?_,?_⟩
   ·simp;omega
   ·exact P.mono (by omega)
  ·right;have hd:decide ((i:Int)<(j.length:Int))=false:=by simp;omega
   refine⟨_,by simp only[hd,Bool.false_eq_true,if_false];rfl,?_,?_⟩
   ·exact o.mono (by omega)
   ·show K.length+1=_;omega
 obtain⟨⟨ak,am,ao,L⟩,N,z,R⟩:=C;simp only at z R;rw[N];simp only[Option.bind_some];exact⟨_,rfl,z,⟨l1,by show j.length<=10;omega⟩,by show 1<=L.length;omega,by show L.length<=10;omega⟩
theorem yti{k:Nat}{c:l1Cur}(b:ByteArray)(a:Int)(hs:2<=a/\ a<=1000)(h:Cur k c)(e:k<=1000000000):∃r,yn6 c b a=some r/\ Cur (k+40) r.2/\ LB r.1:=yq9 b a hs h e
theorem ywm(i:Nat)(a:2<=i)(b:i<=6)(l:List ByteArray)(e:l.length=6):2<=((l.take i).drop (0:Int).toNat).length/\ ((l.take i).drop (0:Int).toNat).length<=6:=by
 simp;omega
theorem yaz{k:Nat}{c:l1Cur}(h:Cur k c)(hk:k<=500000000):∃r,yn4 c=some r/\ Cur (k+300) r.2/\ NB r.1:=by
 unfold yn4;obtain⟨r,hr,hc,h0,h1⟩:=yab 5 h (by omega);have e1:w64 (2+r.1)=2+r.1:=jak (by omega);have w:([(str [112,111,114,116]),(str [109,105,108,108]),(str [112,97,114,107]),(str [104,97,108,108]),(str [100,111,99,107]),(str [102,97,105,114])]:List ByteArray).length=6:=rfl;simp only[hr,Option.bind_some,e1,w];rw[ja9 (by omega)];obtain⟨z,R,M,aa,ab⟩:=yab 3 hc (by omega);have e2:w64 (1+z.1)=((1+z.1.toNat:Nat):Int):=by rw[jak (by omega)];omega
 simp only[R,Option.bind_some,e2];have H:∃b,iter (ydh r) (((1+z.1.toNat:Nat):Int),z.2.code_,z.2.at_,z.2.seed_.v,[])=some b/\ (Cur (k+4+40*3) ⟨b.1,b.2.1,⟨b.2.2.1⟩⟩/\ (1<=b.2.2.2.length/\ b.2.2.2.length<=3)/\ ∀x∈b.2.2.2,LB x):=by
  refine jb5 (fun m a=>a.1=(m:Int)/\ m+a.2.2.2.2.length<=3/\ 1<=m+a.2.2.2.2.length/\ (∀x∈a.2.2.2.2,LB x)/\ Cur (k+4+40*(3-m)) ⟨a.2.1,a.2.2.1,⟨a.2.2.2.1⟩⟩) _ ?_ (k:=1+z.1.toNat) ⟨rfl,by simp;omega,by simp,by simp,M.mono (by omega)⟩;rintro m ⟨x,v,v1,v2,X⟩ ⟨hx,hl,Q,u,p⟩;simp only at hx hl Q u p;subst hx;unfold ydh;cases m with
  |zero=>right;exact⟨_,by simp;rfl,p,⟨by show 1<=X.length;omega,by show X.length<=3;omega⟩,u⟩
  |succ m=>
   left;have G:decide ((0:Int)<((m+1:Nat):Int))=true:=by simp
   obtain⟨r4,S,ac⟩:=yng ((m+1:Nat):Int) (by omega) (by omega);have hs:(str [108]).size=1:=rfl;have O:chk ((str [108]).size+r4.size<=4294967296)=some ():=ja9 (by omega);obtain⟨r5,T,N,L⟩:=yti (str [108]++r4) (2+r.1) (by omega) p (by omega);have o:∀y:Line,chk (X.length+([y]:List Line).length<=4294967296)=some ():=fun y=>ja9 (by simp;omega);refine⟨_,m,by simp only[G,if_true,S,O,e1,T,o,Option.bind_some];rfl,by omega,?_,?_,?_,?_,?_⟩
   ·exact jff (by omega)
   ·simp;omega
   ·simp;omega
   ·intro y hy;rcases List.mem_append.1 hy with hy|hy
    ·exact u y hy
    ·simp at hy;subst hy;exact L
   ·exact N.mono (by omega)
 obtain⟨⟨v4,v5,v6,v7⟩,hb,E,u,g⟩:=H;simp only at E u g;rw[hb];simp only[Option.bind_some];obtain⟨r6,U,D⟩:=ync 2 E (by omega);simp only[U,Option.bind_some];have C:∀(Y:List UInt8)(Z A:Int)(j:List Line),Cur (k+200) ⟨Y,Z,⟨A⟩⟩->(1<=j.length/\ j.length<=8)->(∀x∈j,LB x)->
   ∃W,((ykq (⟨((([(str [112,111,114,116]),(str [109,105,108,108]),(str [112,97,114,107]),(str [104,97,108,108]),(str [100,111,99,107]),(str [102,97,105,114])]:List ByteArray).take (2+r.1).toNat).drop (0:Int).toNat),j⟩:Network)).bind fun I=>some ((⟨I.Stops,I.Lines⟩:Network),(⟨Y,Z,(⟨A⟩:IK .u64)⟩:l1Cur)))=some W/\ Cur (k+300) W.2/\ NB W.1:=by
  intro Y Z A j J K g3;have V:=ywm (2+r.1).toNat (by omega) (by omega) _ w;have F:NB (⟨((([(str [112,111,114,116]),(str [109,105,108,108]),(str [112,97,114,107]),(str [104,97,108,108]),(str [100,111,99,107]),(str [102,97,105,114])]:List ByteArray).take (2+r.1).toNat).drop (0:Int).toNat),j⟩:Network):=⟨V,K,g3⟩;rw[yog _ F.bd];exact⟨_,rfl,J.mono (by omega),F⟩
 split
 ·obtain⟨e,he,_,P⟩:=jdu (l:=v7) (i:=0) (by omega) (by omega);obtain⟨J,K⟩:=g e P;have o:∀y:Line,chk (v7.length+([y]:List Line).length<=4294967296)=some ():=fun y=>ja9 (by simp;omega);simp only[he,ye3 e.Stops (by omega),ye3 e.Runs (by omega),o,Option.bind_some];refine C _ _ _ _ (D.mono (by omega)) (by simp;omega) fun y hy=>?_;rcases List.mem_append.1 hy with hy|hy
  ·exact g y hy
  ·simp at hy;subst hy;exact⟨by simpa using J,by simpa using K⟩
 ·simp only[Option.bind_some];exact C _ _ _ _ (D.mono (by omega)) (by omega) g
theorem yhy{k:Nat}{c:l1Cur}(h:Cur k c)(hk:k<=200000000):∃r,zq95 c=some r/\ Cur (k+1000) r.2/\ Bd r.1:=by
 unfold zq95;obtain⟨r,hr,hc,ao⟩:=yaz h (by omega);obtain⟨n1,n2,C⟩:=ao;obtain⟨X,ap,ab,G,aE⟩:=yab (r.1.Lines.length:Int) hc (by omega);obtain⟨e,he,aG,ak⟩:=jdu (l:=r.1.Lines) (i:=X.1) G (by omega);obtain⟨g1,g2⟩:=C e ak;obtain⟨r2,aq,g,_⟩:=yab 24 ab (by omega);simp only[hr,ap,he,aq,Option.bind_some];have j:∀(v:List UInt8)(v1 v2:Int)(v3:ByteArray)(Y:List ByteArray)(F:List Line)(Z:List Int),Cur (k+900) ⟨v,v1,⟨v2⟩⟩->Y.length<=6->F.length=r.1.Lines.length->(∀x∈F,LB x)->Z.length<=11->
   ∃r',((idx F X.1).bind fun W=>some ((⟨Y,(F.set X.1.toNat (⟨v3,W.Stops,Z⟩:Line))⟩:Network),(⟨v,v1,(⟨v2⟩:IK .u64)⟩:l1Cur)))=some r'/\ Cur (k+1000) r'.2/\ Bd r'.1:=by
  intro v v1 v2 v3 Y F Z q1 q2 q3 q4 q5;obtain⟨W,aj,_,am⟩:=jdu (l:=F) (i:=X.1) G (by omega);rw[aj];refine⟨_,rfl,q1.mono (by omega),by show Y.length<=_;omega,by simp;omega,fun x hx=>?_⟩;rcases List.mem_or_eq_of_mem_set hx with hx|hx
  ·have:=q4 x hx;unfold LB at this;omega
  ·subst hx;have:=q4 W am;unfold LB at this;exact⟨by show W.Stops.length<=_;omega,by show Z.length<=_;omega⟩
 split
 ·obtain⟨r4,ar,ac,_⟩:=yuc ([(str [109,105,108,108]),(str []),(str [65]),(str [97,98,99,100,101,102,103,104]),(str [97,98,99,100,101,102,103,104,105])]:List ByteArray) (by simp) g (by omega);obtain⟨e2,O,_⟩:=jdu (l:=r.1.Stops) (i:=0) (by omega) (by omega);simp only[ar,O,Option.bind_some,jco];exact j _ _ _ _ _ _ _ (ac.mono (by omega)) (by simp;omega) rfl C (by omega)
 split
 ·obtain⟨r5,au,ad,_⟩:=yuc ([(str [114,49]),(str [108,49]),(str []),(str [88])]:List ByteArray) (by simp) g (by omega);simp only[au,Option.bind_some,jco];exact j _ _ _ _ _ _ _ (ad.mono (by omega)) (by omega) rfl C (by omega)
 split
 ·obtain⟨r8,aw,ae,aa,aF⟩:=yab (e.Stops.length:Int) g (by omega);obtain⟨r9,ax,af,_⟩:=yab 10 ae (by omega);obtain⟨e4,ah,_⟩:=jdu (l:=e.Stops) (i:=r8.1) aa (by omega);simp only[aw,ax,ah,Option.bind_some,jco];refine j _ _ _ _ _ _ _ (af.mono (by omega)) (by omega) (by simp) (fun x hx=>?_) (by show e.Runs.length<=11;omega);rcases List.mem_or_eq_of_mem_set hx with hx|hx
  ·exact C x hx
  ·subst hx;exact⟨by simpa using g1,g2⟩
 split
 ·obtain⟨ay,P,J,H,aA⟩:=yab (e.Runs.length:Int) g (by omega);obtain⟨aI,Q,K,_⟩:=yej ([0,60,61,(-1)]:List Int) (by simp) J (by omega);obtain⟨e6,ai,_⟩:=jdu (l:=e.Runs) (i:=ay.1) H (by omega);simp only[P,Q,ai,Option.bind_some,jco];refine j _ _ _ _ _ _ _ (K.mono (by omega)) (by omega) (by simp) (fun x hx=>?_) (by simp;omega);rcases List.mem_or_eq_of_mem_set hx with hx|hx
  ·exact C x hx
  ·subst hx;exact⟨g1,by simpa using g2⟩
 split
 ·have D:chk (e.Runs.length+([3]:List Int).length<=4294967296)=some ():=ja9 (by simp;omega);simp only[D,Option.bind_some,jco];exact j _ _ _ _ _ _ _ (g.mono (by omega)) (by omega) rfl C (by simp;omega)
 split
 ·simp only[jdp];exact⟨_,rfl,g.mono (by omega),by show r.1.Stops.length<=_;omega,by simp,by simp⟩
 split
 ·have U:∃b,iter (yfa r) (0,r2.2.code_,r2.2.at_,r2.2.seed_.v,r.1.Lines)=some b/\ (Cur (k+900) ⟨b.1,b.2.1,⟨b.2.2.1⟩⟩/\ b.2.2.2.length<=20/\ ∀x∈b.2.2.2,LB x):=by
   refine jb5 (fun m a=>∃i:Nat,a.1=(i:Int)/\ m+i=8/\ i<=7/\ a.2.2.2.2.length<=8+i/\ (∀x∈a.2.2.2.2,LB x)/\ Cur (k+310+50*i) ⟨a.2.1,a.2.2.1,⟨a.2.2.2.1⟩⟩) _ ?_ (k:=8) ⟨0,rfl,rfl,by omega,by simpa using n2.2,C,g.mono (by omega)⟩;rintro m ⟨v7,v8,v9,aK,p⟩ ⟨i,hi,hm,aH,hl,u,A⟩;simp only at hi hl u A;subst hi;unfold yfa;obtain⟨o,R,z,aB,aC⟩:=yab 2 A (by omega);have w1:w64 (5+o.1)=5+o.1:=jak (by omega);simp only[R,w1,Option.bind_some];by_cases a1:(p.length:Int)<5+o.1/\ (i:Int)<7
   ·left;have d1:decide ((p.length:Int)<5+o.1)=true:=by simp;omega
    have d2:decide ((i:Int)<7)=true:=by simp;omega
    obtain⟨V,S,aD⟩:=yng (i:Int) (by omega) (by omega);have hs:(str [120]).size=1:=rfl;have D:chk ((str [120]).size+V.size<=4294967296)=some ():=ja9 (by omega);obtain⟨aJ,T,L,I⟩:=yq9 (str [120]++V) (r.1.Stops.length:Int) (by omega) z (by omega);have N:∀y:Line,chk (p.length+([y]:List Line).length<=4294967296)=some ():=fun y=>ja9 (by simp;omega);refine⟨_,m-1,by simp only[d1,d2,if_true,S,D,T,N,Option.bind_some,jah (n:=i) (by omega)];rfl,by omega,i+1,rfl,by omega,by omega,?_,fun x hx=>?_,?_⟩
    ·simp;omega
    ·rcases List.mem_append.1 hx with hx|hx
     ·exact u x hx
     ·simp at hx;subst hx;exact I
    ·exact L.mono (by omega)
   ·right;have E:(if decide ((p.length:Int)<5+o.1)=true then some (decide ((i:Int)<7))else some false)=some false:=by
     by_cases b1:(p.length:Int)<5+o.1
     ·have:decide ((i:Int)<7)=false:=by simp;omega
      simp[b1,this]
     ·simp[b1]
    refine⟨_,by simp only[E,Option.bind_some,Bool.false_eq_true,if_false];rfl,?_,?_,u⟩
    ·exact z.mono (by omega)
    ·show p.length<=20;omega
  obtain⟨⟨aL,aM,aN,az⟩,hb,M,u,w⟩:=U;simp only at M u w;rw[hb];simp only[Option.bind_some,jdp];refine⟨_,rfl,M.mono (by omega),by show r.1.Stops.length<=_;omega,by show az.length<=_;omega,fun x hx=>?_⟩;have:=w x hx;unfold LB at this;omega
 ·simp only[jco];exact j _ _ _ _ _ _ _ (g.mono (by omega)) (by omega) rfl C (by omega)
def TB(t:Timetable):Prop:=Bd t.Network/\ t.Trips.length<=1000
def ycb(n:Network)(x:Trip):Prop:=(1<=x.Id/\ x.Id<=999)/\ ∃l,idx n.Lines x.Line=some l/\ (0<=x.Start/\ x.Start<=1799)/\ 0<=x.Start+l.Runs.sum/\ x.Start+l.Runs.sum<=1799
def ycc(t:Timetable):Prop:=Good t.Network/\ t.Trips.length<=12/\ (∀(i:Nat) x,t.Trips[i]? =some x->ycb t.Network x)/\ ∀(i:Nat) a b,t.Trips[i]? =some a->t.Trips[i+1]? =some b->a.Id<b.Id
noncomputable instance(t:Timetable):Decidable (ycc t):=Classical.propDecidable _
noncomputable instance(n:Network)(x:Trip):Decidable (ycb n x):=Classical.propDecidable _
theorem yqv(t:Int):zq11 t=some (decide (0<=t/\ t<=1799)):=by
 unfold zq11;rw[yam];rfl
theorem yir(t:Int):yem t=some (decide (0<=t/\ t<=1799)):=by
 unfold yem;rw[ya1];rfl
theorem ytd(l:List Int)(b:l.length<=1000000)(e:∀x∈l,0<=x/\ x<=1000000):zq52 l=some l.sum:=by
 unfold zq52;rw[jry (fun x:Int=>x) l b e (fun i s x a=>?_) (fun s=>?_)]
 ·simp
 ·have:=ja7 a;unfold yfq;simp(disch:=omega) only[if_pos,if_neg,decide_eq_true_eq,decide_true,decide_false,Bool.not_true,Bool.not_false,Bool.false_eq_true,Bool.not_eq_true',decide_eq_false_iff_not,if_true,if_false,jak,ja9,jal,Option.bind_some,Option.map_some,Int.toNat_natCast,not_true_eq_false,not_false_eq_true,true_and,and_true,and_self,false_and,and_false,reduceIte,jco,jdp,beq_self_eq_true,ne_eq,bne_self_eq_false,Int.ofNat_lt.2 this,a]
 ·unfold yfq;simp
theorem ytm(x:Line)(a b:Nat)(w:a<=b)(hb:b<=x.Runs.length)(C:x.Runs.length<=1000)(o:∀r∈x.Runs,0<=r/\ r<=1000000):yh6 x (a:Int) (b:Int)=some (((x.Runs.take b).drop a).sum):=by
 unfold yh6;refine Tot.val (.call (P:=fun v=>v=((x.Runs.take b).drop a).sum) ?_ fun v h=>.ok h);refine .iter (fun m s=>∃k:Nat,s.2=((a+k:Nat):Int)/\ m+k=b-a/\ s.1=(((x.Runs.take b).drop a).take k).sum) (n:=b-a) ⟨0,by simp,by omega,by simp⟩ ?_;rintro m ⟨s,v⟩ ⟨k,p,D,hs⟩;simp only at p hs;subst p;unfold ygk;refine .iteP (fun hc=>?_) (fun hc=>.dn ?_)
 ·obtain⟨r,g⟩:=jaj (l:=x.Runs) (i:=a+k) (by omega);have j:((x.Runs.take b).drop a)[k]? =some r:=by
   rw[List.getElem?_drop,List.getElem?_take_of_lt (by omega)];exact g
  have z:=o r (List.mem_of_getElem? g);have e:=jpa (l:=((x.Runs.take b).drop a).take k) (M:=1000000) fun y A=>o y (List.mem_of_mem_take (List.mem_of_mem_drop (List.mem_of_mem_take A)));have u:((((x.Runs.take b).drop a).take k).length:Int)<=1000:=by simp;omega
  rw[<-hs]at e;refine .eq (by rw[jal];exact g) (.nx ⟨m-1,by omega,k+1,?_,by omega,?_⟩)
  ·show w64 (((a+k:Nat):Int)+1)=_;rw[jak (by omega)];omega
  ·show w64 (s+r)=_;rw[jak (by omega),jjo j,hs]
 ·rw[hs,List.take_of_length_le (by rw[List.length_drop,List.length_take];omega)]
theorem yb7{n:Network}(h:Good n){k:Int}{l:Line}(a:idx n.Lines k=some l):yan n.Stops.length l:=h.2.2.2.2 _ l (jkc a).2.2
theorem yin{st:Nat}{l:Line}(h:yan st l){j:Nat}{s:Int}(hs:l.Stops[j]? =some s):0<=s/\ s<(st:Int):=(h.2.2.1 j s hs).1
theorem ya0{st:Nat}{l:Line}(h:yan st l):(l.Runs.length+1=l.Stops.length/\ 1<=l.Runs.length/\ l.Runs.length<=5)/\ ∀r∈l.Runs,1<=r/\ r<=60:=by
 obtain⟨e,g,j,a⟩:=h;refine⟨by omega,fun r b=>?_⟩;obtain⟨i,hi⟩:=List.getElem?_of_mem b;exact a i r hi
theorem ym8{st:Nat}{l:Line}(h:yan st l)(k:Nat):0<=(l.Runs.take k).sum/\ (l.Runs.take k).sum<=300:=by
 obtain⟨⟨e,g,i⟩,a⟩:=ya0 h;have:=jpa (l:=l.Runs.take k) (M:=60) fun x b=>by have:=a x (List.mem_of_mem_take b);omega
 have j:((l.Runs.take k).length:Int)<=5:=by simp;omega
 omega
theorem yqx{st:Nat}{l:Line}(h:yan st l):0<=l.Runs.sum/\ l.Runs.sum<=300:=by
 have:=ym8 h l.Runs.length
 rwa [List.take_length]at this
theorem ynl{t:Timetable}(e:Good t.Network){x:Trip}{l:Line}(a:idx t.Network.Lines x.Line=some l)(hs:0<=x.Start/\ x.Start<=1799):zq28 t x=some (x.Start+l.Runs.sum):=by
 have h:=yb7 e a;obtain⟨⟨i,j,k⟩,b⟩:=ya0 h;have m:=yqx h;unfold zq28;rw[a];simp only[Option.bind_some];rw[ytd l.Runs (by omega) (fun x g=>by have:=b x g;omega)];simp(disch:=omega) only[if_pos,if_neg,decide_eq_true_eq,decide_true,decide_false,Bool.not_true,Bool.not_false,Bool.false_eq_true,Bool.not_eq_true',decide_eq_false_iff_not,if_true,if_false,jak,ja9,jal,Option.bind_some,Option.map_some,Int.toNat_natCast,not_true_eq_false,not_false_eq_true,true_and,and_true,and_self,false_and,and_false,reduceIte,jco,jdp,beq_self_eq_true,ne_eq,bne_self_eq_false]
theorem yiq{t:Timetable}{i:Nat}{x:Trip}{l:Line}(b:t.Trips[i]? =some x)(a:idx t.Network.Lines x.Line=some l):ykn t (i:Int)=some l:=by
 unfold ykn;simp(disch:=omega) only[if_pos,if_neg,decide_eq_true_eq,decide_true,decide_false,Bool.not_true,Bool.not_false,Bool.false_eq_true,Bool.not_eq_true',decide_eq_false_iff_not,if_true,if_false,jak,ja9,jal,Option.bind_some,Option.map_some,Int.toNat_natCast,not_true_eq_false,not_false_eq_true,true_and,and_true,and_self,false_and,and_false,reduceIte,jco,jdp,beq_self_eq_true,ne_eq,bne_self_eq_false,b,a]
theorem ycm{t:Timetable}{i:Nat}{x:Trip}{l:Line}(b:t.Trips[i]? =some x)(a:idx t.Network.Lines x.Line=some l):yh5 t (i:Int)=some l.Stops:=by
 unfold yh5;rw[yiq b a];rfl
theorem ywt{t:Timetable}(j:Good t.Network){i:Nat}{x:Trip}{l:Line}(a:t.Trips[i]? =some x)(b:idx t.Network.Lines x.Line=some l)(hs:0<=x.Start/\ x.Start<=1799){k:Nat}(m:k<=l.Runs.length):ynw t (i:Int) (k:Int)=some (x.Start+(l.Runs.take k).sum):=by
 have h:=yb7 j b;obtain⟨⟨o,p,u⟩,g⟩:=ya0 h;have v:=ym8 h k;have e:=ytm l 0 k (by omega) m (by omega) (fun x a=>by have:=g x a;omega);rw[List.drop_zero]at e;have e':yh6 l 0 (k:Int)=some (l.Runs.take k).sum:=e;unfold ynw;simp(disch:=omega) only[if_pos,if_neg,decide_eq_true_eq,decide_true,decide_false,Bool.not_true,Bool.not_false,Bool.false_eq_true,Bool.not_eq_true',decide_eq_false_iff_not,if_true,if_false,jak,ja9,jal,Option.bind_some,Option.map_some,Int.toNat_natCast,not_true_eq_false,not_false_eq_true,true_and,and_true,and_self,false_and,and_false,reduceIte,jco,jdp,beq_self_eq_true,ne_eq,bne_self_eq_false,a,yiq a b,e']
theorem yne{t:Timetable}(b:Good t.Network){i:Nat}{x:Trip}{l:Line}(g:t.Trips[i]? =some x)(a:idx t.Network.Lines x.Line=some l)(hs:0<=x.Start/\ x.Start<=1799):ydz t (i:Int)=some (x.Start+l.Runs.sum):=by
 have h:=yb7 b a;obtain⟨⟨j,k,m⟩,o⟩:=ya0 h;have e:w64 ((l.Stops.length:Int)-1)=(l.Runs.length:Int):=by rw[jak (by omega)];omega
 unfold ydz;rw[ycm g a];simp only[Option.bind_some,e,ywt b g a hs (Nat.le_refl _),List.take_length]
def ye7(t:Timetable):Prop:=(∀(i:Nat) x,t.Trips[i]? =some x->ycb t.Network x)/\ ∀(i:Nat) a b,t.Trips[i]? =some a->t.Trips[i+1]? =some b->a.Id<b.Id
noncomputable instance(t:Timetable):Decidable (ye7 t):=Classical.propDecidable _
theorem yxu{t:Timetable}(hb:TB t)(u:Good t.Network)(x:Trip)(a:Int)(k:0<=a):((if(decide (x.Id<=a))=true then some true else if(decide (999<x.Id))=true then some true else(zq35 t.Network x.Line).bind fun r=>
   if(!r)=true then some true else(zq11 x.Start).bind fun v=>
   if(!v)=true then some true else(zq28 t x).bind fun w=>
   (zq11 w).bind fun y=>
   some (!y)))=some (!decide (a<x.Id/\ ycb t.Network x)):=by
 by_cases i:x.Id<=a
 ·have:¬(a<x.Id/\ ycb t.Network x):=fun h=>by omega
  simp[i,this]
 ·by_cases m:999<x.Id
  ·have:¬(a<x.Id/\ ycb t.Network x):=fun h=>by have:=h.2.1;omega
   simp[i,m,this]
  ·simp only[yrh,yqv,Option.bind_some,i,m,decide_false,Bool.false_eq_true,if_false];by_cases e:0<=x.Line/\ x.Line<(t.Network.Lines.length:Int)
   ·obtain⟨l,j,_⟩:=jdu (l:=t.Network.Lines) e.1 e.2;by_cases g:0<=x.Start/\ x.Start<=1799
    ·have p:(a<x.Id/\ ycb t.Network x)↔(0<=x.Start+l.Runs.sum/\ x.Start+l.Runs.sum<=1799):=by
      constructor
      ·rintro⟨_,_,l',b,_,h⟩;rw[j]at b;cases b;exact h
      ·intro h;exact⟨by omega,⟨by omega,by omega⟩,l,j,g,h⟩
     simp only[e,g,and_self,decide_true,Bool.not_true,Bool.false_eq_true,if_false,ynl u j g,yqv,Option.bind_some,p]
    ·have:¬(a<x.Id/\ ycb t.Network x):=fun h=>by
      obtain⟨_,_,l',_,o,_⟩:=h;exact g o
     simp only[e,g,this,and_self,decide_true,decide_false,Bool.not_true,Bool.not_false,Bool.false_eq_true,if_false,if_true]
   ·have:¬(a<x.Id/\ ycb t.Network x):=fun h=>by
     obtain⟨_,_,l',b,_⟩:=h;have:=jkc b;exact e ⟨this.1,this.2.1⟩
    simp only[e,this,decide_false,Bool.not_false,if_true]
theorem ylk{t:Timetable}(hb:TB t)(H:Good t.Network):zq17 t=some (decide (t.Trips.length<=12/\ ye7 t)):=by
 unfold zq17;by_cases w:t.Trips.length<=12
 ·have d:decide ((12:Int)<(t.Trips.length:Int))=false:=by simp;omega
  have e:decide (t.Trips.length<=12/\ ye7 t)=decide (ye7 t):=by simp[w]
  rw[d,e];simp only[Bool.false_eq_true,if_false];refine je8 (.iter (fun m a=>∃i:Nat,a.2=(i:Int)/\ m+i=t.Trips.length/\ 0<=a.1/\ (∀y,0<i->t.Trips[i-1]? =some y->a.1=y.Id)/\ (i=0->a.1=0)/\ (∀(j:Nat) x,j<i->t.Trips[j]? =some x->ycb t.Network x)/\ ∀(j:Nat) a b,j+1<i->t.Trips[j]? =some a->t.Trips[j+1]? =some b->a.Id<b.Id)
   (n:=t.Trips.length) ⟨0,rfl,rfl,by simp,by simp,by simp,fun j x h=>by omega,fun j a b h=>by omega⟩ ?_)
  rintro m ⟨z,v⟩ ⟨i,G,K,h0,C,D,E,F⟩;simp only at G h0 C D;subst G;unfold yj6;refine .iteP (fun hc=>?_) (fun hc=>.dn (.inl ⟨rfl,fun j x k=>E j x (by have:=ja7 k;omega) k,fun j a b A g=>F j a b (by have:=ja7 g;omega) A g⟩));obtain⟨x,k⟩:=jaj (l:=t.Trips) (i:=i) (by omega);refine .eq (by rw[jal];exact k) (.eq (yxu hb H x z h0) (.iteN (fun J=>.dn (.inr ⟨rfl,fun u=>J ⟨?_,u.1 i x k⟩⟩)) (fun u=>.nx ⟨m-1,by omega,i+1,jah (by omega),by omega,?_,?_,by simp,?_,?_⟩)))
  ·by_cases hi:i=0
   ·rw[D hi];have:=(u.1 i x k).1;omega
   ·obtain⟨y,o⟩:=jaj (l:=t.Trips) (i:=i-1) (by omega);rw[C y (by omega) o];exact u.2 (i-1) y x o (by rw[show i-1+1=i by omega];exact k)
  ·show 0<=x.Id;have:=u.2.1;omega
  ·intro y _ o;rw[show i+1-1=i by omega,k]at o;cases o;rfl
  ·intro j y I o;by_cases p:j=i
   ·subst p;rw[k]at o;cases o;exact u.2
   ·exact E j y (by omega) o
  ·intro j a b I A g;by_cases p:j+1=i
   ·subst p;rw[k]at g;cases g;have:=C a (by omega) (by simpa using A);omega
   ·exact F j a b (by omega) A g
 ·have d:decide ((12:Int)<(t.Trips.length:Int))=true:=by simp;omega
  simp[d,w]
def ylm(t:Timetable)(i:Nat)(x:Trip):Prop:=ycb t.Network x/\ ∀y,0<i->t.Trips[i-1]? =some y->y.Id<x.Id
noncomputable instance(t:Timetable)(i:Nat)(x:Trip):Decidable (ylm t i x):=Classical.propDecidable _
theorem yiu(t:Timetable):ycc t↔Good t.Network/\ t.Trips.length<=12/\ ye7 t:=Iff.rfl
theorem yqs{t:Timetable}(hb:TB t):zq12 t=some (decide (ycc t)):=by
 unfold zq12;rw[yta _ hb.1];by_cases a:Good t.Network
 ·simp only[a,decide_true,if_true,Option.bind_some,ylk hb a,yiu,true_and]
 ·have:¬ycc t:=fun h=>a h.1;simp[a,this]
theorem yts{t:Timetable}(hb:TB t):ynv t=some (decide (ycc t)):=by
 unfold ynv;rw[yri _ hb.1];by_cases A:Good t.Network
 ·by_cases G:t.Trips.length<=12
  ·have d:decide ((12:Int)<(t.Trips.length:Int))=false:=by simp;omega
   have e:decide (ycc t)=decide (ye7 t):=by rw[decide_eq_decide,yiu];simp[A,G]
   simp only[A,decide_true,Bool.not_true,Bool.false_eq_true,if_false,Option.bind_some,d,e];refine je8 (.iter (fun m a=>∃i:Nat,a=(i:Int)/\ m+i=t.Trips.length/\ (∀(j:Nat) x,j<i->t.Trips[j]? =some x->ycb t.Network x)/\ ∀(j:Nat) a b,j+1<i->t.Trips[j]? =some a->t.Trips[j+1]? =some b->a.Id<b.Id)
    (n:=t.Trips.length) ⟨0,rfl,rfl,fun j x h=>by omega,fun j a b h=>by omega⟩ ?_)
   rintro m v ⟨i,X,hm,O,P⟩;subst X;unfold ygg;refine .iteP (fun hc=>?_) (fun hc=>.dn (.inl ⟨rfl,fun j x p=>O j x (by have:=ja7 p;omega) p,fun j a b J g=>P j a b (by have:=ja7 g;omega) J g⟩));obtain⟨x,p⟩:=jaj (l:=t.Trips) (i:=i) (by omega);refine .eq (by rw[jal];exact p) ?_;have V:=A.2.1;have T:w64 ((t.Network.Lines.length:Int)-1)=(t.Network.Lines.length:Int)-1:=jak (by omega);have key:((yau x.Id 1 999).bind fun Y=>
   (if(!Y)=true then some true else(yau x.Line 0 (w64 ((t.Network.Lines.length:Int)-1))).bind fun Z=>
   if(!Z)=true then some true else(yem x.Start).bind fun r8=>
   if(!r8)=true then some true else(ydz t (i:Int)).bind fun r9=>
   (yem r9).bind fun L=>
   if(!L)=true then some true else if(decide (0<(i:Int)))=true then(idx t.Trips (w64 ((i:Int)-1))).bind fun S=>
   some (decide (x.Id<=S.Id))else some false))=some (!decide (ylm t i x)):=by
    have no:¬ycb t.Network x->(!decide (ylm t i x))=true:=fun h=>(by simp[show¬ylm t i x from fun q=>h q.1]);simp only[ya1,yir,T,Option.bind_some];by_cases D:1<=x.Id/\ x.Id<=999
    ·by_cases E:0<=x.Line/\ x.Line<=(t.Network.Lines.length:Int)-1
     ·obtain⟨l,K,_⟩:=jdu (l:=t.Network.Lines) E.1 (by omega);by_cases F:0<=x.Start/\ x.Start<=1799
      ·simp only[D,E,F,and_self,decide_true,Bool.not_true,Bool.false_eq_true,if_false,yne A p K F,yir,Option.bind_some];by_cases I:0<=x.Start+l.Runs.sum/\ x.Start+l.Runs.sum<=1799
       ·have k:ycb t.Network x:=⟨D,l,K,F,I⟩;simp only[I,and_self,decide_true,Bool.not_true,Bool.false_eq_true,if_false,];by_cases M:0<i
        ·obtain⟨y,u⟩:=jaj (l:=t.Trips) (i:=i-1) (by omega);have R:w64 ((i:Int)-1)=((i-1:Nat):Int):=by rw[jak (by omega)];omega
         have w:(0:Int)<(i:Int):=by omega
         simp only[w,decide_true,if_true,R,jal,u,Option.bind_some,Option.some.injEq];by_cases N:x.Id<=y.Id
         ·have:¬ylm t i x:=fun h=>by have:=h.2 y M u;omega
          simp only[N,decide_true,this,decide_false,Bool.not_false]
         ·have:ylm t i x:=⟨k,fun z _ Q=>by rw[u]at Q;cases Q;omega⟩;simp only[N,decide_false,this,decide_true,Bool.not_true]
        ·have w:¬(0:Int)<(i:Int):=by omega
         have:ylm t i x:=⟨k,fun z h0 _=>absurd h0 M⟩;simp only[w,decide_false,Bool.false_eq_true,if_false,this,decide_true,Bool.not_true]
       ·rw[no (fun k=>by
         obtain⟨_,l',o,_,h⟩:=k;rw[K]at o;cases o;exact I h)]
        simp only[I,decide_false,Bool.not_false,if_true]
      ·rw[no (fun k=>by obtain⟨_,l',_,h,_⟩:=k;exact F h)];simp only[D,E,F,and_self,decide_true,decide_false,Bool.not_true,Bool.not_false,Bool.false_eq_true,if_false,if_true]
     ·rw[no (fun k=>by
       obtain⟨_,l',o,_⟩:=k;have:=jkc o;exact E ⟨this.1,by omega⟩)]
      simp only[D,E,and_self,decide_true,decide_false,Bool.not_true,Bool.not_false,Bool.false_eq_true,if_false,if_true]
    ·rw[no (fun k=>D k.1)];simp only[D,decide_false,Bool.not_false,if_true]
   rw[jmu,key];refine .iteN (fun W=>.dn (.inr ⟨rfl,fun H=>W ⟨H.1 i x p,fun y hi u=>H.2 (i-1) y x u (by rw[show i-1+1=i by omega];exact p)⟩⟩)) (fun H=>.nx ⟨m-1,by omega,i+1,jah (by omega),by omega,?_,?_⟩)
   ·intro j y U u;by_cases C:j=i
    ·subst C;rw[p]at u;cases u;exact H.1
    ·exact O j y (by omega) u
   ·intro j a b U J g;by_cases C:j+1=i
    ·subst C;rw[p]at g;cases g;exact H.2 a (by omega) (by simpa using J)
    ·exact P j a b (by omega) J g
  ·have d:decide ((12:Int)<(t.Trips.length:Int))=true:=by simp;omega
   have:¬ycc t:=fun h=>G h.2.1;simp[A,d,this]
 ·have:¬ycc t:=fun h=>A h.1;simp[A,this]
theorem yid(t:Timetable)(h:t.Trips.length<=1000)(id:Int):zq53 t id=some (fixI (fun x=>x.Id==id) t.Trips):=by
 unfold zq53 ysp ysq;rw[jd4 t.Trips (fun x=>x.Id==id) (fun i x a=>?_) (by unfold yc4;simp)]
 ·rfl
 ·have:=ja7 a;unfold yc4 zq54;simp(disch:=omega) only[if_pos,if_neg,decide_eq_true_eq,decide_true,decide_false,Bool.not_true,Bool.not_false,Bool.false_eq_true,Bool.not_eq_true',decide_eq_false_iff_not,if_true,if_false,jak,ja9,jal,Option.bind_some,Option.map_some,Int.toNat_natCast,not_true_eq_false,not_false_eq_true,true_and,and_true,and_self,false_and,and_false,reduceIte,jco,jdp,beq_self_eq_true,ne_eq,bne_self_eq_false,a,Int.ofNat_lt.2 this];split<;>simp[*]<;>omega
theorem yra(t:Timetable)(h:t.Trips.length<=1000)(id:Int):yb1 t id=some (fixI (fun x=>x.Id==id) t.Trips):=by
 unfold yb1;rw[jd4 t.Trips (fun x=>x.Id==id) (fun i x a=>?_) (by unfold yc5;simp)];have:=ja7 a;unfold yc5;simp(disch:=omega) only[if_pos,if_neg,decide_eq_true_eq,decide_true,decide_false,Bool.not_true,Bool.not_false,Bool.false_eq_true,Bool.not_eq_true',decide_eq_false_iff_not,if_true,if_false,jak,ja9,jal,Option.bind_some,Option.map_some,Int.toNat_natCast,not_true_eq_false,not_false_eq_true,true_and,and_true,and_self,false_and,and_false,reduceIte,jco,jdp,beq_self_eq_true,ne_eq,bne_self_eq_false,a,Int.ofNat_lt.2 this];split<;>simp[*]<;>omega
theorem yio{t:Timetable}{x:Trip}{l:Line}(a:idx t.Network.Lines x.Line=some l):zq44 t x=some l:=by
 unfold zq44;rw[a];rfl
theorem yd4{t:Timetable}(h:ycc t){i:Nat}{x:Trip}(j:t.Trips[i]? =some x):∃l,idx t.Network.Lines x.Line=some l/\ yan t.Network.Stops.length l/\ (1<=x.Id/\ x.Id<=999)/\ (0<=x.Start/\ x.Start<=1799)/\ 0<=x.Start+l.Runs.sum/\ x.Start+l.Runs.sum<=1799:=by
 obtain⟨b,l,a,e,g⟩:=h.2.2.1 i x j;exact⟨l,a,yb7 h.1 a,b,e,g⟩
theorem yoe{k:Nat}{c:l1Cur}(h:Cur k c)(a:k<=500000000):∃r,yn5 c=some r/\ Cur (k+300) r.2/\ NB r.1:=yaz h a
theorem yr3{k:Nat}{c:l1Cur}(h:Cur k c)(a:k<=200000000):Tot (zq95 c) fun r=>Cur (k+1000) r.2/\ Bd r.1:=yhy h a
def DT(t:Timetable):Prop:=Bd t.Network/\ t.Trips.length<=30
theorem DT.tb{t:Timetable}(h:DT t):TB t:=⟨h.1,by have:=h.2;omega⟩
theorem yct{k:Nat}{c:l1Cur}(h:Cur k c)(A:k<=100000000):Tot (yn2 c) fun r=>Cur (k+400) r.2/\ DT r.1/\ NB r.1.Network/\ r.1.Trips.length<=8:=by
 unfold yn2;refine .call (yaz h (by omega)) fun r ⟨hc,u⟩=>.call (yab 8 hc (by omega)) fun p ⟨b,h0,z⟩=>?_;refine .call (P:=fun o=>Cur (k+400) ⟨o.1,o.2.1,⟨o.2.2.1⟩⟩/\ o.2.2.2.length<=8) ?_ fun o ⟨j,l⟩=>.ok ⟨j,⟨u.bd,by show o.2.2.2.length<=30;omega⟩,u,l⟩;refine .iter (fun m s=>s.2.1=(m:Int)/\ m+s.2.2.2.2.2.length<=8/\ Cur (k+302+6*(8-m)) ⟨s.2.2.1,s.2.2.2.1,⟨s.2.2.2.2.1⟩⟩) (n:=p.1.toNat) ⟨by show p.1=_;omega,by show p.1.toNat+0<=8;omega,b.mono (by omega)⟩ ?_;rintro m ⟨n,v,F,G,H,x⟩ ⟨w,y,a⟩;simp only at w y a;subst w;unfold yg2;refine .iteP (fun hc=>?_) (fun hc=>.dn ⟨a.mono (by omega),by show x.length<=8;omega⟩);refine .call (yab 3 a (by omega)) fun C ⟨e,_⟩=>.call (yab _ e (by omega)) fun D ⟨g,_⟩=>.call (yab 24 g (by omega)) fun E ⟨i,_⟩=>.chk (by simp;omega) (.nx ⟨m-1,by omega,?_,?_,?_⟩)
 ·show w64 ((m:Int)-1)=_;rw[jak (by omega)];omega
 ·show m-1+(x++[_]).length<=8;simp;omega
 ·exact i.mono (by omega)
theorem yei{k:Nat}{c:l1Cur}(h:Cur k c)(X:k<=50000000):Tot (zq96 c) fun r=>Cur (k+2000) r.2/\ DT r.1:=by
 unfold zq96;refine .call (yct h (by omega)) fun r ⟨hc,hd,Z,T⟩=>?_;refine .ite (fun _=>.ok ⟨hc.mono (by omega),hd⟩) fun S=>?_;have J:0<r.1.Trips.length:=by
  have:(r.1.Trips.length:Int)≠0:=by simpa using S
  omega
 refine .call (yab _ hc (by omega)) fun D ⟨z,p,R⟩=>?_;have u:D.1<(r.1.Trips.length:Int):=by omega
 refine .idx p u fun e _=>?_;have j:∀(v:List UInt8)(F G:Int)(H:List Line)(M N O:Int)(I:List ByteArray),Cur (k+2000) ⟨v,F,⟨G⟩⟩->Bd ⟨I,H⟩->Tot ((idx r.1.Trips D.1).bind fun Q=>some ((⟨(⟨I,H⟩:Network),(r.1.Trips.set D.1.toNat (⟨M,N,O⟩:Trip))⟩:Timetable),(⟨v,F,(⟨G⟩:IK .u64)⟩:l1Cur))) fun r=>Cur (k+2000) r.2/\ DT r.1:=fun v F G H M N O I q1 U=>
  .idx p u fun Q _=>.ok ⟨q1,U,by show(r.1.Trips.set _ _).length<=30;rw[List.length_set];omega⟩
 refine .flb (.call (yab 24 z (by omega)) fun r2 ⟨g,_⟩=>?_);refine .ite (fun _=>.call (yhz _ (by simp) g (by omega)) fun E ⟨a,_⟩=>.go (j _ _ _ _ _ _ _ _ (a.mono (by omega)) hd.1)) fun _=>?_;refine .ite (fun _=>.call (yab 7 g (by omega)) fun E ⟨a,_⟩=>.go (j _ _ _ _ _ _ _ _ (a.mono (by omega)) hd.1)) fun _=>?_;refine .ite (fun _=>.call (yhz _ (by simp) g (by omega)) fun E ⟨a,_⟩=>.go (j _ _ _ _ _ _ _ _ (a.mono (by omega)) hd.1)) fun _=>?_;refine .ite (fun _=>.call (yr3 g (by omega)) fun E ⟨a,hb⟩=>.go (j _ _ _ _ _ _ _ _ (a.mono (by omega)) hb)) fun _=>?_;refine .ite (fun _=>?_) fun _=>.go (j _ _ _ _ _ _ _ _ (g.mono (by omega)) hd.1);refine .call (P:=fun o=>Cur (k+2000) ⟨o.1,o.2.1,⟨o.2.2.1⟩⟩/\ o.2.2.2.length<=30) ?_ fun o ⟨A,C⟩=>.ret ⟨A,hd.1,C⟩;refine .iter (fun m s=>∃i:Nat,s.1=(i:Int)/\ m+i=14/\ s.2.2.2.2.length<=8+i/\ Cur (k+500+2*i) ⟨s.2.1,s.2.2.1,⟨s.2.2.2.1⟩⟩) (n:=14) ⟨0,rfl,rfl,by simpa using T,g.mono (by omega)⟩ ?_;rintro m ⟨v8,v9,V,W,y⟩ ⟨i,L,Y,x,l⟩;simp only at L x l;subst L;unfold yi2;refine .call (yab 2 l (by omega)) fun r8 ⟨w,_⟩=>?_;refine .call (P:=fun b=>b=true->i<14) (.ite (fun _=>.ok fun hb=>by simp at hb;omega) fun _=>.ok fun hb=>by cases hb) fun b hb=>?_;refine .ite (fun K=>.chk (by simp;omega) (.nx ⟨m-1,by have:=hb K;omega,i+1,jah (by omega),by have:=hb K;omega,?_,w.mono (by omega)⟩)) (fun _=>.dn ⟨w.mono (by omega),by show y.length<=30;omega⟩);show(y++[_]).length<=8+(i+1);simp;omega
theorem ytc{k:Nat}{c:l1Cur}(h:Cur k c)(Q:k<=40000000):Tot (yib c) fun r=>Cur (k+3000) r.2/\ DT r.1:=by
 unfold yib;refine .call (ync 16 h (by omega)) fun r hc=>?_;refine .ite (fun _=>.call (yei hc (by omega)) fun S ⟨g,hd⟩=>.ok ⟨g.mono (by omega),hd⟩) fun _=>?_;refine .call (yaz hc (by omega)) fun T ⟨j,J⟩=>.call (yab 6 j (by omega)) fun C ⟨p,H,I⟩=>?_;refine .call (P:=fun o=>Cur (k+3000) ⟨o.1,o.2.1,⟨o.2.2.1⟩⟩/\ o.2.2.2.length<=10) ?_ fun o ⟨z,A⟩=>?_
 ·refine .iter (fun m s=>s.1=(m:Int)/\ m+s.2.2.2.2.length<=10/\ Cur (k+310+6*(10-m)) ⟨s.2.1,s.2.2.1,⟨s.2.2.2.1⟩⟩) (n:=3+C.1.toNat) ⟨by show w64 (3+C.1)=_;rw[jak (by omega)];omega,by show 3+C.1.toNat+0<=10;omega,p.mono (by omega)⟩ ?_;rintro m ⟨i,v,X,Y,F⟩ ⟨D,b,a⟩;simp only at D b a;subst D;unfold yg1;refine .iteP (fun hc=>?_) (fun hc=>.dn ⟨a.mono (by omega),by show F.length<=10;omega⟩);refine .call (yab 2 a (by omega)) fun U ⟨u,_⟩=>.call (yab _ u (by omega)) fun V ⟨w,_⟩=>.call (yab 16 w (by omega)) fun W ⟨y,_⟩=>.chk (by simp;omega) (.nx ⟨m-1,by omega,?_,?_,?_⟩)
  ·show w64 ((m:Int)-1)=_;rw[jak (by omega)];omega
  ·show m-1+(F++[_]).length<=10;simp;omega
  ·exact y.mono (by omega)
 ·refine .call (P:=fun l=>l.length<=10) ?_ fun l b=>.ok ⟨z,J.bd,by show l.length<=30;omega⟩;refine .iter (fun m s=>∃i:Nat,s.1=(i:Int)/\ 1<=i/\ m+i=11/\ s.2.length<=10) (n:=10) ⟨1,rfl,by omega,by omega,A⟩ ?_;rintro m ⟨x,L⟩ ⟨i,E,O,R,b⟩;simp only at E b;subst E;unfold yg0;refine .iteP (fun hc=>?_) (fun hc=>.dn b);have G:w64 ((i:Int)-1)=(i:Int)-1:=jak (by omega);refine .idx (by omega) hc fun e _=>?_;rw[G];refine .idx (by omega) (by omega) fun M _=>?_;refine .call (P:=fun _=>True) ?_ fun K _=>.idx (by omega) hc fun N _=>.nx ⟨m-1,by omega,i+1,jah (by omega),by omega,by omega,by show(L.set _ _).length<=10;rw[List.length_set];exact b⟩;unfold yh9;exact .ite (fun _=>.ok trivial) fun _=>.ok trivial
theorem yie{k:Nat}{c:l1Cur}(n:Int)(h:Cur k c)(a:k<=3000000000):Tot (yad c n) fun r=>Cur (k+2) r.2/\ 0<=r.1/\ (r.1<n \/r.1=0):=yab n h a
theorem yyf{k:Nat}{c:l1Cur}(n:Int)(h:Cur k c)(a:k<=3000000000):Tot (yd3 c n) fun r=>Cur (k+2) r.2:=ync n h a
theorem yby{k:Nat}{c:l1Cur}(l:List Int)(b:l≠[])(h:Cur k c)(a:k<=3000000000):Tot (zq93 c l) fun r=>Cur (k+2) r.2/\ r.1∈l:=yhz l b h a
theorem yhe{k:Nat}{c:l1Cur}(l:List Int)(b:l≠[])(h:Cur k c)(a:k<=3000000000):Tot (zq94 c l) fun r=>Cur (k+2) r.2/\ r.1∈l:=yej l b h a
theorem ywk(a:List UInt8):yqf a=some (decide (65536<(a.length:Int))):=rfl
theorem yef(x y:Int):zq0 x y=some (if x<y then-1 else if y<x then 1 else 0):=by
 unfold zq0 zq3;by_cases h:x<y
 ·simp[h]
 ·by_cases a:y<x<;>simp[h,a]
theorem idx0{α:Type}(l:List α):idx l 0=l[0]?:=jal l 0
theorem yn8(a:List Int)(h:a.length<=1000):ynr a a=some true:=by
 unfold ynr;simp only[bne_self_eq_false,Bool.false_eq_true,if_false];rw[jdi (hd:=Classical.propDecidable _) a (fun _ _=>True) (fun i x e=>?_) (by unfold ycy;simp)]
 ·rw[if_pos (fun _ _ _=>trivial)]
 ·have hi:=(List.getElem?_eq_some_iff.1 e).1;unfold ycy;have b:decide ((i:Int)<(a.length:Int))=true:=by simp;omega
  left;simp only[b,if_true,jal,e,Option.bind_some,bne_self_eq_false,Bool.false_eq_true,if_false,jah (n:=i) (by omega),and_self]
theorem yb6(l:List Int)(k:l.length<=100000)(x:Int):yd2 l x=some (decide (x∈l)):=by
 unfold yd2;rw[jls l (fun e=>e==x) (fun _=>true) (fun i y a=>?_) (by unfold ydf;simp)]
 ·by_cases h:x∈l
  ·have:l.findIdx? (fun e=>e==x)≠none:=fun j=>by
    have:=List.findIdx?_eq_none_iff.1 j x h;simp at this
   cases g:l.findIdx? (fun e=>e==x)with
   |none=>exact absurd g this
   |some i=>simp[h]
  ·have:l.findIdx? (fun e=>e==x)=none:=List.findIdx?_eq_none_iff.2 fun y a=>by
    simp only[beq_eq_false_iff_ne,ne_eq];intro e;subst e;exact h a
   rw[this];simp[h]
 ·have hi:=ja7 a;unfold ydf;have b:decide ((i:Int)<(l.length:Int))=true:=by simp;omega
  simp only[b,if_true,jal,a,Option.bind_some,jah (n:=i) (by omega)];split<;>rfl
def RowP(st:Nat)(a:Nat)(row:List Int):Prop:=row.length=st/\ row[a]? =some 0/\ ∀d∈row,0<=d/\ d<=120
def ybe(n:Network)(f:Fleet):Prop:=f.Dead.length=n.Stops.length/\ (0<=f.Turn/\ f.Turn<=30)/\ ∀(a:Nat) row,f.Dead[a]? =some row->RowP n.Stops.length a row
def yr4(st:Nat)(f:Fleet):Prop:=∀(a:Nat) row,f.Dead[a]? =some row->RowP st a row
noncomputable instance(st:Nat)(f:Fleet):Decidable (yr4 st f):=Classical.propDecidable _
noncomputable instance(n:Network)(f:Fleet):Decidable (ybe n f):=Classical.propDecidable _
noncomputable instance(st a:Nat)(row:List Int):Decidable (RowP st a row):=Classical.propDecidable _
def FB(f:Fleet):Prop:=f.Dead.length<=1000/\ ∀row∈f.Dead,row.length<=1000
theorem yrs(e:List Int)(w:e.length<=1000):Tot (iter (yfw e) (0:Int)) fun b=>(b=.go ()/\ ∀d∈e,0<=d/\ d<=120) \/(b=.ret (.dn (.ret false))/\ ¬∀d∈e,0<=d/\ d<=120):=by
 refine .iter (fun m v=>∃i:Nat,v=(i:Int)/\ m+i=e.length/\ ∀(j:Nat) d,j<i->e[j]? =some d->0<=d/\ d<=120) (n:=e.length) ⟨0,rfl,rfl,fun j d h=>by omega⟩ ?_;rintro m v ⟨i,rfl,y,o⟩;unfold yfw;refine .iteP (fun hc=>?_) (fun hc=>.dn (.inl ⟨rfl,fun d hd=>?_⟩))
 ·obtain⟨d,hd⟩:=jaj (l:=e) (i:=i) (by omega);refine .eq (ixs hd) (.eq (yam _ _ _) (.iteN (fun p=>.dn (.inr ⟨rfl,fun h=>p (h d (List.mem_of_getElem? hd))⟩)) (fun u=>.nx ⟨m-1,by omega,i+1,jah (by omega),by omega,fun j x a k=>?_⟩)));by_cases g:j=i
  ·subst g;rw[hd]at k;cases k;exact u
  ·exact o j x (by omega) k
 ·obtain⟨j,a⟩:=List.getElem?_of_mem hd;exact o j d (by have:=ja7 a;omega) a
theorem yrr{f:Fleet}{a:Nat}{e:List Int}(u:f.Dead[a]? =some e)(z:e.length<=1000):Tot (iter (yfm f (a:Int)) (0:Int)) fun b=>(b=.go ()/\ ∀d∈e,0<=d/\ d<=120) \/(b=.ret (.dn (.ret false))/\ ¬∀d∈e,0<=d/\ d<=120):=by
 refine .iter (fun m v=>∃i:Nat,v=(i:Int)/\ m+i=e.length/\ ∀(j:Nat) d,j<i->e[j]? =some d->0<=d/\ d<=120) (n:=e.length) ⟨0,rfl,rfl,fun j d h=>by omega⟩ ?_;rintro m v ⟨i,rfl,A,p⟩;unfold yfm;refine .eq (ixs u) (.iteP (fun hc=>?_) (fun hc=>.dn (.inl ⟨rfl,fun d hd=>?_⟩)))
 ·obtain⟨d,hd⟩:=jaj (l:=e) (i:=i) (by omega);refine .eq (ixs u) (.eq (ixs hd) (.eq (ya1 _ _ _) (.iteN (fun w=>.dn (.inr ⟨rfl,fun h=>w (h d (List.mem_of_getElem? hd))⟩)) (fun y=>.nx ⟨m-1,by omega,i+1,jah (by omega),by omega,fun j x g o=>?_⟩))));by_cases k:j=i
  ·subst k;rw[hd]at o;cases o;exact y
  ·exact p j x (by omega) o
 ·obtain⟨j,g⟩:=List.getElem?_of_mem hd;exact p j d (by have:=ja7 g;omega) g
theorem ym9{st a:Nat}{e:List Int}(k:a<st):((if((e.length:Int)!=(st:Int))=true then some true else(idx e (a:Int)).bind fun h=>some (h !=0)))=some (!decide (e.length=st/\ e[a]? =some 0)):=by
 by_cases b:e.length=st
 ·obtain⟨x,j⟩:=jaj (l:=e) (i:=a) (by omega);have hb:((e.length:Int)!=(st:Int))=false:=by simp;omega
  rw[hb,jal,j];by_cases g:x=0
  ·subst g;simp[b]
  ·simp[b,g]
 ·have hb:((e.length:Int)!=(st:Int))=true:=by simp;omega
  simp[hb,b]
theorem yoh{n:Network}(K:n.Stops.length<=1000){f:Fleet}(I:FB f):zq34 n f=some (decide (ybe n f)):=by
 unfold zq34;rw[yam];by_cases E:f.Dead.length=n.Stops.length
 ·have hb:((f.Dead.length:Int)!=(n.Stops.length:Int))=false:=by simp;omega
  by_cases w:0<=f.Turn/\ f.Turn<=30
  ·simp only[hb,w,and_self,decide_true,Bool.not_true,Bool.false_eq_true,if_false,Option.bind_some];have e:decide (ybe n f)=decide (yr4 n.Stops.length f):=by
    rw[decide_eq_decide];unfold ybe yr4;simp[E,w]
   rw[e];refine je8 (.iter (fun m v=>∃i:Nat,v=(i:Int)/\ m+i=f.Dead.length/\ ∀(j:Nat) row,j<i->f.Dead[j]? =some row->RowP n.Stops.length j row) (n:=f.Dead.length) ⟨0,rfl,rfl,fun j d h=>by omega⟩ ?_);rintro m v ⟨i,rfl,J,F⟩;unfold yjx;refine .iteP (fun hc=>?_) (fun hc=>.dn (.inl ⟨rfl,fun j row z=>F j row (by have:=ja7 z;omega) z⟩));obtain⟨row,g⟩:=jaj (l:=f.Dead) (i:=i) (by omega);have C:=I.2 row (List.mem_of_getElem? g);refine .eq (ixs g) (.eq (ym9 (by omega)) (.iteN (fun p=>.dn (.inr ⟨rfl,fun h=>p ⟨(h i row g).1,(h i row g).2.1⟩⟩)) (fun G=>.flb ((yrs row C).mono fun b o=>⟨fun r a=>?_,fun u H=>?_⟩))))
   ·rcases o with⟨k,_⟩|⟨k,y⟩
    ·rw[k]at a;cases a
    ·rw[k]at a;cases a;exact⟨fun a' h=>(by cases h),fun b h=>(by cases h;exact .inr ⟨rfl,fun h=>y (h i row g).2.2⟩)⟩
   ·rcases o with⟨_,y⟩|⟨k,_⟩
    ·refine .nx ⟨m-1,by omega,i+1,jah (by omega),by omega,fun j x z D=>?_⟩;by_cases A:j=i
     ·subst A;rw[g]at D;cases D;exact⟨G.1,G.2,y⟩
     ·exact F j x (by omega) D
    ·rw[k]at H;cases H
  ·have:¬ybe n f:=fun h=>w h.2.1;simp[hb,w,this]
 ·have hb:((f.Dead.length:Int)!=(n.Stops.length:Int))=true:=by simp;omega
  have:¬ybe n f:=fun h=>E h.1;simp[hb,this]
theorem yla{n:Network}(G:Bd n){f:Fleet}(L:FB f):zq66 n f=some (decide (Good n/\ ybe n f)):=by
 have M:=G.1;unfold zq66;rw[yri n G,ya1];by_cases h0:Good n
 ·by_cases E:f.Dead.length=n.Stops.length
  ·have hb:((f.Dead.length:Int)!=(n.Stops.length:Int))=false:=by simp;omega
   by_cases w:0<=f.Turn/\ f.Turn<=30
   ·simp only[h0,hb,w,and_self,decide_true,Bool.not_true,Bool.false_eq_true,if_false,Option.bind_some,true_and];have e:decide (ybe n f)=decide (yr4 n.Stops.length f):=by
     rw[decide_eq_decide];unfold ybe yr4;simp[E,w]
    rw[e];refine je8 (.iter (fun m v=>∃i:Nat,v=(i:Int)/\ m+i=f.Dead.length/\ ∀(j:Nat) row,j<i->f.Dead[j]? =some row->RowP n.Stops.length j row) (n:=f.Dead.length) ⟨0,rfl,rfl,fun j d h=>by omega⟩ ?_);rintro m v ⟨i,rfl,O,F⟩;unfold yjk;refine .iteP (fun hc=>?_) (fun hc=>.dn (.inl ⟨rfl,fun j row z=>F j row (by have:=ja7 z;omega) z⟩));obtain⟨row,g⟩:=jaj (l:=f.Dead) (i:=i) (by omega);have C:=L.2 row (List.mem_of_getElem? g);have N:((if((row.length:Int)!=(n.Stops.length:Int))=true then some true else(idx f.Dead (i:Int)).bind fun J=>(idx J (i:Int)).bind fun K=>some (K !=0)))=some (!decide (row.length=n.Stops.length/\ row[i]? =some 0)):=by
     rw[ixs g];exact ym9 (by omega)
    refine .eq (ixs g) (.eq N (.iteN (fun p=>.dn (.inr ⟨rfl,fun h=>p ⟨(h i row g).1,(h i row g).2.1⟩⟩)) (fun H=>.flb ((yrr g C).mono fun b o=>⟨fun r a=>?_,fun u I=>?_⟩))))
    ·rcases o with⟨k,_⟩|⟨k,y⟩
     ·rw[k]at a;cases a
     ·rw[k]at a;cases a;exact⟨fun a' h=>(by cases h),fun b h=>(by cases h;exact .inr ⟨rfl,fun h=>y (h i row g).2.2⟩)⟩
    ·rcases o with⟨_,y⟩|⟨k,_⟩
     ·refine .nx ⟨m-1,by omega,i+1,jah (by omega),by omega,fun j x z D=>?_⟩;by_cases A:j=i
      ·subst A;rw[g]at D;cases D;exact⟨H.1,H.2,y⟩
      ·exact F j x (by omega) D
     ·rw[k]at I;cases I
   ·have:¬ybe n f:=fun h=>w h.2.1;simp[h0,hb,w,this]
  ·have hb:((f.Dead.length:Int)!=(n.Stops.length:Int))=true:=by simp;omega
   have:¬ybe n f:=fun h=>E h.1;simp[h0,hb,this]
 ·simp[h0]
def AskF(t:Timetable)(f:Fleet):Prop:=ycc t/\ ybe t.Network f
noncomputable instance(t:Timetable)(f:Fleet):Decidable (AskF t f):=Classical.propDecidable _
theorem ytp{t:Timetable}(hb:TB t){f:Fleet}(a:FB f):zq38 t f=some (decide (AskF t f)):=by
 unfold zq38 AskF;rw[yqs hb,yoh hb.1.1 a];by_cases h:ycc t<;>simp[h]
theorem yd8{t:Timetable}(hb:TB t){f:Fleet}(b:FB f):zq61 t f=some (decide (AskF t f)):=by
 unfold zq61 AskF;rw[yts hb,yla hb.1 b];by_cases h:ycc t
 ·have a:Good t.Network:=h.1;simp[h,a]
 ·simp[h]
noncomputable def dv(t:Timetable)(f:Fleet)(x y:Trip):Int:=(zq27 t f x y).getD 0
noncomputable def ev(t:Timetable)(x:Trip):Int:=(zq28 t x).getD 0
theorem ybl{t:Timetable}{f:Fleet}(h:AskF t f){i k:Nat}{x y:Trip}(A:t.Trips[i]? =some x)(C:t.Trips[k]? =some y):(0<=dv t f x y/\ dv t f x y<=120)/\ zq27 t f x y=some (dv t f x y)/\ zq65 t f (i:Int) (k:Int)=some (dv t f x y):=by
 obtain⟨z,H,I,p⟩:=h;obtain⟨m,b,g,_⟩:=yd4 z A;obtain⟨J,e,j,_⟩:=yd4 z C;obtain⟨⟨K,L,M⟩,N⟩:=ya0 g;obtain⟨⟨O,P,Q⟩,R⟩:=ya0 j;obtain⟨s,hs⟩:=jaj (l:=m.Stops) (i:=m.Stops.length-1) (by omega);obtain⟨u,v⟩:=jaj (l:=J.Stops) (i:=0) (by omega);have s1:=yin g hs;have D:=yin j v;have E:w64 ((m.Stops.length:Int)-1)=((m.Stops.length-1:Nat):Int):=by rw[jak (by omega)];omega
 obtain⟨row,a⟩:=jaj (l:=f.Dead) (i:=s.toNat) (by omega);have hR:=p s.toNat row a;obtain⟨d,hd⟩:=jaj (l:=row) (i:=u.toNat) (by rw[hR.1];omega);have o:=hR.2.2 d (List.mem_of_getElem? hd);have w:zq27 t f x y=some d:=by
  unfold zq27 zq41 zq30;rw[yio b,yio e];simp only[Option.bind_some,E,jal,hs,jlm s1.1 a,idx0,v,jlm D.1 hd]
 have F:zq65 t f (i:Int) (k:Int)=some d:=by
  unfold zq65;rw[ycm A b,ycm C e];simp only[Option.bind_some,E,jal,hs,jlm s1.1 a,idx0,v,jlm D.1 hd]
 have G:dv t f x y=d:=by unfold dv;rw[w];rfl
 rw[G];exact⟨o,w,F⟩
theorem ybb{t:Timetable}(b:ycc t){i:Nat}{x:Trip}(m:t.Trips[i]? =some x):(x.Start<ev t x/\ ev t x<=1799)/\ (0<=x.Start/\ x.Start<=1799)/\ zq28 t x=some (ev t x)/\ ydz t (i:Int)=some (ev t x):=by
 obtain⟨l,h,v,_,hs,C,u⟩:=yd4 b m;have g:=ynl b.1 h hs;have o:=yne b.1 m h hs;have p:ev t x=x.Start+l.Runs.sum:=by unfold ev;rw[g];rfl
 obtain⟨⟨y,e,A⟩,a⟩:=ya0 v;have j:1<=l.Runs.sum:=by
  cases k:l.Runs with
  |nil=>rw[k]at e;simp at e
  |cons r rs=>
   rw[k]at a;have q1:=a r (by simp);have D:=joc (l:=rs) fun z w=>by have:=a z (by simp[w]);omega
   rw[List.sum_cons];omega
 rw[p];exact⟨⟨by omega,u⟩,hs,g,o⟩
def Fol(t:Timetable)(f:Fleet)(x y:Trip):Prop:=ev t x+f.Turn+dv t f x y<=y.Start
noncomputable instance(t:Timetable)(f:Fleet)(x y:Trip):Decidable (Fol t f x y):=Classical.propDecidable _
theorem yrk{t:Timetable}{f:Fleet}(h:AskF t f){i k:Nat}{x y:Trip}(a:t.Trips[i]? =some x)(e:t.Trips[k]? =some y)(b:Fol t f x y):x.Start<y.Start:=by
 have g:=(ybl h a e).1;have j:=ybb h.1 a;have l:=h.2.2.1;unfold Fol at b;omega
theorem ybz{t:Timetable}{f:Fleet}(h:AskF t f){i k:Nat}{x y:Trip}(a:t.Trips[i]? =some x)(b:t.Trips[k]? =some y):zq19 t f x y=some (decide (Fol t f x y))/\ zq67 t f (i:Int) (k:Int)=some (decide (Fol t f x y)):=by
 obtain⟨w,m,o⟩:=ybl h a b;obtain⟨u,v,j,l⟩:=ybb h.1 a;have z:=h.2.2.1;have g:w64 (w64 (ev t x+f.Turn)+dv t f x y)=ev t x+f.Turn+dv t f x y:=by rw[jak (x:=ev t x+f.Turn) (by omega),jak (by omega)]
 refine⟨?_,?_⟩
 ·unfold zq19;rw[j,m];simp only[Option.bind_some,g];exact congrArg some (decide_eq_decide.2 Iff.rfl)
 ·unfold zq67;by_cases e:i=k
  ·subst e;rw[a]at b;cases b;have:¬Fol t f x x:=fun p=>by have:=yrk h a a p;omega
   simp[this]
  ·have hb:((i:Int)!=(k:Int))=true:=by simp;omega
   simp only[hb,if_true,jal,b,l,o,Option.bind_some,g];exact congrArg some (decide_eq_decide.2 Iff.rfl)
theorem or64{u a:Nat}(i:u<4096)(h:a<4096):IntKind.i64.wrap (((BitVec.ofInt (IntKind.i64).bits (u:Int)|||BitVec.ofInt (IntKind.i64).bits (a:Int)).toNat:Nat):Int)=((u|||a:Nat):Int):=by
 have b:(BitVec.ofInt (IntKind.i64).bits (u:Int)).toNat=u:=by
  rw[BitVec.ofInt_natCast,BitVec.toNat_ofNat];exact Nat.mod_eq_of_lt (by show u<2^64;omega)
 have e:(BitVec.ofInt (IntKind.i64).bits (a:Int)).toNat=a:=by
  rw[BitVec.ofInt_natCast,BitVec.toNat_ofNat];exact Nat.mod_eq_of_lt (by show a<2^64;omega)
 rw[BitVec.toNat_or,b,e];have g:u|||a<2^12:=Nat.or_lt_two_pow (by omega) (by omega);exact jak (x:=((u|||a:Nat):Int)) (by omega)
theorem yt9{n q:Nat}(hc:((n-q:Nat):Int)<(n:Int))(b:q<=n)(a:n<=1000000):w64 (((n-q:Nat):Int)+1)=((n-(q-1):Nat):Int):=by
 rw[jak (by omega)];omega
theorem yrz{n:Nat}(i:n<=9){v:Int}(j:v= -1 \/(0<=v/\ v<n)):∃s:Nat,w64 (1*2^(min ((IntKind.u64.wrap v):Int).toNat (IntKind.i64).bits))=(s:Int)/\ s<2^n:=by
 rcases j with rfl|⟨h0,k⟩
 ·refine⟨0,?_,Nat.two_pow_pos n⟩;kernel_rfl
 ·have e:IntKind.u64.wrap v=v:=Int.emod_eq_of_lt h0 (by show v<(18446744073709551616:Int);omega);rw[e];have b:min v.toNat (IntKind.i64).bits=v.toNat:=Nat.min_eq_left (by show v.toNat<=64;omega);rw[b];have a:2^v.toNat<2^n:=Nat.pow_lt_pow_right (by omega) (by omega);have h:2^n<=2^9:=Nat.pow_le_pow_right (by omega) i;refine⟨2^v.toNat,?_,a⟩;have g:(1:Int)*2^v.toNat=((2^v.toNat:Nat):Int):=by rw[Int.one_mul,Int.natCast_pow];rfl
  rw[g];generalize 2^v.toNat=p at a ⊢;generalize 2^n=q at a h;exact jak (by omega)
theorem yey(v:Int):(0:Int)<=IntKind.u64.wrap v:=(jta v).1
def KS(n:Nat)(a:List (List Int)):Prop:=a.length=n/\ ∀row∈a,row.length=2^n
theorem yx3{n:Nat}{b:List (List Int)}(h:KS n b){i:Nat}{row:List Int}(e:row.length=2^n):KS n (b.set i row):=by
 refine⟨by rw[List.length_set];exact h.1,fun r a=>?_⟩;rcases List.mem_or_eq_of_mem_set a with a|rfl
 ·exact h.2 r a
 ·exact e
theorem yk6{n:Nat}(a:n<=9){u:Int}(e:0<=u/\ u<(2^n:Nat)){s:Nat}(hs:s<2^n):0<=IntKind.i64.wrap (((BitVec.ofInt (IntKind.i64).bits u|||BitVec.ofInt (IntKind.i64).bits (s:Int)).toNat:Nat):Int)/\ IntKind.i64.wrap (((BitVec.ofInt (IntKind.i64).bits u|||BitVec.ofInt (IntKind.i64).bits (s:Int)).toNat:Nat):Int)<(2^n:Nat):=by
 have b:2^n<=2^9:=Nat.pow_le_pow_right (by omega) a;obtain⟨m,rfl⟩:∃m:Nat,u=(m:Int):=⟨u.toNat,by omega⟩;rw[or64 (by omega) (by omega)];have:=Nat.or_lt_two_pow (x:=m) (y:=s) (n:=n) (by omega) hs;omega
theorem ylg{t:Timetable}{f:Fleet}(h:AskF t f)(w:t.Trips.length<=9):∀(m N:Nat)(a:List (List Int))(i:Nat)(u:Int),m+i=t.Trips.length->m<N->KS t.Trips.length a->(0<=u/\ u<(2^t.Trips.length:Nat))->
  Tot (yh0 N ⟨t,f,a⟩ (i:Int) u) fun r=>KS t.Trips.length r.2
 |m,0,a,i,u,_,hN,_,_=>by omega
 |m,N+1,a,i,u,W,hN,g,p=>by
  show Tot (ydq (yh0 N) ⟨t,f,a⟩ (i:Int) u) _;unfold ydq;by_cases hi:i=t.Trips.length
  ·have hb:((i:Int)==(t.Trips.length:Int))=true:=by simp;omega
   simp only[hb,if_true];exact .ok g
  ·have hb:((i:Int)==(t.Trips.length:Int))=false:=by simp;omega
   simp only[hb,Bool.false_eq_true,if_false];have e:∀{a:List (List Int)},KS t.Trips.length a->∃row,a[i]? =some row/\ row.length=2^t.Trips.length:=fun{a} g=>by
    obtain⟨row,j⟩:=jaj (l:=a) (i:=i) (by rw[g.1];omega);exact⟨row,j,g.2 row (List.mem_of_getElem? j)⟩
   obtain⟨row,j,R⟩:=e g;have I:w64 ((i:Int)+1)=((i+1:Nat):Int):=jah (by omega);refine .eq (ixs j) (.idx p.1 (by omega) fun T O=>.iteP (fun _=>.eq (ixs j) (.idx p.1 (by omega) fun U _=>.ok g)) fun _=>?_);rw[I];refine .call (ylg h w (m-1) N a (i+1) u (by omega) (by omega) g p) fun r E=>?_;refine .call (P:=fun o=>KS t.Trips.length o.2) ?_ fun o z=>?_
   ·refine .iter (fun q s=>s.2.1=((t.Trips.length-q:Nat):Int)/\ q<=t.Trips.length/\ KS t.Trips.length s.2.2) (n:=t.Trips.length) ⟨by simp,Nat.le_refl _,E⟩ ?_;rintro q ⟨v,Z,S⟩ ⟨H,X,b⟩;simp only at H b;subst H;unfold yji;refine .iteP (fun hc=>?_) (fun hc=>.dn b);have Q:0<q:=by simp only at hc;omega
    obtain⟨x,J⟩:=jaj (l:=t.Trips) (i:=t.Trips.length-q) (by omega);obtain⟨y,K⟩:=jaj (l:=t.Trips) (i:=i) (by omega);have C:=(ybz h J K).2;have A:=(ybl h J K).2.2;obtain⟨s,F,G⟩:=yrz (n:=t.Trips.length) w (v:=((t.Trips.length-q:Nat):Int)) (.inr ⟨by omega,by omega⟩);refine .call (P:=fun o=>KS t.Trips.length o.2) (.chk (yey _) (.call (P:=fun _=>True) (.ite (fun _=>.eq C (.ok trivial)) fun _=>.ok trivial) fun v5 _=>.ite (fun _=>?_) fun _=>.ok b)) fun o z=>.nx ⟨q-1,by omega,?_,by omega,z⟩
    ·refine .eq A (.chk (yey _) ?_);rw[F,I];refine .call (ylg h w (m-1) N S (i+1) _ (by omega) (by omega) b (yk6 w p G)) fun Y M=>?_;unfold yia;exact .call (P:=fun _=>True) (.iteP (fun _=>.ok trivial) fun _=>.ok trivial) fun _ _=>.ok M
    ·show w64 (((t.Trips.length-q:Nat):Int)+1)=_;rw[jak (by omega)];omega
   ·obtain⟨v6,v7⟩:=o;obtain⟨L,D,k⟩:=e z;refine .eq (ixs D) (.idx p.1 (by omega) fun V _=>.ok (yx3 z (by rw[List.length_set];exact k)))
theorem yhu{t:Timetable}{f:Fleet}(h:AskF t f)(b:t.Trips.length<=9){a:List (List Int)}{i:Nat}{u:Int}(hi:i<=t.Trips.length)(e:KS t.Trips.length a)(g:0<=u/\ u<(2^t.Trips.length:Nat)):Tot (zq69 ⟨t,f,a⟩ (i:Int) u) fun r=>KS t.Trips.length r.2:=by
 unfold zq69;exact ylg h b (t.Trips.length-i) _ a i u (by omega) (by omega) e g
def BeP(t:Timetable)(f:Fleet)(a:List Int):Prop:=a.length=t.Trips.length/\ ∀(i:Nat) b,a[i]? =some b->b= -1 \/∃(k:Nat)(x y:Trip),b=(k:Int)/\ t.Trips[k]? =some x/\ t.Trips[i]? =some y/\ Fol t f x y
theorem yr1{t:Timetable}{f:Fleet}(h:AskF t f)(u:t.Trips.length<=9):Tot (zq62 t f) (BeP t f):=by
 have S:2^t.Trips.length<=2^9:=Nat.pow_le_pow_right (by omega) u;have T:=Nat.two_pow_pos t.Trips.length;unfold zq62;have V:w64 (1*2^(min ((IntKind.u64.wrap (t.Trips.length:Int)):Int).toNat (IntKind.i64).bits))=((2^t.Trips.length:Nat):Int):=by
  have e:IntKind.u64.wrap (t.Trips.length:Int)=(t.Trips.length:Int):=Int.emod_eq_of_lt (by omega) (by show(t.Trips.length:Int)<(18446744073709551616:Int);omega);rw[e];have I:min ((t.Trips.length:Int)).toNat (IntKind.i64).bits=t.Trips.length:=by rw[Int.toNat_natCast];exact Nat.min_eq_left (by show t.Trips.length<=64;omega)
  rw[I];have e2:(1:Int)*2^t.Trips.length=((2^t.Trips.length:Nat):Int):=by rw[Int.one_mul,Int.natCast_pow];rfl
  rw[e2];generalize 2^t.Trips.length=p at S ⊢;exact jak (by omega)
 refine .call (P:=KS t.Trips.length) ?_ fun v1 W=>.call (P:=BeP t f) ?_ fun o R=>.ok R
 ·refine .iter (fun q s=>s.1=((t.Trips.length-q:Nat):Int)/\ q<=t.Trips.length/\ s.2.length=t.Trips.length-q/\ ∀row∈s.2,row.length=2^t.Trips.length) (n:=t.Trips.length) ⟨by simp,Nat.le_refl _,by simp,by simp⟩ ?_;rintro q ⟨k,v⟩ ⟨w,U,A,J⟩;simp only at w A J;subst w;unfold yjo;refine .iteP (fun hc=>?_) (fun hc=>.dn ⟨by omega,J⟩);rw[V];refine .chk (yey _) (.chk ⟨by omega,by omega⟩ (.call (P:=fun o=>o.length=2^t.Trips.length) ?_ fun o R=>.chk (by simp;omega) (.nx ⟨q-1,by omega,?_,by omega,?_,fun row hm=>?_⟩)))
  ·refine .iter (fun q s=>s.1=((2^t.Trips.length-q:Nat):Int)/\ q<=2^t.Trips.length/\ s.2.length=2^t.Trips.length) (n:=2^t.Trips.length) ⟨by simp,Nat.le_refl _,by show(List.replicate _ _).length=_;rw[List.length_replicate,Int.toNat_natCast]⟩ ?_;rintro q ⟨k,o⟩ ⟨w,U,A⟩;simp only at w A;subst w;unfold yjp;refine .iteP (fun hc=>.idx (by omega) hc fun e _=>.nx ⟨q-1,by omega,?_,by omega,by rw[List.length_set];exact A⟩) (fun hc=>.dn A);show w64 (((2^t.Trips.length-q:Nat):Int)+1)=_;rw[jak (by omega)];omega
  ·show w64 (((t.Trips.length-q:Nat):Int)+1)=_;rw[jak (by omega)];omega
  ·simp;omega
  ·rcases List.mem_append.1 hm with hm|hm
   ·exact J row hm
   ·rw[List.mem_singleton.1 hm];exact R
 ·refine .iter (fun q (s:Int×Int×List Int×List (List Int))=>s.2.1=((t.Trips.length-q:Nat):Int)/\ q<=t.Trips.length/\ s.2.2.1.length=t.Trips.length-q/\ (0<=s.1/\ s.1<(2^t.Trips.length:Nat))/\ KS t.Trips.length s.2.2.2/\ ∀(i:Nat) b,s.2.2.1[i]? =some b->b= -1 \/∃(k:Nat)(x y:Trip),b=(k:Int)/\ t.Trips[k]? =some x/\ t.Trips[i]? =some y/\ Fol t f x y) (n:=t.Trips.length) ⟨by simp,Nat.le_refl _,by simp,⟨Int.le_refl 0,Int.ofNat_lt.2 T⟩,W,by simp⟩ ?_;rintro q ⟨aa,L,i,v2⟩ ⟨hb,U,A,H,w,hB⟩;simp only at hb A H w hB;subst hb;unfold yjm;refine .iteP (fun hc=>?_) (fun hc=>.dn ⟨by omega,hB⟩);have hw:w64 (((t.Trips.length-q:Nat):Int)+1)=((t.Trips.length-q+1:Nat):Int):=jah (by omega);obtain⟨y,X⟩:=jaj (l:=t.Trips) (i:=t.Trips.length-q) (by omega);refine .call (yhu h u (by omega) w H) fun r J=>.call (P:=fun(o:Int×Int×List (List Int))=>(0<=o.1/\ o.1<(2^t.Trips.length:Nat))/\ KS t.Trips.length o.2.2/\ (o.2.1= -1 \/∃(k:Nat)(x:Trip),o.2.1=(k:Int)/\ t.Trips[k]? =some x/\ Fol t f x y)) ?_ fun⟨Z,v3,v4⟩ g=>.chk (by clear g;simp;omega) (.nx ⟨q-1,by clear g;omega,?_,by clear g;omega,?_,g.1,g.2.1,fun j b m=>?_⟩)
  ·rw[hw];refine .call (yhu h u (by omega) J H) fun r1 K=>.ite (fun _=>?_) fun _=>.ok ⟨H,K,.inl rfl⟩;refine .call (P:=fun o=>KS t.Trips.length o.2/\ (o.1= -1 \/∃(k:Nat)(x:Trip),o.1=(k:Int)/\ t.Trips[k]? =some x/\ Fol t f x y)) ?_ fun⟨Y,af⟩ ⟨g1,z⟩=>.chk (yey _) (.ok ?_)
   ·refine .iter (fun p s=>s.2.1=((t.Trips.length-p:Nat):Int)/\ p<=t.Trips.length/\ KS t.Trips.length s.2.2/\ (s.1= -1 \/∃(k:Nat)(x:Trip),s.1=(k:Int)/\ t.Trips[k]? =some x/\ Fol t f x y)) (n:=t.Trips.length) ⟨by simp,Nat.le_refl _,K,.inl rfl⟩ ?_;rintro p ⟨v5,v6,v7⟩ ⟨hv,hp,a,C⟩;simp only at hv a C;subst hv;unfold yjn;refine .call (P:=fun b=>b=true->0<p) (.iteP (fun hc=>.ok fun _=>by omega) fun _=>.ok fun h=>by cases h) fun b hb=>.ite (fun M=>?_) fun _=>.dn ⟨a,C⟩;have ab:=hb M;obtain⟨x,F⟩:=jaj (l:=t.Trips) (i:=t.Trips.length-p) (by omega);have O:=(ybz h F X).2;have N:=(ybl h F X).2.2;obtain⟨s,D,E⟩:=yrz (n:=t.Trips.length) u (v:=((t.Trips.length-p:Nat):Int)) (.inr ⟨by omega,by omega⟩);refine .call (P:=fun o=>KS t.Trips.length o.2/\ (o.1= -1 \/∃(k:Nat)(x:Trip),o.1=(k:Int)/\ t.Trips[k]? =some x/\ Fol t f x y)) (.chk (yey _) (.call (P:=fun o=>KS t.Trips.length o.2/\ (o.1=true->Fol t f x y)) ?_ fun⟨ad,ae⟩ ⟨a1,a2⟩=>.ite (fun ht=>.ok ⟨a1,.inr ⟨_,x,rfl,F,a2 ht⟩⟩) fun _=>.ok ⟨a1,C⟩)) fun⟨v9,ac⟩ ⟨b1,b2⟩=>.nx ⟨p-1,by omega,?_,by omega,b1,b2⟩
    ·refine .ite (fun _=>.eq O (.iteP (fun hF=>.eq N (.chk (yey _) ?_)) fun _=>.ok ⟨a,fun h=>by cases h⟩)) fun _=>.ok ⟨a,fun h=>by cases h⟩;rw[D,hw];exact .call (yhu h u (by omega) a (yk6 u H E)) fun r4 h4=>.ok ⟨h4,fun _=>hF⟩
    ·show w64 (((t.Trips.length-p:Nat):Int)+1)=_;rw[jak (by omega)];omega
   ·obtain⟨s,D,E⟩:=yrz (n:=t.Trips.length) u (v:=Y) (by
     rcases z with z|⟨k,x,z,F,_⟩
     ·exact .inl z
     ·have:=ja7 F;exact .inr ⟨by simp only at z;omega,by simp only at z;omega⟩)
    dsimp only
    rw[D];exact⟨yk6 u H E,g1,z⟩
  ·exact yt9 hc U (by clear g;omega)
  ·clear g;show(i++[v3]).length=_;simp;omega
  ·have G:=g.2.2;clear g;simp only at G;have m:(i++[v3])[j]? =some b:=m;rcases Nat.lt_or_ge j i.length with hji|hji
   ·rw[List.getElem?_append_left hji]at m;exact hB j b m
   ·rw[List.getElem?_append_right hji]at m;have:=ja7 m;simp only[List.length_singleton]at this;have Q:j=t.Trips.length-q:=by omega
    subst Q;rw[show t.Trips.length-q-i.length=0 by omega]at m;simp only[List.getElem?_cons_zero,Option.some.injEq]at m;subst m;rcases G with G|⟨k,x,G,F,hF⟩
    ·exact .inl G
    ·exact .inr ⟨k,x,y,G,F,X,hF⟩
def Pc{α:Type}(m:Option α)(Q:α->Prop):Prop:=∀r,m=some r->Q r
theorem Pc.call{α β:Type}{m:Option α}{P:α->Prop}{k:α->Option β}{Q:β->Prop}(h:Tot m P)(a:∀x,P x->Pc (k x) Q):Pc (m.bind k) Q:=by
 obtain⟨x,e,b⟩:=h;subst e;exact a x b
theorem Pc.any{α β:Type}{m:Option α}{k:α->Option β}{Q:β->Prop}(a:∀x,Pc (k x) Q):Pc (m.bind k) Q:=by
 intro r b;obtain⟨x,_,e⟩:=jaf b;exact a x r e
theorem Pc.bind{α β:Type}{m:Option α}{k:α->Option β}{P:α->Prop}{Q:β->Prop}(h:Pc m P)(a:∀x,P x->Pc (k x) Q):Pc (m.bind k) Q:=by
 intro r e;obtain⟨x,b,g⟩:=jaf e;exact a x (h x b) r g
theorem Pc.ok{α:Type}{a:α}{Q:α->Prop}(h:Q a):Pc (some a) Q:=by intro r b;cases b;exact h
theorem Pc.ite{α:Type}{c:Bool}{a b:Option α}{Q:α->Prop}(e:Pc a Q)(g:Pc b Q):Pc (if c=true then a else b) Q:=by
 cases c
 ·exact g
 ·exact e
theorem Pc.flb{R V:Type}{m:Option (Fl R V)}{k:V->Option R}{Q:R->Prop}(h:Pc m fun v=>(∀r,v=.ret r->Q r)/\ ∀u,v=.go u->Pc (k u) Q):Pc (Ab.flb m k) Q:=by
 intro r b;obtain⟨v,e,a⟩:=jaf b;have:=h v e;cases v with
 |ret g=>cases a;exact this.1 _ rfl
 |go u=>exact this.2 u rfl r a
theorem Pc.go{R V:Type}{u:V}{Q:R->Prop}{P:V->Prop}(h:P u):Pc (some (Fl.go u:Fl R V)) fun v=>(∀r,v=.ret r->Q r)/\ ∀u,v=.go u->P u:=Pc.ok ⟨fun r h=>(by cases h),fun a h=>by cases h;assumption⟩
theorem Pc.ret{R V:Type}{r:R}{Q:R->Prop}{P:V->Prop}(h:Q r):Pc (some (Fl.ret r:Fl R V)) fun v=>(∀r,v=.ret r->Q r)/\ ∀u,v=.go u->P u:=Pc.ok ⟨fun a h=>by cases h;assumption,fun u h=>by cases h⟩
theorem Tot.pc{α:Type}{m:Option α}{P Q:α->Prop}(h:Tot m P)(e:Pc m Q):Tot m fun r=>P r/\ Q r:=by
 obtain⟨x,a,b⟩:=h;exact⟨x,a,b,e x a⟩
theorem yr2{k:Nat}{c:l1Cur}(h:Cur k c)(J:k<=200000000):Pc (zq95 c) fun r=>2<=r.1.Stops.length:=by
 unfold zq95;refine .call (yaz h (by omega)) fun r ⟨_,x⟩=>.any fun l=>.any fun e=>.flb ?_;have b:=x.1.1;have a:∀(v:List UInt8)(m o:Int)(p:ByteArray)(g:List ByteArray)(i:List Line)(w:List Int),2<=g.length->Pc ((idx i l.1).bind fun j=>some ((⟨g,(i.set l.1.toNat (⟨p,j.Stops,w⟩:Line))⟩:Network),(⟨v,m,(⟨o⟩:IK .u64)⟩:l1Cur))) fun r=>2<=r.1.Stops.length:=fun v m o p g i w y=>.any fun j=>.ok y;refine .any fun K=>.ite (.any fun L=>.any fun G=>.go (a _ _ _ _ _ _ _ (by rw[List.length_set];exact b))) (.ite (.any fun M=>.go (a _ _ _ _ _ _ _ b)) (.ite (.any fun N=>.any fun O=>.any fun H=>.go (a _ _ _ _ _ _ _ b)) (.ite (.any fun z=>.any fun A=>.any fun I=>.go (a _ _ _ _ _ _ _ b)) (.ite (.any fun u=>.go (a _ _ _ _ _ _ _ b)) (.ite (.ret b) (.ite (.any fun⟨C,D,E,F⟩=>.ret b) (.go (a _ _ _ _ _ _ _ b))))))))
theorem yoo{k:Nat}{c:l1Cur}(h:Cur k c)(I:k<=50000000):Pc (zq96 c) fun r=>2<=r.1.Network.Stops.length:=by
 unfold zq96;refine .call (yct h (by omega)) fun r ⟨hc,_,z,J⟩=>?_;have b:=z.1.1;refine .ite (.ok b) (.call (yab _ hc (by omega)) fun l ⟨g,_⟩=>.any fun e=>.flb (.call (yab 24 g (by omega)) fun K ⟨i,_⟩=>?_));have a:∀(v:List UInt8)(m o:Int)(p:List Line)(u w x:Int)(j:List ByteArray),2<=j.length->Pc ((idx r.1.Trips l.1).bind fun G=>some ((⟨(⟨j,p⟩:Network),(r.1.Trips.set l.1.toNat (⟨u,w,x⟩:Trip))⟩:Timetable),(⟨v,m,(⟨o⟩:IK .u64)⟩:l1Cur))) fun r=>2<=r.1.Network.Stops.length:=fun v m o p u w x j A=>.any fun H=>.ok A;refine .ite (.any fun L=>.go (a _ _ _ _ _ _ _ _ b)) (.ite (.any fun M=>.go (a _ _ _ _ _ _ _ _ b)) (.ite (.any fun N=>.go (a _ _ _ _ _ _ _ _ b)) (.ite (.bind (yr2 i (by omega)) fun O y=>.go (a _ _ _ _ _ _ _ _ y)) (.ite (.any fun⟨C,D,E,F⟩=>.ret b) (.go (a _ _ _ _ _ _ _ _ b))))))
theorem ytb{k:Nat}{c:l1Cur}(h:Cur k c)(e:k<=40000000):Pc (yib c) fun r=>2<=r.1.Network.Stops.length:=by
 unfold yib;refine .call (ync 16 h (by omega)) fun r hc=>.ite (.bind (yoo hc (by omega)) fun g a=>.ok a) (.call (yoe hc (by omega)) fun i ⟨_,b⟩=>.any fun j=>.any fun⟨l,m,o,p⟩=>.any fun u=>.ok b.1.1)
theorem yty{k:Nat}{c:l1Cur}{n:Network}(h:Cur k c)(hk:k<=30000000)(hn:2<=n.Stops.length/\ n.Stops.length<=1000):Tot (zq98 c n) fun r=>Cur (k+3000000) r.2/\ FB r.1:=by
 unfold zq98;refine .call (yhe _ (by simp) h (by omega)) fun r ⟨hc,_⟩=>?_;refine .call (P:=fun o=>Cur (k+2+2000*n.Stops.length) ⟨o.1,o.2.1,⟨o.2.2.1⟩⟩/\ o.2.2.2.length=n.Stops.length/\ ∀row∈o.2.2.2,row.length=n.Stops.length) ?_ fun⟨U,V,W,b⟩ ⟨y,C,j⟩=>?_
 ·refine .iter (fun q s=>s.1=((n.Stops.length-q:Nat):Int)/\ q<=n.Stops.length/\ s.2.2.2.2.length=n.Stops.length-q/\ (∀row∈s.2.2.2.2,row.length=n.Stops.length)/\ Cur (k+2+2000*(n.Stops.length-q)) ⟨s.2.1,s.2.2.1,⟨s.2.2.2.1⟩⟩) (n:=n.Stops.length) ⟨by simp,Nat.le_refl _,by simp,by simp,hc.mono (by omega)⟩ ?_;rintro q ⟨v,w1,w2,w3,w4⟩ ⟨D,hq,C,j,a⟩;simp only at D C j a;subst D;unfold yi0;refine .iteP (fun w=>?_) (fun w=>.dn ⟨a.mono (by omega),by simp only;omega,j⟩);have Q:0<q:=by omega
  refine .call (P:=fun o=>Cur (k+2+2000*(n.Stops.length-q)+2*n.Stops.length) ⟨o.1,o.2.1,⟨o.2.2.1⟩⟩/\ o.2.2.2.length=n.Stops.length) ?_ fun⟨v9,S,T,I⟩ ⟨u,G⟩=>.chk (by simp;omega) (.nx ⟨q-1,by omega,?_,by omega,?_,fun row hm=>?_,u.mono (by omega)⟩)
  ·refine .iter (fun p s=>s.1=((n.Stops.length-p:Nat):Int)/\ p<=n.Stops.length/\ s.2.2.2.2.length=n.Stops.length-p/\ Cur (k+2+2000*(n.Stops.length-q)+2*(n.Stops.length-p)) ⟨s.2.1,s.2.2.1,⟨s.2.2.2.1⟩⟩) (n:=n.Stops.length) ⟨by simp,Nat.le_refl _,by simp,a.mono (by omega)⟩ ?_;rintro p ⟨v,x1,x2,x3,x4⟩ ⟨D,hp,C,a⟩;simp only at D C a;subst D;unfold yi1;refine .iteP (fun w=>?_) (fun w=>.dn ⟨a.mono (by omega),by simp only;omega⟩);have O:0<p:=by omega
   refine .call (P:=fun _=>True) (by unfold yh9;exact .iteP (fun _=>.ok trivial) fun _=>.ok trivial) fun r1 _=>.call (yie 4 a (by omega)) fun r2 ⟨u,_⟩=>.chk (by simp;omega) (.nx ⟨p-1,by omega,?_,by omega,by simp;omega,u.mono (by omega)⟩);show w64 (((n.Stops.length-p:Nat):Int)+1)=_;rw[jak (by omega)];omega
  ·show w64 (((n.Stops.length-q:Nat):Int)+1)=_;rw[jak (by omega)];omega
  ·simp;omega
  ·have hm:row∈w4++[I]:=hm;rcases List.mem_append.1 hm with hm|hm
   ·exact j row hm
   ·rw[List.mem_singleton.1 hm];exact G
 ·simp only at y C j;obtain⟨e,J⟩:=jaj (l:=b) (i:=0) (by omega);have z:=j e (List.mem_of_getElem? J);have L:idx b 0=some e:=ixs J;have m:∀(row:List Int),row.length=n.Stops.length->FB ⟨b.set (0:Int).toNat row,r.1⟩:=fun row K=>⟨by show(b.set _ _).length<=1000;rw[List.length_set];omega,fun x H=>by
   rcases List.mem_or_eq_of_mem_set H with H|rfl
   ·have:=j x H;omega
   ·omega⟩
  have A:∀x:Int,FB ⟨b,x⟩:=fun x=>⟨by show b.length<=1000;omega,fun row hm=>by have:=j row hm;omega⟩;refine .call (P:=fun o=>Cur (k+3000000) ⟨o.1,o.2.1,⟨o.2.2.1⟩⟩/\ FB ⟨o.2.2.2.1,o.2.2.2.2⟩) (.call (yie 32 y (by omega)) fun r3 ⟨g,_⟩=>.ite (fun _=>.call (yhe _ (by simp) g (by omega)) fun r4 ⟨E,_⟩=>.ok ⟨E.mono (by omega),A _⟩) fun _=>.ite (fun _=>.eq L (.idx (by omega) (by omega) fun e1 _=>.ok ⟨g.mono (by omega),m _ (by rw[List.length_set];exact z)⟩)) fun _=>.ite (fun _=>.eq L (.call (yhe _ (by simp) g (by omega)) fun r6 ⟨F,_⟩=>?_)) fun _=>.ite (fun _=>.chk (by omega) (.ok ⟨g.mono (by omega),⟨by show(b.drop _).length<=1000;simp;omega,fun row hm=>by have:=j row (List.mem_of_mem_drop hm);omega⟩⟩)) fun _=>.ok ⟨g.mono (by omega),A _⟩) fun⟨X,Y,Z,aa,ab⟩ ⟨M,N⟩=>.ok ⟨M,N⟩;have R:w64 ((n.Stops.length:Int)-1)=((n.Stops.length-1:Nat):Int):=by rw[jak (by omega)];omega
  rw[R];exact .idx (by omega) (by omega) fun e5 _=>.ok ⟨F.mono (by omega),m _ (by rw[List.length_set];exact z)⟩
def BB(B:List (List Int)):Prop:=B.length<=20/\ ∀b∈B,b.length<=2000
def tix(t:Timetable)(e:Int):Int:=fixI (fun x=>x.Id==e) t.Trips
def tr(t:Timetable)(e:Int):Trip:=(t.Trips[(tix t e).toNat]?).getD ⟨0,0,0⟩
theorem yah{t:Timetable}{e:Int}(h:0<=tix t e):t.Trips[(tix t e).toNat]? =some (tr t e)/\ (tr t e).Id=e/\ ((tix t e).toNat:Int)=tix t e/\ (tix t e).toNat<t.Trips.length:=by
 obtain⟨k,x,i,a,j,_⟩:=jmp (p:=fun x:Trip=>x.Id==e) (l:=t.Trips) (by unfold tix at h;omega);have b:tix t e=(k:Int):=i;have g:tr t e=x:=by unfold tr;rw[b,Int.toNat_natCast,a];rfl
 rw[b,Int.toNat_natCast,g];exact⟨a,by simpa using j,rfl,ja7 a⟩
theorem yhd{t:Timetable}{e:Int}(h:0<=tix t e):idx t.Trips (tix t e)=some (tr t e):=by
 have:=yah h;rw[<-this.2.2.1];exact ixs this.1
theorem yhc{t:Timetable}{a b:Int}(h:0<=tix t a)(e:tix t a=tix t b):a=b:=by
 have i:=yah h;have g:=yah (t:=t) (e:=b) (by omega);rw[<-e,i.1]at g;have:=Option.some.inj g.1;rw[<-i.2.1,<-g.2.1,this]
theorem yqu{t:Timetable}(b:ycc t){e:Int}(h:0<=tix t e):1<=e:=by
 have a:=yah h;have:=(b.2.2.1 _ _ a.1).1.1;rw[a.2.1]at this;exact this
theorem yen{t:Timetable}(hb:TB t)(e:Int):zq53 t e=some (tix t e):=yid t hb.2 e
theorem yd5{t:Timetable}(hb:TB t)(e:Int):yb1 t e=some (tix t e):=yra t hb.2 e
theorem yn7{t:Timetable}(hb:TB t){e:Int}(h:0<=tix t e):zq55 t e=some (tr t e):=by
 unfold zq55;rw[yen hb];simp only[Option.bind_some,yhd h]
def FolE(t:Timetable)(f:Fleet)(a c:Int):Prop:=Fol t f (tr t a) (tr t c)
noncomputable instance(t:Timetable)(f:Fleet)(a c:Int):Decidable (FolE t f a c):=Classical.propDecidable _
theorem ytv{t:Timetable}{f:Fleet}(h:AskF t f){a c:Int}(j:0<=tix t a)(hc:0<=tix t c):zq19 t f (tr t a) (tr t c)=some (decide (FolE t f a c))/\ zq67 t f (tix t a) (tix t c)=some (decide (FolE t f a c)):=by
 have e:=yah j;have g:=yah hc;obtain⟨i,b⟩:=ybz h e.1 g.1;rw[e.2.2.1,g.2.2.1]at b;rw[i,b];exact⟨congrArg some (decide_eq_decide.2 Iff.rfl),congrArg some (decide_eq_decide.2 Iff.rfl)⟩
theorem pig{n:Nat}:∀{l:List Int},l.Nodup->(∀x∈l,0<=x/\ x<(n:Int))->l.length<=n:=by
 induction n with
 |zero=>
  intro l _ h;cases l with
  |nil=>simp
  |cons a l=>have:=h a (by simp);omega
 |succ n i=>
  intro l hd h;by_cases g:((n:Nat):Int)∈l
  ·have:=i (l:=l.erase (n:Int)) (hd.erase _) (fun x b=>by
    have j:=h x (List.mem_of_mem_erase b);have k:x≠(n:Int):=(hd.mem_erase_iff.1 b).1;omega)
   rw[List.length_erase_of_mem g]at this;omega
  ·have:=i hd (fun x b=>by
    have j:=h x b;have k:x≠(n:Int):=fun e=>g (e▸b);omega)
   omega
theorem ywo{n:Nat}{l:List Int}(hd:l.Nodup)(h:∀x∈l,0<=x/\ x<(n:Int))(b:l.length=n){p:Nat}(e:p<n):(p:Int)∈l:=by
 by_cases a:(p:Int)∈l
 ·exact a
 ·have:=pig (n:=n) (l:=(p:Int)::l) (List.nodup_cons.2 ⟨a,hd⟩) (fun x hx=>by
   rcases List.mem_cons.1 hx with rfl|hx
   ·omega
   ·exact h x hx)
  simp only[List.length_cons]at this;omega
def yue(t:Timetable)(f:Fleet)(b:List Int):Prop:=∀(j:Nat) a c,b[j]? =some a->b[j+1]? =some c->FolE t f a c
def yiz(t:Timetable)(f:Fleet)(b:List Int):Prop:=b≠[]/\ (∀e∈b,0<=tix t e)/\ yue t f b
def yaq(t:Timetable)(f:Fleet)(B:List (List Int)):Prop:=(∀b∈B,yiz t f b)/\ (B.flatten.map (tix t)).Nodup/\ B.flatten.length=t.Trips.length
def yek(u:List Bool)(at_:List Int):Prop:=u.length=12/\ ∀p:Nat,p<12->u[p]? =some (decide ((p:Int)∈at_))
theorem ym6:yek (List.replicate 12 false) []:=⟨by simp,fun p a=>by
 rw[List.getElem?_replicate];simp[a]⟩
theorem ym5{u:List Bool}{at_:List Int}(h:yek u at_){r:Int}(h0:0<=r/\ r<12):yek (u.set r.toNat true) (at_++[r]):=by
 refine⟨by rw[List.length_set];exact h.1,fun p a=>?_⟩;rw[List.getElem?_set];by_cases e:r.toNat=p
 ·subst e;rw[if_pos rfl,if_pos (by rw[h.1];exact a)];have:((r.toNat:Nat):Int)=r:=by omega
  simp[this]
 ·rw[if_neg e,h.2 p a];have:(p:Int)≠r:=by omega
  simp[this]
theorem yhb{u:List Bool}{at_:List Int}(h:yek u at_){r:Int}(h0:0<=r/\ r<12):idx u r=some (decide (r∈at_)):=by
 have e:((r.toNat:Nat):Int)=r:=by omega
 have:=h.2 r.toNat (by omega);rw[e]at this;rw[<-e,jal,this,e]
section
variable{t:Timetable}{f:Fleet}{B:List (List Int)}
theorem yt4(hb:TB t)(h:AskF t f)(hB:BB B){v:Nat}{b:List Int}(M:B[v]? =some b){o:List Int}(Y:∀x∈o,0<=x/\ x<(t.Trips.length:Int)){u0:List Bool}(aa:yek u0 o)(V:o.Nodup):
  ∃x x',iter (ya5 t f b) ((o.length:Int),(0:Int),u0)=some x/\ iter (yap t f B (v:Int)) ((0:Int),o)=some x'/\
   ((x=.ret (.dn (.ret false))/\ x'=.ret (.dn (.ret false))) \/∃at_ u,x=.go ((at_.length:Int),u)/\ x'=.go at_/\ at_=o++b.map (tix t)/\ yek u at_/\ at_.Nodup/\ (∀e∈b,0<=tix t e)/\ yue t f b):=by
 have hn:=h.1.2.1;have ad:=hB.2 b (List.mem_of_getElem? M);refine jtq (fun m (a:Int×Int×List Bool) (a':Int×List Int)=>∃j:Nat,m+j=b.length/\ a.1=(a'.2.length:Int)/\ a.2.1=(j:Int)/\ a'.1=(j:Int)/\ a'.2=o++(b.take j).map (tix t)/\ yek a.2.2 a'.2/\ a'.2.Nodup/\ (∀e∈b.take j,0<=tix t e)/\ ∀(i:Nat) p q,i+1<j->b[i]? =some p->b[i+1]? =some q->FolE t f p q) _ ?_ (k:=b.length) ⟨0,rfl,rfl,rfl,rfl,by simp,aa,V,by simp,by simp⟩;rintro m ⟨n1,v3,u⟩ ⟨v2,at_⟩ ⟨j,hm,e1,e2,e3,O,hU,hD,hE,hC⟩;simp only at e1 e2 e3 O hU hD;subst e2 e3 e1;have G:∀x∈at_,0<=x/\ x<(t.Trips.length:Int):=fun x hx=>by
  rw[O]at hx;rcases List.mem_append.1 hx with hx|hx
  ·exact Y x hx
  ·obtain⟨e,w,rfl⟩:=List.mem_map.1 hx;have:=yah (hE e w);omega
 have ac:=pig hD G;by_cases hj:j<b.length
 ·obtain⟨e,w⟩:=jaj hj;have g:decide ((j:Int)<(b.length:Int))=true:=by simp;omega
  by_cases h0:tix t e<0
  ·refine .inr ⟨_,_,?_,?_,.inl ⟨rfl,rfl⟩⟩
   ·simp only[ya5,g,if_true,jal,w,Option.bind_some,yen hb,h0,decide_true]
   ·simp only[yap,ixs M,g,if_true,jal,w,Option.bind_some,yd5 hb,h0,decide_true]
  have z:0<=tix t e:=by omega
  have af:=yah z;have A:0<=tix t e/\ tix t e<12:=by omega
  have E:chk ((0:Int)<=tix t e/\ tix t e<12)=some ():=ja9 A;have H:=yhb hU A;have F:=yb6 at_ (by omega) (tix t e);by_cases D:tix t e∈at_
  ·refine .inr ⟨_,_,?_,?_,.inl ⟨rfl,rfl⟩⟩
   ·simp only[ya5,g,if_true,jal,w,Option.bind_some,yen hb,h0,decide_false,Bool.false_eq_true,if_false,E,H,D,decide_true]
   ·simp only[yap,ixs M,g,if_true,jal,w,Option.bind_some,yd5 hb,h0,decide_false,Bool.false_eq_true,if_false,F,D,decide_true]
  have J:chk (at_.length+([tix t e]:List Int).length<=4294967296)=some ():=ja9 (by simp;omega);have T:(at_++[tix t e]).Nodup:=List.nodup_append.2 ⟨hD,by simp,fun a I c hc=>by
   rw[List.mem_singleton.1 hc];intro e;exact D (e▸I)⟩
  have W:∀e'∈b.take (j+1),0<=tix t e':=fun e' he'=>by
   rw[jap w]at he';rcases List.mem_append.1 he' with he'|he'
   ·exact hE e' he'
   ·rw[List.mem_singleton.1 he'];exact z
  have U:at_++[tix t e]=o++(b.take (j+1)).map (tix t):=by
   rw[jap w,List.map_append,<-List.append_assoc,<-O];rfl
  have P:(∀(i:Nat) p q,i+1<j+1->b[i]? =some p->b[i+1]? =some q->FolE t f p q)->∃k',k'<m/\ ∃j':Nat,k'+j'=b.length/\ w64 ((at_.length:Int)+1)=((at_++[tix t e]).length:Int)/\ w64 ((j:Int)+1)=(j':Int)/\ w64 ((j:Int)+1)=(j':Int)/\ at_++[tix t e]=o++(b.take j').map (tix t)/\ yek (u.set (tix t e).toNat true) (at_++[tix t e])/\ (at_++[tix t e]).Nodup/\ (∀e∈b.take j',0<=tix t e)/\ ∀(i:Nat) p q,i+1<j'->b[i]? =some p->b[i+1]? =some q->FolE t f p q:=fun S=>
   ⟨m-1,by omega,j+1,by omega,(by rw[jah (n:=at_.length) (by omega)];simp),jah (by omega),jah (by omega),U,ym5 hU A,T,W,S⟩
  by_cases ae:0<j
  ·obtain⟨a,I⟩:=jaj (l:=b) (i:=j-1) (by omega);have R:w64 ((j:Int)-1)=((j-1:Nat):Int):=by rw[jak (by omega)];omega
   have K:0<=tix t a:=hE a (List.mem_of_getElem? (show(b.take j)[j-1]? =some a by rw[List.getElem?_take_of_lt (by omega)];exact I));have y:decide ((0:Int)<(j:Int))=true:=by simp;omega
   obtain⟨f1,f2⟩:=ytv h K z;by_cases hF:FolE t f a e
   ·obtain⟨k',L,C⟩:=P fun i p q hi Q N=>by
     by_cases X:i+1<j
     ·exact hC i p q X Q N
     ·have:i=j-1:=by omega
      subst this;rw[I]at Q;cases Q;rw[show j-1+1=j by omega,w]at N;cases N;exact hF
    refine .inl ⟨(w64 ((at_.length:Int)+1),w64 ((j:Int)+1),u.set (tix t e).toNat true),(w64 ((j:Int)+1),at_++[tix t e]),k',?_,?_,L,C⟩
    ·simp only[ya5,g,if_true,jal,w,Option.bind_some,yen hb,h0,decide_false,Bool.false_eq_true,if_false,E,H,D,y,R,I,yn7 hb K,yhd z,f1,hF,decide_true,Bool.not_true]
    ·simp only[yap,ixs M,g,if_true,jal,w,Option.bind_some,yd5 hb,h0,decide_false,Bool.false_eq_true,if_false,F,D,y,R,I,f2,hF,decide_true,Bool.not_true,J]
   ·refine .inr ⟨_,_,?_,?_,.inl ⟨rfl,rfl⟩⟩
    ·simp only[ya5,g,if_true,jal,w,Option.bind_some,yen hb,h0,decide_false,Bool.false_eq_true,if_false,E,H,D,y,R,I,yn7 hb K,yhd z,f1,hF,Bool.not_false]
    ·simp only[yap,ixs M,g,if_true,jal,w,Option.bind_some,yd5 hb,h0,decide_false,Bool.false_eq_true,if_false,F,D,y,R,I,f2,hF,Bool.not_false]
  ·have ab:j=0:=by omega
   obtain⟨k',L,C⟩:=P fun i p q hi=>by omega
   have y:decide ((0:Int)<(j:Int))=false:=by simp;omega
   refine .inl ⟨(w64 ((at_.length:Int)+1),w64 ((j:Int)+1),u.set (tix t e).toNat true),(w64 ((j:Int)+1),at_++[tix t e]),k',?_,?_,L,C⟩
   ·simp only[ya5,g,if_true,jal,w,Option.bind_some,yen hb,h0,decide_false,Bool.false_eq_true,if_false,E,H,D,y]
   ·simp only[yap,ixs M,g,if_true,jal,w,Option.bind_some,yd5 hb,h0,decide_false,Bool.false_eq_true,if_false,F,D,y,J]
 ·have g:decide ((j:Int)<(b.length:Int))=false:=by simp;omega
  have Z:b.take j=b:=List.take_of_length_le (by omega);rw[Z]at O hE;refine .inr ⟨_,_,?_,?_,.inr ⟨at_,u,rfl,rfl,O,hU,hD,hE,fun i p q Q N=>hC i p q (by have:=ja7 N;omega) Q N⟩⟩
  ·simp only[ya5,g,Bool.false_eq_true,if_false]
  ·simp only[yap,ixs M,g,Bool.false_eq_true,if_false,Option.bind_some]
theorem yli(hb:TB t)(h:AskF t f)(hB:BB B):∃v,zq14 t f B=some v/\ zq63 t f B=some v/\ (v=true->yaq t f B):=by
 have hn:=h.1.2.1;have H:∃x x',iter (yax t f B) ((0:Int),(0:Int),(0:Int),(List.replicate 12 (false:Bool)))=some x/\ iter (yao t f B) ((0:Int),([]:List Int))=some x'/\
   ((x=.ret false/\ x'=.ret false) \/∃at_:List Int,x=.go (at_.length:Int)/\ x'=.go at_/\ at_=B.flatten.map (tix t)/\ at_.Nodup/\ ∀b∈B,yiz t f b):=by
  refine jtq (fun m (a:Int×Int×Int×List Bool) (a':Int×List Int)=>∃v:Nat,m+v=B.length/\ a.1=(a'.2.length:Int)/\ a.2.2.1=(v:Int)/\ a'.1=(v:Int)/\ a'.2=(B.take v).flatten.map (tix t)/\ yek a.2.2.2 a'.2/\ a'.2.Nodup/\ (∀b∈B.take v,yiz t f b)/\ (v=0->a.2.1=0)/\ (0<v->∃b,B[v-1]? =some b/\ b[0]? =some a.2.1)) _ ?_ (k:=B.length) ⟨0,rfl,rfl,rfl,rfl,by simp,ym6,by simp,by simp,fun _=>rfl,fun h=>by omega⟩;rintro m ⟨n1,k,v',u⟩ ⟨v2,at_⟩ ⟨v,hm,e1,e2,e3,I,hU,hD,hE,L,M⟩;simp only at e1 e2 e3 I hU hD L M;subst e2 e3 e1;have C:∀x∈at_,0<=x/\ x<(t.Trips.length:Int):=fun x hx=>by
   rw[I]at hx;obtain⟨e,P,rfl⟩:=List.mem_map.1 hx;obtain⟨b,T,U⟩:=List.mem_flatten.1 P;have:=yah ((hE b T).2.1 e U);omega
  by_cases hv:v<B.length
  ·obtain⟨b,g⟩:=jaj hv;have j:decide ((v:Int)<(B.length:Int))=true:=by simp;omega
   by_cases hz:b.length=0
   ·have p:((b.length:Int)==0)=true:=beq_iff_eq.2 (by omega);refine .inr ⟨_,_,?_,?_,.inl ⟨rfl,rfl⟩⟩
    ·simp only[yax,j,if_true,jal,g,Option.bind_some,p]
    ·simp only[yao,j,if_true,jal,g,Option.bind_some,p]
   have p:((b.length:Int)==0)=false:=beq_eq_false_iff_ne.2 (by omega);obtain⟨e,P⟩:=jaj (l:=b) (i:=0) (by omega);have y:idx b 0=some e:=ixs (i:=0) P;have F:¬e<=k->(∀R,yao t f B ((v:Int),at_)=R↔(flb (iter (yap t f B (v:Int)) ((0:Int),at_)) fun(z:List Int)=>some (.nx ((w64 ((v:Int)+1)),z)))=R)->(∃w E,∃k',yax t f B ((at_.length:Int),k,(v:Int),u)=some (.nx w)/\ yao t f B ((v:Int),at_)=some (.nx E)/\ k'<m/\ ∃v:Nat,k'+v=B.length/\ w.1=(E.2.length:Int)/\ w.2.2.1=(v:Int)/\ E.1=(v:Int)/\ E.2=(B.take v).flatten.map (tix t)/\ yek w.2.2.2 E.2/\ E.2.Nodup/\ (∀b∈B.take v,yiz t f b)/\ (v=0->w.2.1=0)/\ (0<v->∃b,B[v-1]? =some b/\ b[0]? =some w.2.1)) \/∃x x',yax t f B ((at_.length:Int),k,(v:Int),u)=some (.dn x)/\ yao t f B ((v:Int),at_)=some (.dn x')/\ ((x=.ret false/\ x'=.ret false) \/∃at_:List Int,x=.go (at_.length:Int)/\ x'=.go at_/\ at_=B.flatten.map (tix t)/\ at_.Nodup/\ ∀b∈B,yiz t f b):=by
    intro o hS;obtain⟨x,x',N,O,Q⟩:=yt4 hb h hB g C hU hD;have hI:yax t f B ((at_.length:Int),k,(v:Int),u)=flb (iter (ya5 t f b) ((at_.length:Int),(0:Int),u)) fun((A,v6):Int×(List Bool))=>some (.nx (A,e,(w64 ((v:Int)+1)),v6)):=by
     simp only[yax,j,if_true,jal,g,Option.bind_some,p,Bool.false_eq_true,if_false,y,o,decide_false]
    rcases Q with⟨rfl,rfl⟩|⟨G,u2,rfl,rfl,q1,Y,Z,q4,q5⟩
    ·refine .inr ⟨_,_,?_,?_,.inl ⟨rfl,rfl⟩⟩
     ·rw[hI,N];rfl
     ·rw[hS,O];rfl
    ·refine .inl ⟨((G.length:Int),e,w64 ((v:Int)+1),u2),(w64 ((v:Int)+1),G),m-1,?_,?_,by omega,v+1,by omega,rfl,jah (by have:=hB.1;omega),jah (by have:=hB.1;omega),?_,Y,Z,?_,fun h=>by omega,fun _=>⟨b,g,P⟩⟩
     ·rw[hI,N];rfl
     ·rw[hS,O];rfl
     ·rw[jap g,List.flatten_append,List.map_append,<-I,q1];simp
     ·intro E hb';rw[jap g]at hb';rcases List.mem_append.1 hb' with hb'|hb'
      ·exact hE E hb'
      ·rw[List.mem_singleton.1 hb'];exact⟨fun hn=>by rw[hn]at hz;exact hz rfl,q4,q5⟩
   by_cases X:0<v
   ·obtain⟨c,K,V⟩:=M X;have hw:w64 ((v:Int)-1)=((v-1:Nat):Int):=by rw[jak (by have:=hB.1;omega)];omega
    have D:decide ((0:Int)<(v:Int))=true:=by simp;omega
    have J:idx c 0=some k:=ixs (i:=0) V;by_cases o:e<=k
    ·refine .inr ⟨_,_,?_,?_,.inl ⟨rfl,rfl⟩⟩
     ·simp only[yax,j,if_true,jal,g,Option.bind_some,p,Bool.false_eq_true,if_false,y,o,decide_true]
     ·simp only[yao,j,if_true,jal,g,Option.bind_some,p,Bool.false_eq_true,if_false,y,D,hw,K,J,o,decide_true]
    ·refine F o fun R=>?_;simp only[yao,j,if_true,jal,g,Option.bind_some,p,Bool.false_eq_true,if_false,y,D,hw,K,J,o,decide_false]
   ·have hk:=L (by omega);subst hk;have D:decide ((0:Int)<(v:Int))=false:=by simp;omega
    have hS:yao t f B ((v:Int),at_)=(flb (iter (yap t f B (v:Int)) ((0:Int),at_)) fun(z:List Int)=>some (.nx ((w64 ((v:Int)+1)),z))):=by
     simp only[yao,j,if_true,jal,g,Option.bind_some,p,Bool.false_eq_true,if_false,D]
    by_cases o:e<=0
    ·have W:tix t e<0:=by
      rcases Int.lt_or_le (tix t e) 0 with h|h'
      ·exact h
      ·have:=yqu h.1 h';omega
     have S:decide ((0:Int)<(b.length:Int))=true:=by simp;omega
     refine .inr ⟨_,_,?_,?_,.inl ⟨rfl,rfl⟩⟩
     ·simp only[yax,j,if_true,jal,g,Option.bind_some,p,Bool.false_eq_true,if_false,y,o,decide_true]
     ·rw[hS,je5 (b:=.ret (.dn (.ret false))) (by simp only[yap,ixs g,S,if_true,y,Option.bind_some,yd5 hb,W,decide_true])];rfl
    ·exact F o fun R=>by rw[hS]
  ·have j:decide ((v:Int)<(B.length:Int))=false:=by simp;omega
   rw[List.take_of_length_le (by omega:B.length<=v)]at I hE;refine .inr ⟨_,_,?_,?_,.inr ⟨at_,rfl,rfl,I,hD,hE⟩⟩
   ·simp only[yax,j,Bool.false_eq_true,if_false]
   ·simp only[yao,j,Bool.false_eq_true,if_false]
 obtain⟨x,x',N,O,Q⟩:=H;unfold zq14 zq63;rw[N,O];rcases Q with⟨rfl,rfl⟩|⟨at_,rfl,rfl,q1,Y,Z⟩
 ·exact⟨false,rfl,rfl,fun h=>by cases h⟩
 ·refine⟨_,rfl,rfl,fun h=>⟨Z,q1▸Y,?_⟩⟩;have:(at_.length:Int)=(t.Trips.length:Int):=by simpa using h
  rw[q1,List.length_map]at this;omega
end
theorem ycr{t:Timetable}{f:Fleet}{B:List (List Int)}(hb:TB t)(a:FB f)(hB:BB B):∃v,zq8 t f B=some v/\ zq71 t f B=some v/\ (v=true->AskF t f/\ yaq t f B):=by
 unfold zq8 zq71;rw[ytp hb a,yd8 hb a];by_cases h:AskF t f
 ·obtain⟨v,b,e,g⟩:=yli hb h hB;exact⟨v,by simp[h,b],by simp[h,e],fun i=>⟨h,g i⟩⟩
 ·exact⟨false,by simp[h],by simp[h],fun h=>by cases h⟩
theorem yba{t:Timetable}{f:Fleet}(h:AskF t f){a:Int}(k:0<=tix t a):((tr t a).Start<ev t (tr t a)/\ ev t (tr t a)<=1799)/\ (0<=(tr t a).Start/\ (tr t a).Start<=1799)/\ zq28 t (tr t a)=some (ev t (tr t a))/\ ydz t (tix t a)=some (ev t (tr t a)):=by
 have e:=yah k;obtain⟨g,i,j,b⟩:=ybb h.1 e.1;rw[e.2.2.1]at b;exact⟨g,i,j,b⟩
theorem ydm{t:Timetable}{f:Fleet}(h:AskF t f){a c:Int}(k:0<=tix t a)(hc:0<=tix t c):(0<=dv t f (tr t a) (tr t c)/\ dv t f (tr t a) (tr t c)<=120)/\ zq27 t f (tr t a) (tr t c)=some (dv t f (tr t a) (tr t c))/\ zq65 t f (tix t a) (tix t c)=some (dv t f (tr t a) (tr t c)):=by
 have e:=yah k;have g:=yah hc;obtain⟨i,j,b⟩:=ybl h e.1 g.1;rw[e.2.2.1,g.2.2.1]at b;exact⟨i,j,b⟩
theorem yiv{b:List Int}{k:Nat}{e:Int}(h:b[k]? =some e):b.getD k 0=e:=by rw[List.getD_eq_getElem?_getD,h];rfl
def InjB(t:Timetable)(B:List (List Int)):Prop:=∀(i:Nat) b (k:Nat) e (i':Nat) b' (k':Nat) e',B[i]? =some b->b[k]? =some e->B[i']? =some b'->b'[k']? =some e'->tix t e=tix t e'->i=i'/\ k=k'
theorem pwG{α:Type}{R:α->α->Prop}{M:List α}(h:M.Pairwise R){i j:Nat}{a b:α}(e:i<j)(g:M[i]? =some a)(hb:M[j]? =some b):R a b:=by
 have:=List.pairwise_iff_getElem.1 h i j (ja7 g) (ja7 hb) e;rw[(List.getElem?_eq_some_iff.1 g).2,(List.getElem?_eq_some_iff.1 hb).2]at this;exact this
theorem yx5{t:Timetable}{B:List (List Int)}(h:(B.flatten.map (tix t)).Nodup):InjB t B:=by
 rw[List.map_flatten,List.Nodup,List.pairwise_flatten]at h;obtain⟨p,o⟩:=h;intro i b k e i' u k' e' hb m a g heq;have l:∀{i:Nat}{b:List Int},B[i]? =some b->(B.map (List.map (tix t)))[i]? =some (b.map (tix t)):=fun h=>by rw[List.getElem?_map,h];rfl
 have j:∀{b:List Int}{k:Nat}{e:Int},b[k]? =some e->(b.map (tix t))[k]? =some (tix t e):=fun h=>by rw[List.getElem?_map,h];rfl
 rcases Nat.lt_trichotomy i i' with hlt|rfl|hlt
 ·exact absurd heq (pwG o hlt (l hb) (l a) _ (List.mem_of_getElem? (j m)) _ (List.mem_of_getElem? (j g)))
 ·rw[hb]at a;cases a;have hd:=p _ (List.mem_of_getElem? (l hb));refine⟨rfl,?_⟩;rcases Nat.lt_trichotomy k k' with hlt|h|hlt
  ·exact absurd heq (pwG hd hlt (j m) (j g))
  ·exact h
  ·exact absurd heq.symm (pwG hd hlt (j g) (j m))
 ·exact absurd heq.symm (pwG o hlt (l a) (l hb) _ (List.mem_of_getElem? (j g)) _ (List.mem_of_getElem? (j m)))
section
variable{t:Timetable}{B:List (List Int)}
theorem yxx(A:InjB t B)(hB:BB B)(F:∀b∈B,∀e∈b,0<=tix t e){i:Nat}{b:List Int}{k:Nat}{e:Int}(hb:B[i]? =some b)(h:b[k]? =some e):zq49 B e=some ((i:Int),(k:Int)):=by
 unfold zq49;have H:Tot (iter (ych B e) (0:Int)) fun r=>r=.ret ((i:Int),(k:Int)):=by
  have hi:=ja7 hb;refine .iter (fun m v=>∃j:Nat,v=(j:Int)/\ m+j=i) (n:=i) ⟨0,rfl,rfl⟩ ?_;rintro m v ⟨j,rfl,G⟩;obtain⟨c,hc⟩:=jaj (l:=B) (i:=j) (by omega);have C:=hB.2 c (List.mem_of_getElem? hc);have x:=hB.1;unfold ych;refine .iteP (fun _=>.eq (ixs hc) (.eq (ybk c (by omega) e) (.iteP (fun h0=>?_) (fun h0=>?_)))) (fun D=>absurd (by omega) D)
  ·obtain⟨q,y,o,u,w,_⟩:=jmp (p:=fun z=>e==z) (l:=c) (by omega);have g:y=e:=(show e=y by simpa using w).symm;subst g;obtain⟨rfl,rfl⟩:=A _ _ _ _ _ _ _ _ hc u hb h rfl;rw[o];exact .dn rfl
  ·refine .nx ⟨m-1,?_,j+1,jah (by omega),?_⟩;all_goals
    have a:j≠i:=fun a=>by
     subst a;rw[hb]at hc;cases hc;have:=jsg (p:=fun z=>e==z) (l:=b) (by omega) e (List.mem_of_getElem? h);simp at this
    omega
 obtain⟨r,E,rfl⟩:=H;rw[E];rfl
end
section
variable{t:Timetable}{f:Fleet}{B:List (List Int)}
theorem yk8(hB:BB B){e:Int}(h:∀b∈B,e∉b):zq49 B e=some (-1,0):=by
 have u:=hB.1;unfold zq49;have H:Tot (iter (ych B e) (0:Int)) fun r=>r=.go ():=by
  refine .iter (fun m v=>∃j:Nat,v=(j:Int)/\ m+j=B.length) (n:=B.length) ⟨0,rfl,rfl⟩ ?_;rintro m v ⟨j,rfl,A⟩;unfold ych;refine .iteP (fun hc=>?_) (fun hc=>.dn rfl);obtain⟨c,g⟩:=jaj (l:=B) (i:=j) (by omega);have a:=List.mem_of_getElem? g;have w:=hB.2 c a;refine .eq (ixs g) (.eq (ybk c (by omega) e) (.iteP (fun h0=>?_) (fun h0=>.nx ⟨m-1,by omega,j+1,jah (by omega),by omega⟩)));obtain⟨q,y,_,k,o,_⟩:=jmp (p:=fun z=>e==z) (l:=c) (by omega);have:e=y:=by simpa using o
  subst this;exact absurd (List.mem_of_getElem? k) (h c a)
 obtain⟨r,x,rfl⟩:=H;rw[x];rfl
theorem yoc(hB:BB B)(e:Int):Tot (zq68 B e) fun r=>(r=(-1,-1)/\ ∀b∈B,e∉b) \/∃(i k:Nat)(b:List Int),r=((i:Int),(k:Int))/\ B[i]? =some b/\ b[k]? =some e:=by
 have A:=hB.1;unfold zq68;have H:Tot (iter (yfk B e) (0:Int)) fun r=>(r=.go ()/\ ∀b∈B,e∉b) \/∃(i k:Nat)(b:List Int),r=.ret ((i:Int),(k:Int))/\ B[i]? =some b/\ b[k]? =some e:=by
  refine .iter (fun m v=>∃j:Nat,v=(j:Int)/\ m+j=B.length/\ ∀(i:Nat) b,i<j->B[i]? =some b->e∉b) (n:=B.length) ⟨0,rfl,rfl,fun i b h=>by omega⟩ ?_;rintro m v ⟨j,rfl,D,hP⟩;unfold yfk;refine .iteP (fun hc=>?_) (fun hc=>.dn (.inl ⟨rfl,fun b hb=>?_⟩))
  ·obtain⟨c,a⟩:=jaj (l:=B) (i:=j) (by omega);have C:=hB.2 c (List.mem_of_getElem? a);have row:Tot (iter (yfl B e (j:Int)) (0:Int)) fun r=>(r=.go ()/\ e∉c) \/∃k:Nat,r=.ret (.dn (.ret ((j:Int),(k:Int))))/\ c[k]? =some e:=by
    refine .iter (fun m v=>∃q:Nat,v=(q:Int)/\ m+q=c.length/\ e∉c.take q) (n:=c.length) ⟨0,rfl,rfl,by simp⟩ ?_;rintro m v ⟨q,rfl,D,u⟩;unfold yfl;refine .eq (ixs a) (.iteP (fun h=>?_) (fun h=>.dn (.inl ⟨rfl,by rw[List.take_of_length_le (by omega)]at u;exact u⟩)));obtain⟨y,x⟩:=jaj (l:=c) (i:=q) (by omega);refine .eq (ixs a) (.eq (ixs x) (.ite (fun g=>?_) (fun g=>.nx ⟨m-1,by omega,q+1,jah (by omega),by omega,fun o=>?_⟩)))
    ·have:y=e:=by simpa using g
     subst this;exact .dn (.inr ⟨q,rfl,x⟩)
    ·rw[jap x]at o;rcases List.mem_append.1 o with h1|h1
     ·exact u h1
     ·have:e=y:=List.mem_singleton.1 h1;subst this;simp at g
   obtain⟨r,w,h⟩:=row;rw[w];rcases h with⟨rfl,h⟩|⟨k,rfl,h⟩
   ·refine .nx ⟨m-1,by omega,j+1,jah (by omega),by omega,fun i b hi hb=>?_⟩;by_cases p:i=j
    ·subst p;rw[a]at hb;cases hb;exact h
    ·exact hP i b (by omega) hb
   ·exact .dn (.inr ⟨j,k,c,rfl,a,h⟩)
  ·obtain⟨i,hi⟩:=List.getElem?_of_mem hb;exact hP i b (by have:=ja7 hi;omega) hi
 obtain⟨r,w,h⟩:=H;rw[w];rcases h with⟨rfl,h⟩|⟨i,k,b,rfl,h1,z⟩
 ·exact .ok (.inl ⟨rfl,h⟩)
 ·exact .ok (.inr ⟨i,k,b,rfl,h1,z⟩)
theorem yii{a b:List Int}(u:a.length=b.length)(p:a.length<=1000000){step:Int->Option (Lp Int (Fl Bool Unit))}(hs:∀(i:Nat) x y,a[i]? =some x->b[i]? =some y->step (i:Int)=if x=y then some (.nx (w64 ((i:Int)+1)))else some (.dn (.ret false)))(o:step (a.length:Int)=some (.dn (.go ()))):Ab.flb (iter step (0:Int)) (fun _=>some true)=some (decide (a=b)):=by
 refine je8 (.iter (fun m v=>∃i:Nat,v=(i:Int)/\ m+i=a.length/\ a.take i=b.take i) (n:=a.length) ⟨0,rfl,rfl,by simp⟩ ?_);rintro m v ⟨i,rfl,w,j⟩;by_cases hi:i<a.length
 ·obtain⟨x,g⟩:=jaj hi;obtain⟨y,k⟩:=jaj (l:=b) (i:=i) (by omega);rw[hs i x y g k];by_cases e:x=y
  ·rw[if_pos e];exact .nx ⟨m-1,by omega,i+1,jah (by omega),by omega,by rw[jap g,jap k,j,e]⟩
  ·rw[if_neg e];refine .dn (.inr ⟨rfl,fun h=>?_⟩);rw[h,k]at g;exact e (Option.some.inj g).symm
 ·have:i=a.length:=by omega
  subst this;rw[o];rw[List.take_length,List.take_of_length_le (by omega)]at j;exact .dn (.inl ⟨rfl,j⟩)
theorem yx7{a b:List Int}(k:a.length=b.length)(m:a.length<=1000000):ynu a b=some (decide (a=b)):=by
 unfold ynu;have g:((a.length:Int)!=(b.length:Int))=false:=by rw[k];simp
 simp only[g,Bool.false_eq_true,if_false];refine yii k m (fun i x y j l=>?_) (by unfold yb0;simp);have e:decide ((i:Int)<(a.length:Int))=true:=by have:=ja7 j;rw[decide_eq_true_eq];omega
 by_cases h:x=y
 ·subst h;simp only[yb0,e,if_true,jal,j,l,Option.bind_some,bne_self_eq_false,Bool.false_eq_true,if_false]
 ·have hb:(x !=y)=true:=by simp[h]
  simp only[yb0,e,if_true,jal,j,l,Option.bind_some,hb,h,if_false]
theorem yyh{a b:List Int}(k:a.length=b.length)(m:a.length<=1000000):ynz a b=some (decide (a=b)):=by
 unfold ynz;have g:((a.length:Int)!=(b.length:Int))=false:=by rw[k];simp
 simp only[g,Bool.false_eq_true,if_false];refine yii k m (fun i x y j l=>?_) (by unfold yb3;simp);have e:decide ((i:Int)<(a.length:Int))=true:=by have:=ja7 j;rw[decide_eq_true_eq];omega
 by_cases h:x=y
 ·subst h;simp only[yb3,e,if_true,jal,j,l,Option.bind_some,bne_self_eq_false,Bool.false_eq_true,if_false]
 ·have hb:(x !=y)=true:=by simp[h]
  simp only[yb3,e,if_true,jal,j,l,Option.bind_some,hb,h,if_false]
def IsP(B:List (List Int))(p:List Int):Prop:=p≠[]/\ ∃(i k:Nat)(b:List Int),B[i]? =some b/\ k+p.length<=b.length/\ (b.take (k+p.length)).drop k=p
noncomputable instance(B:List (List Int))(p:List Int):Decidable (IsP B p):=Classical.propDecidable _
theorem ye4{p:List Int}{i k:Nat}{b:List Int}(hb:B[i]? =some b)(e:k+p.length<=b.length)(h:(b.take (k+p.length)).drop k=p){j:Nat}(a:j<p.length):b[k+j]? =p[j]?:=by
 have:((b.take (k+p.length)).drop k)[j]? =p[j]?:=by rw[h]
 rw[List.getElem?_drop,List.getElem?_take_of_lt (by omega)]at this;exact this
theorem ylb{p:List Int}(h:IsP B p):∃b∈B,∀e∈p,e∈b:=by
 obtain⟨_,i,k,b,hb,_,g⟩:=h;refine⟨b,List.mem_of_getElem? hb,fun e a=>?_⟩;rw[<-g]at a;exact List.mem_of_mem_take (List.mem_of_mem_drop a)
theorem yxz(C:InjB t B)(hB:BB B)(I:∀b∈B,∀e∈b,0<=tix t e){p:List Int}(N:p.length<=3000):zq37 B p=some (decide (IsP B p)):=by
 unfold zq37;by_cases h0:p=[]
 ·subst h0;have:¬IsP B []:=fun h=>h.1 rfl;simp[this]
 have M:p.length≠0:=fun h=>h0 (List.length_eq_zero_iff.1 h);have F:((p.length:Int)==0)=false:=beq_eq_false_iff_ne.2 (by omega);obtain⟨e,z⟩:=jaj (l:=p) (i:=0) (by omega);have u:idx p 0=some e:=ixs (i:=0) z;by_cases v:∃b∈B,e∈b
 ·obtain⟨b,hb,E⟩:=v;obtain⟨i,hi⟩:=List.getElem?_of_mem hb;obtain⟨k,A⟩:=List.getElem?_of_mem E;have J:=hB.2 b hb;have K:=ja7 A;have L:w64 ((k:Int)+(p.length:Int))=((k+p.length:Nat):Int):=by rw[jak (by omega)];omega
  have o:decide ((0:Int)<=(i:Int))=true:=by rw[decide_eq_true_eq];omega
  simp only[F,Bool.false_eq_true,if_false,u,Option.bind_some,yxx C hB I hi A,o,if_true,jal,hi,L];by_cases w:k+p.length<=b.length
  ·have hd:decide (((k+p.length:Nat):Int)<=(b.length:Int))=true:=by rw[decide_eq_true_eq];omega
   have D:chk ((0:Int)<=(k:Int)/\ (k:Int)<=((k+p.length:Nat):Int)/\ ((k+p.length:Nat):Int)<=(b.length:Int))=some ():=ja9 (by omega);simp only[hd,if_true,D,Option.bind_some,Int.toNat_natCast];rw[yx7 (by rw[List.length_drop,List.length_take];omega) (by rw[List.length_drop,List.length_take];omega)];simp only[Option.bind_some];refine congrArg some (decide_eq_decide.2 ⟨fun h=>⟨h0,i,k,b,hi,w,h⟩,fun⟨_,i',k',G,a,g,y⟩=>?_⟩);have m:=ye4 a g y (j:=0) (by omega);rw[z,Nat.add_zero]at m;obtain⟨rfl,rfl⟩:=C _ _ _ _ _ _ _ _ a m hi A rfl;rw[hi]at a;cases a;exact y
  ·have hd:decide (((k+p.length:Nat):Int)<=(b.length:Int))=false:=by rw[decide_eq_false_iff_not];omega
   simp only[hd,Bool.false_eq_true,if_false,Option.bind_some];refine congrArg some ?_;have:¬IsP B p:=fun⟨_,i',k',G,a,g,y⟩=>by
    have m:=ye4 a g y (j:=0) (by omega);rw[z,Nat.add_zero]at m;obtain⟨rfl,rfl⟩:=C _ _ _ _ _ _ _ _ a m hi A rfl;rw[hi]at a;cases a;exact w g
   simp[this]
 ·have x:∀b∈B,e∉b:=fun b hb h=>v ⟨b,hb,h⟩;have o:decide ((0:Int)<= -1)=false:=by decide
  simp only[F,Bool.false_eq_true,if_false,u,Option.bind_some,yk8 hB x,o];have:¬IsP B p:=fun h=>by
   obtain⟨b,hb,H⟩:=ylb h;exact x b hb (H e (List.mem_of_getElem? z))
  simp[this]
theorem yxy(E:InjB t B)(hB:BB B)(M:∀b∈B,∀e∈b,0<=tix t e){p:List Int}(O:p.length<=3000):zq78 B p=some (decide (IsP B p)):=by
 unfold zq78;by_cases h0:p=[]
 ·subst h0;have:¬IsP B []:=fun h=>h.1 rfl;simp[this]
 have N:p.length≠0:=fun h=>h0 (List.length_eq_zero_iff.1 h);have G:((p.length:Int)==0)=false:=beq_eq_false_iff_ne.2 (by omega);obtain⟨e,w⟩:=jaj (l:=p) (i:=0) (by omega);have o:idx p 0=some e:=ixs (i:=0) w;obtain⟨r,F,D⟩:=yoc hB e;rcases D with⟨rfl,C⟩|⟨i,k,b,rfl,hi,z⟩
 ·have:¬IsP B p:=fun h=>by
   obtain⟨b,hb,I⟩:=ylb h;exact C b hb (I e (List.mem_of_getElem? w))
  have x:decide ((-1:Int)<0)=true:=by decide
  simp only[G,Bool.false_eq_true,if_false,o,Option.bind_some,F,x,if_true,this,decide_false]
 ·have J:=hB.2 b (List.mem_of_getElem? hi);have K:=ja7 z;have L:w64 ((k:Int)+(p.length:Int))=((k+p.length:Nat):Int):=by rw[jak (by omega)];omega
  have A:decide ((i:Int)<0)=false:=by rw[decide_eq_false_iff_not];omega
  simp only[G,Bool.false_eq_true,if_false,o,Option.bind_some,F,A,jal,hi,L];by_cases u:k+p.length<=b.length
  ·have hd:decide ((b.length:Int)<((k+p.length:Nat):Int))=false:=by rw[decide_eq_false_iff_not];omega
   have y:chk ((0:Int)<=(k:Int)/\ (k:Int)<=((k+p.length:Nat):Int)/\ ((k+p.length:Nat):Int)<=(b.length:Int))=some ():=ja9 (by omega);simp only[hd,Bool.false_eq_true,if_false,y,Option.bind_some,Int.toNat_natCast];rw[yyh (by rw[List.length_drop,List.length_take];omega) (by rw[List.length_drop,List.length_take];omega)];simp only[Option.bind_some];refine congrArg some (decide_eq_decide.2 ⟨fun h=>⟨h0,i,k,b,hi,u,h⟩,fun⟨_,i',k',H,a,g,v⟩=>?_⟩);have m:=ye4 a g v (j:=0) (by omega);rw[w,Nat.add_zero]at m;obtain⟨rfl,rfl⟩:=E _ _ _ _ _ _ _ _ a m hi z rfl;rw[hi]at a;cases a;exact v
  ·have hd:decide ((b.length:Int)<((k+p.length:Nat):Int))=true:=by rw[decide_eq_true_eq];omega
   have:¬IsP B p:=fun⟨_,i',k',H,a,g,v⟩=>by
    have m:=ye4 a g v (j:=0) (by omega);rw[w,Nat.add_zero]at m;obtain⟨rfl,rfl⟩:=E _ _ _ _ _ _ _ _ a m hi z rfl;rw[hi]at a;cases a;exact u g
   simp only[hd,if_true,this,decide_false]
def ya4(r:Rules):Prop:=(0<=r.SignOn/\ r.SignOn<=900)/\ (0<=r.SignOff/\ r.SignOff<=900)/\ (0<=r.MaxDrive/\ r.MaxDrive<=900)/\ (0<=r.MinBreak/\ r.MinBreak<=900)/\ (0<=r.PaidBreak/\ r.PaidBreak<=900)/\ (0<=r.MaxLength/\ r.MaxLength<=900)
noncomputable instance(r:Rules):Decidable (ya4 r):=Classical.propDecidable _
theorem yxw(r:Rules):zq10 r=some (decide (ya4 r)):=by
 unfold zq10;have hP:ya4 r↔∀x∈([r.SignOn,r.SignOff,r.MaxDrive,r.MinBreak,r.PaidBreak,r.MaxLength]:List Int),0<=x/\ x<=900:=by
  unfold ya4;simp only[List.mem_cons,List.not_mem_nil,or_false,forall_eq_or_imp,forall_eq]
 have b:([r.SignOn,r.SignOff,r.MaxDrive,r.MinBreak,r.PaidBreak,r.MaxLength]:List Int).length=6:=rfl;generalize hL:([r.SignOn,r.SignOff,r.MaxDrive,r.MinBreak,r.PaidBreak,r.MaxLength]:List Int)=L at hP b;refine je8 (.iter (fun m v=>∃i:Nat,v=(i:Int)/\ m+i=6/\ ∀x∈L.take i,0<=x/\ x<=900) (n:=6) ⟨0,rfl,rfl,by simp⟩ ?_);rintro m v ⟨i,rfl,j,h⟩;unfold ykz;rw[hL];refine .iteP (fun hc=>?_) (fun hc=>.dn (.inl ⟨rfl,hP.2 (by rw[List.take_of_length_le (by omega)]at h;exact h)⟩));obtain⟨x,a⟩:=jaj (l:=L) (i:=i) (by omega);refine .chk (by omega) (.eq (ixs a) (.eq (yam _ _ _) (.iteN (fun e=>.dn (.inr ⟨rfl,fun hR=>e (hP.1 hR x (List.mem_of_getElem? a))⟩)) (fun g=>.nx ⟨m-1,by omega,i+1,jah (by omega),by omega,fun y hy=>?_⟩))));rw[jap a]at hy;rcases List.mem_append.1 hy with hy|hy
 ·exact h y hy
 ·rw[List.mem_singleton.1 hy];exact g
theorem yxv(r:Rules):zq80 r=some (decide (ya4 r)):=by
 have j:∀x,zq76 x=some (decide (0<=x/\ x<=900)):=fun x=>by unfold zq76;rw[ya1];rfl
 unfold zq80 ya4;simp only[j,Option.bind_some];by_cases a:0<=r.SignOn/\ r.SignOn<=900<;>by_cases b:0<=r.SignOff/\ r.SignOff<=900<;>by_cases e:0<=r.MaxDrive/\ r.MaxDrive<=900<;>by_cases g:0<=r.MinBreak/\ r.MinBreak<=900<;>by_cases h:0<=r.PaidBreak/\ r.PaidBreak<=900<;>by_cases i:0<=r.MaxLength/\ r.MaxLength<=900<;>simp[a,b,e,g,h,i]
theorem yob(hb:TB t)(g:FB f)(hB:BB B)(r:Rules):∃v,zq16 t f B r=some v/\ zq70 t f B r=some v/\ (v=true->AskF t f/\ yaq t f B/\ ya4 r):=by
 obtain⟨v,a,b,e⟩:=ycr hb g hB;unfold zq16 zq70;rw[a,b,yxw,yxv];cases v with
 |false=>exact⟨false,rfl,rfl,fun h=>by cases h⟩
 |true=>
  obtain⟨hA,hP⟩:=e rfl;refine⟨decide (ya4 r),rfl,rfl,fun h=>⟨hA,hP,of_decide_eq_true h⟩⟩
noncomputable def pS(t:Timetable)(p:List Int):Int:=(tr t (p.getD 0 0)).Start
noncomputable def pE(t:Timetable)(p:List Int):Int:=ev t (tr t (p.getD (p.length-1) 0))
noncomputable def gap(t:Timetable)(f:Fleet)(a b:List Int):Int:=w64 (w64 (pS t b-pE t a)-dv t f (tr t (a.getD (a.length-1) 0)) (tr t (b.getD 0 0)))
def Trs(t:Timetable)(p:List Int):Prop:=p≠[]/\ p.length<=3000/\ ∀e∈p,0<=tix t e
theorem yxt(g:∀b∈B,∀e∈b,0<=tix t e){p:List Int}(h:IsP B p)(j:p.length<=3000):Trs t p:=by
 obtain⟨b,hb,a⟩:=ylb h;exact⟨h.1,j,fun e i=>g b hb e (a e i)⟩
theorem yal{p:List Int}(h:Trs t p):∃a z,p[0]? =some a/\ p[p.length-1]? =some z/\ 0<=tix t a/\ 0<=tix t z/\ w64 ((p.length:Int)-1)=((p.length-1:Nat):Int)/\ p.getD 0 0=a/\ p.getD (p.length-1) 0=z:=by
 have j:p.length≠0:=fun g=>h.1 (List.length_eq_zero_iff.1 g);obtain⟨a,b⟩:=jaj (l:=p) (i:=0) (by omega);obtain⟨z,e⟩:=jaj (l:=p) (i:=p.length-1) (by omega);refine⟨a,z,b,e,h.2.2 a (List.mem_of_getElem? b),h.2.2 z (List.mem_of_getElem? e),?_,yiv b,yiv e⟩;have:=h.2.1;rw[jak (by omega)];omega
theorem yn9(hb:TB t)(hA:AskF t f){p:List Int}(h:Trs t p):zq51 t p=some ⟨pS t p,pE t p⟩:=by
 obtain⟨a,z,k,m,o,e,l,g,j⟩:=yal h;have b:idx p 0=some a:=ixs (i:=0) k;unfold zq51 pS pE;simp only[b,Option.bind_some,yn7 hb o,l,jal,m,yn7 hb e,(yba hA e).2.2.1,g,j]
theorem yif(hb:TB t){p:List Int}(h:Trs t p):zq81 t p=some (pS t p):=by
 obtain⟨a,z,g,m,j,o,l,e,k⟩:=yal h;have b:idx p 0=some a:=ixs (i:=0) g;unfold zq81 pS;simp only[b,Option.bind_some,yd5 hb,yhd j,e]
theorem endS(hb:TB t)(hA:AskF t f){p:List Int}(h:Trs t p):zq73 t p=some (pE t p):=by
 obtain⟨a,z,k,g,l,i,e,j,b⟩:=yal h;unfold zq73 pE;simp only[e,jal,g,Option.bind_some,yd5 hb,(yba hA i).2.2.2,b]
theorem gapS(hb:TB t)(hA:AskF t f){a b:List Int}(h:Trs t a)(e:Trs t b):zq74 t f a b=some (gap t f a b):=by
 obtain⟨_,z,_,m,_,p,l,_,k⟩:=yal h;obtain⟨c,_,hc,_,o,_,_,j,_⟩:=yal e;have g:idx b 0=some c:=ixs (i:=0) hc;unfold zq74 gap;simp only[yif hb e,endS hb hA h,Option.bind_some,l,jal,m,g,yd5 hb,(ydm hA p o).2.2,k,j]
noncomputable def gaps(t:Timetable)(f:Fleet)(d:List (List Int)):List Int:=(List.range (d.length-1)).map fun v=>gap t f (d.getD v []) (d.getD (v+1) [])
theorem yoi{d:List (List Int)}{k:Nat}{p:List Int}(h:d[k]? =some p):d.getD k []=p:=by rw[List.getD_eq_getElem?_getD,h];rfl
theorem ywy(hb:TB t)(hA:AskF t f){d:List (List Int)}(L:d.length<=4)(hd:∀p∈d,Trs t p):zq31 t f d=some (gaps t f d):=by
 unfold zq31;refine Tot.val (.call (P:=fun o=>o=gaps t f d) ?_ fun o j=>.ok j);refine .iter (fun m (s:Int×List Int)=>∃v:Nat,s.1=((v+1:Nat):Int)/\ m+v=d.length/\ s.2.length<=v/\ (v<=d.length-1->s.2=(List.range v).map fun v=>gap t f (d.getD v []) (d.getD (v+1) []))/\ (d.length<=v->s.2=gaps t f d)) (n:=d.length) ⟨0,rfl,rfl,by simp,fun _=>rfl,fun h=>?_⟩ ?_
 ·have:d=[]:=List.length_eq_zero_iff.1 (by omega);subst this;rfl
 rintro m ⟨N,o⟩ ⟨v,D,M,x,j,E⟩;simp only at D x j E;subst D;unfold yjy;refine .iteP (fun hc=>?_) (fun hc=>.dn ?_)
 ·obtain⟨a,k⟩:=jaj (l:=d) (i:=v) (by omega);obtain⟨b,e⟩:=jaj (l:=d) (i:=v+1) (by omega);have F:=hd a (List.mem_of_getElem? k);have tb:=hd b (List.mem_of_getElem? e);obtain⟨_,z,_,C,_,H,K,_,J⟩:=yal F;obtain⟨c,_,w,_,G,_,_,I,_⟩:=yal tb;have A:w64 (((v+1:Nat):Int)-1)=(v:Int):=by rw[jak (by omega)];omega
  have u:idx b 0=some c:=ixs (i:=0) w;have g:w64 (w64 (pS t b-pE t a)-dv t f (tr t z) (tr t c))=gap t f a b:=by unfold gap;rw[J,I]
  rw[A];refine .eq (ixs k) (.eq (ixs e) (.eq (yn9 hb hA tb) (.eq (yn9 hb hA F) ?_)));rw[K];refine .eq (ixs C) (.eq (yn7 hb H) (.eq u (.eq (yn7 hb G) (.eq (ydm hA H G).2.1 (.chk (by simp;omega) (.nx ⟨m-1,by omega,v+1,jah (by omega),by omega,?_,fun y=>?_,fun y=>by omega⟩))))))
  ·simp only[List.length_append,List.length_singleton];omega
  ·show o++[w64 (w64 (pS t b-pE t a)-dv t f (tr t z) (tr t c))]=_;rw[g,j (by omega),List.range_succ,List.map_append,List.map_singleton,yoi k,yoi e]
 ·rcases Nat.lt_or_ge v d.length with h|h
  ·have y:v=d.length-1:=by omega
   show o=_;rw[j (by omega),y];rfl
  ·exact E h
theorem yof(hb:TB t)(hA:AskF t f)(r:Rules){d:List (List Int)}(m:1<=d.length/\ d.length<=4)(hd:∀p∈d,Trs t p):∃n,zq42 t r ⟨d⟩=some n/\ zq75 t r ⟨d⟩=some n:=by
 obtain⟨a,g⟩:=jaj (l:=d) (i:=0) (by omega);obtain⟨z,e⟩:=jaj (l:=d) (i:=d.length-1) (by omega);have j:=hd a (List.mem_of_getElem? g);have k:=hd z (List.mem_of_getElem? e);have h:w64 ((d.length:Int)-1)=((d.length-1:Nat):Int):=by rw[jak (by omega)];omega
 have b:idx d 0=some a:=ixs (i:=0) g;refine⟨w64 (w64 (w64 (r.SignOn+pE t z)-pS t a)+r.SignOff),?_,?_⟩
 ·unfold zq42;simp only[h,jal,e,Option.bind_some,yn9 hb hA k,b,yn9 hb hA j]
 ·unfold zq75;simp only[h,jal,e,Option.bind_some,endS hb hA k,b,yif hb j]
end
theorem yxe{l c:List Int}(hs:l.Pairwise (· <= ·))(hc:comM l=some c):c.length<l.length↔¬l.Nodup:=by
 unfold comM at hc;cases hc;have a:∀{j:Nat}{x:Int},l[j]? =some x->l.toArray[j]! =x:=fun{j x} h=>by rw[getElem!_def,List.getElem?_toArray,h]
 have k:(Lib.compactUpTo l.toArray l.length).length=((List.range l.length).filter (Lib.keeps l.toArray)).length:=by unfold Lib.compactUpTo;rw[List.length_map]
 have u:((List.range l.length).filter (Lib.keeps l.toArray)).length<=l.length:=Nat.le_trans (List.length_filter_le ..) (by simp);have g:((List.range l.length).filter (Lib.keeps l.toArray)).length=l.length↔∀j,j<l.length->Lib.keeps l.toArray j=true:=by
  have h:=List.length_filter_eq_length_iff (p:=Lib.keeps l.toArray) (l:=List.range l.length);rw[List.length_range]at h;rw[h];exact⟨fun h j b=>h j (List.mem_range.2 b),fun h j b=>h j (List.mem_range.1 b)⟩
 have o:(∀j,j<l.length->Lib.keeps l.toArray j=true)↔l.Nodup:=by
  constructor
  ·intro h;rw[List.Nodup,List.pairwise_iff_getElem];intro i j hi b m v;have h1:=h j b;unfold Lib.keeps at h1;rw[decide_eq_true_eq]at h1;rcases h1 with h1|h1
   ·omega
   ·have q1:=List.getElem?_eq_getElem b;have e:=List.getElem?_eq_getElem (l:=l) (i:=j-1) (by omega);rw[a q1,a e]at h1;have w:l[j-1]<=l[j]:=pwG hs (by omega:j-1<j) e q1;have y:l[i]<=l[j-1]:=by
     rcases Nat.lt_or_ge i (j-1)with h|h
     ·exact pwG hs h (List.getElem?_eq_getElem hi) e
     ·have:i=j-1:=by omega
      subst this;exact Int.le_refl _
    omega
  ·intro h j b;unfold Lib.keeps;rw[decide_eq_true_eq];by_cases h0:j=0
   ·exact .inl h0
   ·right;have q1:=List.getElem?_eq_getElem b;have e:=List.getElem?_eq_getElem (l:=l) (i:=j-1) (by omega);rw[a q1,a e];exact(pwG h (by omega:j-1<j) e q1).symm
 rw[k,<-o,<-g];omega
def yav(B d:List (List Int)):Prop:=(1<=d.length/\ d.length<=3)/\ (∀p∈d,IsP B p)/\ d.flatten.Nodup
noncomputable instance(B d:List (List Int)):Decidable (yav B d):=Classical.propDecidable _
theorem ydl:∀{d:List (List Int)},(∀p∈d,p.length<=3000)->d.flatten.length<=3000*d.length
 |[],_=>by simp
 |p::d,h=>by
  have b:=ydl (d:=d) fun q a=>h q (List.mem_cons_of_mem _ a);have e:=h p (List.mem_cons_self ..);rw[List.flatten_cons,List.length_append,List.length_cons];omega
section
variable{t:Timetable}{f:Fleet}{B:List (List Int)}{r:Rules}{d:List (List Int)}
theorem yyc(w:InjB t B)(hB:BB B)(x:∀b∈B,∀e∈b,0<=tix t e)(D:d.length<=4)(u:∀p∈d,p.length<=3000):Tot (iter (yf5 B ⟨d⟩) ((0:Int),([]:List Int))) fun b=>(b=.go d.flatten/\ ∀p∈d,IsP B p) \/(b=.ret 1/\ ¬∀p∈d,IsP B p):=by
 refine .iter (fun m (s:Int×List Int)=>∃v:Nat,s.1=(v:Int)/\ m+v=d.length/\ s.2=(d.take v).flatten/\ ∀p∈d.take v,IsP B p) (n:=d.length) ⟨0,rfl,rfl,by simp,by simp⟩ ?_;rintro m ⟨F,s⟩ ⟨v,k,E,o,hP⟩;simp only at k o;subst k o;unfold yf5;dsimp only
 refine .iteP (fun hc=>?_) (fun hc=>.dn (.inl ?_))
 ·obtain⟨p,a⟩:=jaj (l:=d) (i:=v) (by omega);have g:=List.mem_of_getElem? a;have j:=u p g;have y:=ydl (d:=d.take v) fun q hq=>u q (List.mem_of_mem_take hq);have A:(d.take v).length<=v:=by rw[List.length_take];omega
  refine .eq (ixs a) (.eq (yxz w hB x j) (.iteN (fun z=>.dn (.inr ⟨rfl,fun h=>z (h p g)⟩)) (fun C=>.chk (by omega) (.nx ⟨m-1,by omega,v+1,jah (by omega),by omega,?_,fun q hq=>?_⟩))))
  ·rw[jap a,List.flatten_append];simp
  ·rw[jap a]at hq;rcases List.mem_append.1 hq with hq|hq
   ·exact hP q hq
   ·rw[List.mem_singleton.1 hq];exact C
 ·rw[List.take_of_length_le (by omega)]at hP ⊢;exact⟨rfl,hP⟩
theorem ywp(N:InjB t B)(hB:BB B)(O:∀b∈B,∀e∈b,0<=tix t e)(W:d.length<=4)(J:∀p∈d,p.length<=3000):zq79 B ⟨d⟩=some (decide (yav B d)):=by
 have w:∀(v:Nat) p (k:List Int),d[v]? =some p->k.length<=90000->k.Nodup->Tot (iter (yfi ⟨d⟩ (v:Int)) ((0:Int),k)) fun x=>(x=.go (k++p)/\ (k++p).Nodup) \/(x=.ret (.dn (.ret false))/\ ¬(k++p).Nodup):=fun v p k I S R=>by
  have A:=J p (List.mem_of_getElem? I);refine .iter (fun m (s:Int×List Int)=>∃j:Nat,s.1=(j:Int)/\ m+j=p.length/\ s.2=k++p.take j/\ s.2.Nodup) (n:=p.length) ⟨0,rfl,rfl,by simp,R⟩ ?_;rintro m ⟨j',s⟩ ⟨j,y,T,z,hN⟩;simp only at y z hN;subst y z;unfold yfi;dsimp only
  refine .eq (ixs I) (.iteP (fun hc=>?_) (fun hc=>.dn (.inl ?_)))
  ·obtain⟨e,H⟩:=jaj (l:=p) (i:=j) (by omega);have K:(k++p.take j).length<=93000:=by rw[List.length_append,List.length_take];omega
   have D:k++p=(k++p.take (j+1))++p.drop (j+1):=by rw[List.append_assoc,List.take_append_drop]
   refine .eq (ixs I) (.eq (ixs H) ?_);by_cases o:e∈k++p.take j
   ·have u:yd2 (k++p.take j) e=some true:=by
     rw[yb6 (k++p.take j) (by omega) e];simp[o]
    refine .eq u (.dn (.inr ⟨rfl,fun h=>?_⟩));rw[D]at h;have F:=(List.nodup_append.1 h).1;rw[jap H,<-List.append_assoc]at F;exact(List.nodup_append.1 F).2.2 e o e (List.mem_singleton.2 rfl) rfl
   ·have u:yd2 (k++p.take j) e=some false:=by
     rw[yb6 (k++p.take j) (by omega) e];simp only[o,decide_false]
    refine .eq u (.eq (ixs I) (.eq (ixs H) (.chk (by rw[List.length_singleton];omega) (.nx ⟨m-1,by omega,j+1,jah (by omega),by omega,?_,?_⟩))))
    ·rw[jap H,List.append_assoc]
    ·refine List.nodup_append.2 ⟨hN,by simp,fun a P c hc=>?_⟩;rw[List.mem_singleton.1 hc];intro h;exact o (h▸P)
  ·rw[List.take_of_length_le (by omega)]at hN ⊢;exact⟨rfl,hN⟩
 have outer:Tot (iter (yfh B ⟨d⟩) ((0:Int),([]:List Int))) fun x=>(x=.go ()/\ (∀p∈d,IsP B p)/\ d.flatten.Nodup) \/(x=.ret false/\ ¬((∀p∈d,IsP B p)/\ d.flatten.Nodup)):=by
  refine .iter (fun m (s:Int×List Int)=>∃v:Nat,s.1=(v:Int)/\ m+v=d.length/\ s.2=(d.take v).flatten/\ s.2.Nodup/\ ∀p∈d.take v,IsP B p) (n:=d.length) ⟨0,rfl,rfl,by simp,by simp,by simp⟩ ?_;rintro m ⟨X,s⟩ ⟨v,y,T,z,hN,hP⟩;simp only at y z hN;subst y z;unfold yfh;dsimp only
  refine .iteP (fun hc=>?_) (fun hc=>.dn (.inl ?_))
  ·obtain⟨p,g⟩:=jaj (l:=d) (i:=v) (by omega);have C:=List.mem_of_getElem? g;have A:=J p C;have Q:=ydl (d:=d.take v) fun q hq=>J q (List.mem_of_mem_take hq);have K:(d.take v).length<=v:=by rw[List.length_take];omega
   refine .eq (ixs g) (.eq (yxy N hB O A) (.iteN (fun U=>.dn (.inr ⟨rfl,fun h=>U (h.1 p C)⟩)) (fun V=>?_)));obtain⟨x,L,M⟩:=w v p (d.take v).flatten g (by omega) hN;have E:(d.take (v+1)).flatten=(d.take v).flatten++p:=by rw[jap g,List.flatten_append];simp
   rw[L];rcases M with⟨rfl,h⟩|⟨rfl,h⟩
   ·refine .nx ⟨m-1,by omega,v+1,jah (by omega),by omega,E.symm,h,fun q hq=>?_⟩;rw[jap g]at hq;rcases List.mem_append.1 hq with hq|hq
    ·exact hP q hq
    ·rw[List.mem_singleton.1 hq];exact V
   ·refine .dn (.inr ⟨rfl,fun u=>h ?_⟩);have G:=u.2;rw[<-List.take_append_drop (v+1) d,List.flatten_append,E]at G;exact(List.nodup_append.1 G).1
  ·rw[List.take_of_length_le (by omega)]at hP hN;exact⟨rfl,hP,hN⟩
 unfold zq79;obtain⟨x,L,h⟩:=outer;rw[L];rcases h with⟨rfl,F,G⟩|⟨rfl,h⟩
 ·simp only[jco,ya1,Option.bind_some];refine congrArg some (decide_eq_decide.2 ⟨fun h=>⟨by omega,F,G⟩,fun h=>by have:=h.1;omega⟩)
 ·have:¬yav B d:=fun u=>h ⟨u.2.1,u.2.2⟩;simp[this]
def yiy(t:Timetable)(r:Rules)(d:List (List Int)):Prop:=∀p∈d,¬r.MaxDrive<w64 (pE t p-pS t p)
def GapP(t:Timetable)(f:Fleet)(r:Rules)(d:List (List Int)):Prop:=∀g∈gaps t f d,¬g<r.MinBreak
theorem yb9{X:Type}(l:List X)(k:l.length<=100000)(ok:X->Prop)[DecidablePred ok]{R:Type}(rv:R){step:Int->Option (Lp Int (Fl R Unit))}(a:Nat)(hs:∀(i:Nat) x,l[i]? =some x->step ((i+a:Nat):Int)=if ok x then some (.nx (w64 (((i+a:Nat):Int)+1)))else some (.dn (.ret rv)))(j:∀i:Nat,l.length<=i->step ((i+a:Nat):Int)=some (.dn (.go ())))(p:a<=1):Tot (iter step (a:Int)) fun b=>(b=.go ()/\ ∀x∈l,ok x) \/(b=.ret rv/\ ¬∀x∈l,ok x):=by
 refine .iter (fun m v=>∃i:Nat,v=((i+a:Nat):Int)/\ m+i=l.length/\ ∀x∈l.take i,ok x) (n:=l.length) ⟨0,by simp,rfl,by simp⟩ ?_;rintro m v ⟨i,rfl,o,hP⟩;by_cases hi:i<l.length
 ·obtain⟨x,g⟩:=jaj hi;rw[hs i x g];by_cases e:ok x
  ·rw[if_pos e];refine .nx ⟨m-1,by omega,i+1,?_,by omega,fun y hy=>?_⟩
   ·rw[jak (by omega)];omega
   ·rw[jap g]at hy;rcases List.mem_append.1 hy with hy|hy
    ·exact hP y hy
    ·rw[List.mem_singleton.1 hy];exact e
  ·rw[if_neg e];exact .dn (.inr ⟨rfl,fun h=>e (h x (List.mem_of_getElem? g))⟩)
 ·rw[j i (by omega)];rw[List.take_of_length_le (by omega)]at hP;exact .dn (.inl ⟨rfl,hP⟩)
theorem yx9(hb:TB t)(hA:AskF t f)(k:d.length<=4)(hd:∀p∈d,Trs t p):Tot (iter (ycj t r ⟨d⟩) (0:Int)) fun b=>(b=.go ()/\ yiy t r d) \/(b=.ret 2/\ ¬yiy t r d):=by
 refine yb9 d (by omega) (fun p=>¬r.MaxDrive<w64 (pE t p-pS t p)) (2:Int) 0 (fun i p j=>?_) (fun i hi=>?_) (by omega)
 ·have a:decide (((i+0:Nat):Int)<(d.length:Int))=true:=by have:=ja7 j;rw[decide_eq_true_eq];omega
  have g:=yn9 hb hA (hd p (List.mem_of_getElem? j));have e:idx d ((i+0:Nat):Int)=some p:=ixs j;by_cases h:r.MaxDrive<w64 (pE t p-pS t p)
  ·simp only[ycj,a,if_true,e,Option.bind_some,g,h,decide_true,not_true,if_false]
  ·simp only[ycj,a,if_true,e,Option.bind_some,g,h,decide_false,Bool.false_eq_true,if_false,not_false_eq_true]
 ·have a:decide (((i+0:Nat):Int)<(d.length:Int))=false:=by rw[decide_eq_false_iff_not];omega
  simp only[ycj,a,Bool.false_eq_true,if_false]
theorem yx8(hb:TB t)(hA:AskF t f)(k:d.length<=4)(hd:∀p∈d,Trs t p):Tot (iter (yce t r ⟨d⟩) (0:Int)) fun b=>(b=.go ()/\ yiy t r d) \/(b=.ret 2/\ ¬yiy t r d):=by
 refine yb9 d (by omega) (fun p=>¬r.MaxDrive<w64 (pE t p-pS t p)) (2:Int) 0 (fun i p j=>?_) (fun i hi=>?_) (by omega)
 ·have a:decide (((i+0:Nat):Int)<(d.length:Int))=true:=by have:=ja7 j;rw[decide_eq_true_eq];omega
  have g:=hd p (List.mem_of_getElem? j);have e:idx d ((i+0:Nat):Int)=some p:=ixs j;by_cases h:r.MaxDrive<w64 (pE t p-pS t p)
  ·simp only[yce,a,if_true,e,Option.bind_some,endS hb hA g,yif hb g,h,decide_true,not_true,if_false]
  ·simp only[yce,a,if_true,e,Option.bind_some,endS hb hA g,yif hb g,h,decide_false,Bool.false_eq_true,if_false,not_false_eq_true]
 ·have a:decide (((i+0:Nat):Int)<(d.length:Int))=false:=by rw[decide_eq_false_iff_not];omega
  simp only[yce,a,Bool.false_eq_true,if_false]
theorem yho(t:Timetable)(f:Fleet)(d:List (List Int)):(gaps t f d).length=d.length-1:=by unfold gaps;rw[List.length_map,List.length_range]
theorem gapI(l:d.length<=4):Tot (iter (yci r (gaps t f d)) (0:Int)) fun b=>(b=.go ()/\ GapP t f r d) \/(b=.ret 3/\ ¬GapP t f r d):=by
 have k:=yho t f d;refine yb9 (gaps t f d) (by omega) (fun g=>¬g<r.MinBreak) (3:Int) 0 (fun i g j=>?_) (fun i hi=>?_) (by omega)
 ·have a:decide (((i+0:Nat):Int)<((gaps t f d).length:Int))=true:=by have:=ja7 j;rw[decide_eq_true_eq];omega
  have e:idx (gaps t f d) ((i+0:Nat):Int)=some g:=ixs j;by_cases h:g<r.MinBreak
  ·simp only[yci,a,if_true,e,Option.bind_some,h,decide_true,not_true,if_false]
  ·simp only[yci,a,if_true,e,Option.bind_some,h,decide_false,Bool.false_eq_true,if_false,not_false_eq_true]
 ·have a:decide (((i+0:Nat):Int)<((gaps t f d).length:Int))=false:=by rw[decide_eq_false_iff_not];omega
  simp only[yci,a,Bool.false_eq_true,if_false]
theorem yyl(hb:TB t)(hA:AskF t f)(z:d.length<=4)(hd:∀p∈d,Trs t p):Tot (iter (ycd t f r ⟨d⟩) (1:Int)) fun b=>(b=.go ()/\ GapP t f r d) \/(b=.ret 3/\ ¬GapP t f r d):=by
 have y:=yho t f d;refine yb9 (gaps t f d) (by omega) (fun g=>¬g<r.MinBreak) (3:Int) 1 (fun i g u=>?_) (fun i hi=>?_) (by omega)
 ·have hi:=ja7 u;have e:decide (((i+1:Nat):Int)<(d.length:Int))=true:=by rw[decide_eq_true_eq];omega
  obtain⟨a,v⟩:=jaj (l:=d) (i:=i) (by omega);obtain⟨b,j⟩:=jaj (l:=d) (i:=i+1) (by omega);have w:g=gap t f a b:=by
   unfold gaps at u;rw[List.getElem?_map,List.getElem?_range (by omega)]at u;have:=Option.some.inj u;rw[<-this];show gap t f (d.getD i []) (d.getD (i+1) [])=_;rw[yoi v,yoi j]
  have x:w64 (((i+1:Nat):Int)-1)=(i:Int):=by rw[jak (by omega)];omega
  have k:=gapS hb hA (hd a (List.mem_of_getElem? v)) (hd b (List.mem_of_getElem? j));rw[<-w]at k;have m:idx d (i:Int)=some a:=ixs v;have o:idx d ((i+1:Nat):Int)=some b:=ixs j;by_cases h:g<r.MinBreak
  ·simp only[ycd,e,if_true,x,m,o,Option.bind_some,k,h,decide_true,not_true,if_false]
  ·simp only[ycd,e,if_true,x,m,o,Option.bind_some,k,h,decide_false,Bool.false_eq_true,if_false,not_false_eq_true]
 ·have e:decide (((i+1:Nat):Int)<(d.length:Int))=false:=by rw[decide_eq_false_iff_not];omega
  simp only[ycd,e,Bool.false_eq_true,if_false]
theorem yeg(hb:TB t)(hA:AskF t f)(hP:yaq t f B)(hB:BB B)(o:d.length<=4)(K:∀p∈d,p.length<=3000)(S:d.flatten.length<=srtN):∃v,zq18 t f B r ⟨d⟩=some v/\ zq72 t f B r ⟨d⟩=some v/\ (v=0->yav B d/\ (∀p∈d,Trs t p)/\ GapP t f r d/\ ∃n,zq42 t r ⟨d⟩=some n/\ ¬r.MaxLength<n):=by
 have W:=yx5 hP.2.1;have L:=fun b h=>(hP.1 b h).2.1;have hS:=ywp (d:=d) W hB L o K;unfold zq18 zq72;rw[hS,yam];by_cases w:(1:Int)<=(d.length:Int)/\ (d.length:Int)<=3
 ·obtain⟨x,hx,U⟩:=yyc (d:=d) W hB L o K;simp only[w,and_self,decide_true,Bool.not_true,Bool.false_eq_true,if_false,Option.bind_some,hx];rcases U with⟨rfl,g⟩|⟨rfl,Q⟩
  ·have Y:=ydl K;obtain⟨s,hs,J,T⟩:=ytf d.flatten S;have aa:=J.length_eq;have O:chk (([]:List Int).length+s.length<=4294967296)=some ():=ja9 (by rw[List.length_nil];omega);obtain⟨V,R⟩:=jaj (l:=d) (i:=0) (by omega);have Z:s.length≠0:=by
    have u:=List.mem_of_getElem? R;have X:=(g V u).1;cases hc:V with
    |nil=>exact absurd hc X
    |cons a q=>
     have:a∈d.flatten:=List.mem_flatten.2 ⟨V,u,by rw[hc];exact List.mem_cons_self ..⟩;have:=List.length_pos_of_mem this;omega
   obtain⟨c,hc⟩:∃c,comM s=some c:=⟨_,rfl⟩;have G:=yxe T hc;have H:s.Nodup↔d.flatten.Nodup:=J.nodup_iff;have P:ywb s=some c:=hc;have m:ycw s=some s:=by unfold ycw;rw[O];rfl
   simp only[jco,hs,Option.bind_some,m,P];by_cases hN:d.flatten.Nodup
   ·have e:yav B d:=⟨by omega,g,hN⟩;have y:¬(c.length:Int)<(s.length:Int):=fun h=>(G.1 (by omega)) (H.2 hN);have hd:∀p∈d,Trs t p:=fun p I=>yxt L (g p I) (K p I);obtain⟨a1,M,C⟩:=yx9 (r:=r) hb hA o hd;obtain⟨b1,N,E⟩:=yx8 (r:=r) hb hA o hd;obtain⟨a3,j,D⟩:=gapI (t:=t) (f:=f) (r:=r) o;obtain⟨b3,k,F⟩:=yyl (r:=r) hb hA o hd;obtain⟨n,n1,n2⟩:=yof hb hA r (d:=d) ⟨by omega,o⟩ hd;simp only[e,decide_true,Bool.not_true,Bool.false_eq_true,if_false,y,decide_false,M,N,ywy hb hA o hd,j,k];by_cases hD:yiy t r d
    ·rcases C with⟨rfl,_⟩|⟨_,h⟩
     ·rcases E with⟨rfl,_⟩|⟨_,h⟩
      ·simp only[jco,Option.bind_some,j,k,ywy hb hA o hd];by_cases z:GapP t f r d
       ·rcases D with⟨rfl,_⟩|⟨_,h⟩
        ·rcases F with⟨rfl,_⟩|⟨_,h⟩
         ·simp only[jco,n1,n2,Option.bind_some];by_cases A:r.MaxLength<n
          ·exact⟨4,by simp[A,j],by simp[A,k],fun h=>by cases h⟩
          ·exact⟨0,by simp[A,j],by simp[A,k],fun _=>⟨trivial,hd,z,n,rfl,A⟩⟩
         ·exact absurd z h
        ·exact absurd z h
       ·rcases D with⟨_,h⟩|⟨rfl,_⟩
        ·exact absurd h z
        ·rcases F with⟨_,h⟩|⟨rfl,_⟩
         ·exact absurd h z
         ·exact⟨3,rfl,rfl,fun h=>by cases h⟩
      ·exact absurd hD h
     ·exact absurd hD h
    ·rcases C with⟨_,h⟩|⟨rfl,_⟩
     ·exact absurd h hD
     ·rcases E with⟨_,h⟩|⟨rfl,_⟩
      ·exact absurd h hD
      ·exact⟨2,rfl,rfl,fun h=>by cases h⟩
   ·have e:¬yav B d:=fun h=>hN h.2.2;have y:(c.length:Int)<(s.length:Int):=by
     have:=G.2 fun h=>hN (H.1 h);omega
    simp only[e,decide_false,Bool.not_false,if_true,y,decide_true];exact⟨1,rfl,rfl,fun h=>by cases h⟩
  ·have e:¬yav B d:=fun h=>Q h.2.1;simp only[e,decide_false,Bool.not_false,if_true];exact⟨1,rfl,rfl,fun h=>by cases h⟩
 ·have e:¬yav B d:=fun h=>w (by have:=h.1;omega);simp only[w,e,decide_false,Bool.not_false,if_true,Option.bind_some];exact⟨1,rfl,rfl,fun h=>by cases h⟩
end
theorem yom{k:Nat}{c:l1Cur}(h:Cur k c)(w:k<=100000000):Tot (yn3 c) fun r=>Cur (k+20) r.2:=by
 unfold yn3;refine .call (yie 3 h (by omega)) fun r ⟨u,_⟩=>.call (yie 2 u (by omega)) fun x ⟨e,_⟩=>.call (yby _ (by simp) e (by omega)) fun y ⟨g,_⟩=>.call (yby _ (by simp) g (by omega)) fun z ⟨i,_⟩=>.call (yby _ (by simp) i (by omega)) fun A ⟨j,_⟩=>.call (yby _ (by simp) j (by omega)) fun C ⟨l,_⟩=>?_;exact .call (P:=fun o=>Cur (k+20) ⟨o.1,o.2.1,⟨o.2.2.1⟩⟩) (.call (yie 24 l (by omega)) fun D ⟨b,_⟩=>.ite (fun _=>.call (yby _ (by simp) b (by omega)) fun m ⟨a,_⟩=>.ok (a.mono (by omega))) fun _=>.ite (fun _=>.call (yby _ (by simp) b (by omega)) fun m ⟨a,_⟩=>.ok (a.mono (by omega))) fun _=>.ite (fun _=>.call (yby _ (by simp) b (by omega)) fun m ⟨a,_⟩=>.ok (a.mono (by omega))) fun _=>.ok (b.mono (by omega))) fun⟨v,E,F,G,H,I⟩ p=>.ok p
theorem yx0(a b:Int):zq2 [a,b]=some (if a≠0 then a else b):=by
 have g:idx [a,b] 0=some a/\ idx [a,b] 1=some b:=⟨rfl,rfl⟩;have j:w64 1=1:=rfl;have k:w64 2=2:=rfl;unfold zq2;by_cases e:a=0
 ·have s1:ybd [a,b] 0=some (.nx 1):=by unfold ybd;dsimp only;rw[g.1];simp[e,j]
  by_cases hb:b=0
  ·have h:ybd [a,b] 1=some (.nx 2):=by unfold ybd;dsimp only;rw[g.2];simp[hb,k]
   have i:ybd [a,b] 2=some (.dn (.go ())):=by unfold ybd;simp
   rw[jgb s1,jgb h,je5 i];simp[e,hb]
  ·have h:ybd [a,b] 1=some (.dn (.ret b)):=by unfold ybd;dsimp only;rw[g.2];simp[hb]
   rw[jgb s1,je5 h];simp[e]
 ·have s1:ybd [a,b] 0=some (.dn (.ret a)):=by unfold ybd;dsimp only;rw[g.1];simp[e]
  rw[je5 s1];simp[e]
theorem yij{a:Nat}(h:a<=12):w64 (1*2^(min (a:Int).toNat (IntKind.i64).bits))=((2^a:Nat):Int):=by
 have b:min ((a:Int)).toNat (IntKind.i64).bits=a:=by rw[Int.toNat_natCast];exact Nat.min_eq_left (by show a<=64;omega)
 rw[b];have g:2^a<=2^12:=Nat.pow_le_pow_right (by omega) h;have e:(1:Int)*2^a=((2^a:Nat):Int):=by rw[Int.one_mul,Int.natCast_pow];rfl
 rw[e];generalize 2^a=p at g ⊢;exact jak (by omega)
theorem ynd{n u:Nat}(a:n<=12)(b:u<2^n):u<4096:=Nat.lt_of_lt_of_le b (Nat.pow_le_pow_right (by omega) a:2^n<=2^12)
theorem ycl{n u a:Nat}(e:n<=12)(g:u<2^n)(h:a<n):IntKind.i64.wrap (((BitVec.ofInt (IntKind.i64).bits (u:Int)|||BitVec.ofInt (IntKind.i64).bits (w64 (1*2^(min (a:Int).toNat (IntKind.i64).bits)))).toNat:Nat):Int)=((u|||2^a:Nat):Int)/\ u|||2^a<2^n:=by
 have b:2^a<2^n:=Nat.pow_lt_pow_right (by omega) h;rw[yij (by omega)];exact⟨or64 (ynd e g) (ynd e b),Nat.or_lt_two_pow g b⟩
theorem ya3{u a:Nat}(j:u<4096)(k:a<=12):IntKind.i64.wrap (((BitVec.ofInt (IntKind.i64).bits ((u:Int).fdiv (2^(min (a:Int).toNat (IntKind.i64).bits)))&&&BitVec.ofInt (IntKind.i64).bits 1).toNat:Nat):Int)=if u.testBit a=true then 1 else 0:=by
 have b:min ((a:Int)).toNat (IntKind.i64).bits=a:=by rw[Int.toNat_natCast];exact Nat.min_eq_left (by show a<=64;omega)
 rw[b];have e:(u:Int).fdiv (2^a)=((u/2^a:Nat):Int):=by
  have:(2:Int)^a=((2^a:Nat):Int):=by rw[Int.natCast_pow];rfl
  rw[this,Int.fdiv_eq_ediv_of_nonneg _ (Int.natCast_nonneg _)];rfl
 rw[e];have l:u/2^a<4096:=Nat.lt_of_le_of_lt (Nat.div_le_self _ _) j;have g:(BitVec.ofInt (IntKind.i64).bits ((u/2^a:Nat):Int)).toNat=u/2^a:=by
  rw[BitVec.ofInt_natCast,BitVec.toNat_ofNat];exact Nat.mod_eq_of_lt (by show u/2^a<2^64;omega)
 have i:(BitVec.ofInt (IntKind.i64).bits (1:Int)).toNat=1:=by kernel_rfl
 rw[BitVec.toNat_and,g,i,Nat.and_one_is_mod,Nat.testBit_eq_decide_div_mod_eq];rcases Nat.mod_two_eq_zero_or_one (u/2^a)with h|h
 ·rw[h];exact jak (x:=0) (by omega)
 ·rw[h];exact jak (x:=1) (by omega)
theorem yni{β:Type}(z v:β)(k k':Int×Int):∀m:List ((Int×Int)×β),getL z k' (putL k v m)=if k=k' then(v,true)else getL z k' m
 |[]=>by
  unfold putL getL;by_cases h:k=k'<;>simp[h,getL]
 |(q,d)::m=>by
  unfold putL;by_cases a:q=k
  ·subst a;rw[if_pos rfl];simp only[getL];by_cases h:q=k'<;>simp[h]
  ·rw[if_neg a];simp only[getL];by_cases h:q=k'
   ·subst h;simp[Ne.symm a]
   ·simp only[if_neg h];exact yni z v k k' m
theorem yai{a:Nat}(h:a<=4096):IntKind.u64.wrap (a:Int)=(a:Int):=Int.emod_eq_of_lt (by omega) (by show(a:Int)<(18446744073709551616:Int);omega)
theorem ytl(a b:Int):yia a b=some (if a<b then a else b):=by
 unfold yia;by_cases h:a<b<;>simp[h]
namespace Ct
def sgl(s:Nat->Nat)(P:Nat->Bool):Nat->Nat
 |0=>0
 |m+1=>sgl s P m+if P m then 0 else s m
def add1(P:Nat->Bool)(i:Nat):Nat->Bool:=fun j=>P j||j==i
def add2(P:Nat->Bool)(i k:Nat):Nat->Bool:=fun j=>P j||j==i||j==k
def flt(m:List (Nat×Nat)):List Nat:=m.flatMap fun p=>[p.1,p.2]
def inM(P:Nat->Bool)(m:List (Nat×Nat)):Nat->Bool:=fun j=>P j||(flt m).contains j
def qs(q:Nat->Nat->Nat)(m:List (Nat×Nat)):Nat:=(m.map fun p=>q p.1 p.2).sum
def cm(n:Nat)(s:Nat->Nat)(q:Nat->Nat->Nat)(P:Nat->Bool)(m:List (Nat×Nat)):Nat:=qs q m+sgl s (inM P m) n
structure Mt(n:Nat)(q:Nat->Nat->Nat)(B:Nat)(i:Nat)(P:Nat->Bool)(m:List (Nat×Nat)):Prop where
 hd:∀p∈m,i<=p.1/\ p.1<n/\ p.2<n/\ P p.1=false/\ P p.2=false/\ q p.1 p.2<B
 nd:(flt m).Nodup
theorem sgl_add1{s:Nat->Nat}{P:Nat->Bool}{i:Nat}(hP:P i=false):∀{m:Nat},sgl s P m=sgl s (add1 P i) m+if i<m then s i else 0
 |0=>by simp[sgl]
 |m+1=>by
  unfold sgl;rw[sgl_add1 hP (m:=m)];by_cases h:m=i
  ·subst h;simp[add1,hP]
  ·have:add1 P i m=P m:=by simp[add1,h]
   rw[this];by_cases b:i<m
   ·have a:i<m+1:=by omega
    rw[if_pos b,if_pos a];omega
   ·have a:¬i<m+1:=by omega
    rw[if_neg b,if_neg a];omega
theorem ynk{m a:List (Nat×Nat)}(h:m.Perm a):(flt m).Perm (flt a):=h.flatMap_right _
theorem mem_flt{m:List (Nat×Nat)}{j:Nat}:j∈flt m↔∃p∈m,j=p.1 \/j=p.2:=by
 unfold flt;simp[List.mem_flatMap]
theorem ynh{P:Nat->Bool}{m a:List (Nat×Nat)}(h:m.Perm a):inM P m=inM P a:=by
 funext j;unfold inM;congr 1;rw[Bool.eq_iff_iff,List.contains_iff_mem,List.contains_iff_mem];exact(ynk h).mem_iff
theorem ylh{n:Nat}{s:Nat->Nat}{q:Nat->Nat->Nat}{P:Nat->Bool}{m a:List (Nat×Nat)}(h:m.Perm a):cm n s q P m=cm n s q P a:=by
 unfold cm qs;rw[ynh h,(h.map _).sum_nat]
theorem yhm{P:Nat->Bool}{i k:Nat}{m:List (Nat×Nat)}:inM P ((i,k)::m)=inM (add2 P i k) m:=by
 funext j;unfold inM add2 flt;simp[Bool.or_assoc]
theorem yco{n:Nat}{s:Nat->Nat}{q:Nat->Nat->Nat}{P:Nat->Bool}{i k:Nat}{m:List (Nat×Nat)}:cm n s q P ((i,k)::m)=q i k+cm n s q (add2 P i k) m:=by
 unfold cm;rw[yhm];simp[qs];omega
theorem Mt.perm{n:Nat}{q:Nat->Nat->Nat}{B i:Nat}{P:Nat->Bool}{m b:List (Nat×Nat)}(h:Mt n q B i P m)(a:m.Perm b):Mt n q B i P b:=
 ⟨fun p e=>h.hd p (a.mem_iff.2 e),(ynk a).nodup_iff.1 h.nd⟩
theorem Mt.tail{n:Nat}{q:Nat->Nat->Nat}{B i:Nat}{P:Nat->Bool}{a k:Nat}{m:List (Nat×Nat)}(h:Mt n q B i P ((a,k)::m)):Mt n q B i (add2 P a k) m:=by
 have b:=h.nd;have e:flt ((a,k)::m)=a::k::flt m:=rfl;rw[e,List.nodup_cons,List.nodup_cons]at b;refine⟨fun p l=>?_,b.2.2⟩;obtain⟨w,x,y,z,A,C⟩:=h.hd p (List.mem_cons_of_mem _ l);have o:∀j,j=p.1 \/j=p.2->j≠a/\ j≠k:=fun j D=>by
  have g:j∈flt m:=mem_flt.2 ⟨p,l,D⟩;exact⟨fun e=>b.1 (e▸List.mem_cons_of_mem _ g),fun e=>b.2.1 (e▸g)⟩
 have u:=o p.1 (.inl rfl);have v:=o p.2 (.inr rfl);exact⟨w,x,y,by simp[add2,z,u],by simp[add2,A,v],C⟩
theorem Mt.cons{n:Nat}{q:Nat->Nat->Nat}{B i:Nat}{P:Nat->Bool}{a k:Nat}{m:List (Nat×Nat)}(h:Mt n q B i (add2 P a k) m)(y:i<=a)(z:a<n)(A:k<n)(C:P a=false)(D:P k=false)(E:q a k<B)(F:a≠k):Mt n q B i P ((a,k)::m):=by
 have v:∀j,j∈flt m->j≠a/\ j≠k:=fun j l=>by
  obtain⟨p,hp,l⟩:=mem_flt.1 l;obtain⟨_,_,_,b,g,_⟩:=h.hd p hp;rcases l with rfl|rfl
  ·simp[add2]at b;exact⟨b.1.2,b.2⟩
  ·simp[add2]at g;exact⟨g.1.2,g.2⟩
 refine⟨fun p hp=>?_,?_⟩
 ·rcases List.mem_cons.1 hp with rfl|hp
  ·exact⟨y,z,A,C,D,E⟩
  ·obtain⟨w,b,g,o,u,x⟩:=h.hd p hp;simp[add2]at o u;exact⟨w,b,g,o.1.1,u.1.1,x⟩
 ·show(a::k::flt m).Nodup;rw[List.nodup_cons,List.nodup_cons];refine⟨fun hm=>?_,fun hm=>(v k hm).2 rfl,h.nd⟩;rcases List.mem_cons.1 hm with e|hm
  ·exact F e
  ·exact(v a hm).1 rfl
theorem Mt.heads{n:Nat}{q:Nat->Nat->Nat}{B i i':Nat}{P:Nat->Bool}{m:List (Nat×Nat)}(h:Mt n q B i P m)(b:∀p∈m,i'<=p.1):Mt n q B i' P m:=
 ⟨fun p a=>⟨b p a,(h.hd p a).2⟩,h.nd⟩
theorem Mt.front{n:Nat}{q:Nat->Nat->Nat}{B i:Nat}{P:Nat->Bool}{m:List (Nat×Nat)}{p:Nat×Nat}(h:Mt n q B i P m)(a:p∈m):∃b,m.Perm (p::b)/\ Mt n q B i P (p::b):=
 ⟨m.erase p,List.perm_cons_erase a,h.perm (List.perm_cons_erase a)⟩
def IsG(n:Nat)(s:Nat->Nat)(q:Nat->Nat->Nat)(B i:Nat)(P:Nat->Bool)(v:Nat):Prop:=
 (∃m,Mt n q B i P m/\ cm n s q P m=v)/\ ∀m,Mt n q B i P m->v<=cm n s q P m
theorem IsG.uniq{n:Nat}{s:Nat->Nat}{q:Nat->Nat->Nat}{B i:Nat}{P:Nat->Bool}{v w:Nat}(h:IsG n s q B i P v)(j:IsG n s q B i P w):v=w:=by
 obtain⟨⟨m,a,l⟩,b⟩:=h;obtain⟨⟨k,e,o⟩,g⟩:=j;have:=b k e;have:=g m a;omega
theorem isG_end{n:Nat}{s:Nat->Nat}{q:Nat->Nat->Nat}{B:Nat}{P:Nat->Bool}:IsG n s q B n P (sgl s P n):=by
 have e:cm n s q P []=sgl s P n:=by
  unfold cm qs;have:inM P []=P:=by funext j;simp[inM,flt]
  rw[this];simp
 refine⟨⟨[],⟨fun p b=>by simp at b,by simp[flt]⟩,e⟩,fun m a=>?_⟩;cases m with
 |nil=>rw[e];exact Nat.le_refl _
 |cons p m=>have:=a.hd p (List.mem_cons_self ..);omega
def IsK(n:Nat)(s:Nat->Nat)(q:Nat->Nat->Nat)(B i K:Nat)(P:Nat->Bool)(v:Nat):Prop:=
 (∃m,(Mt n q B i P m/\ ∀p∈m,p.1=i->p.2<K)/\ cm n s q P m=v)/\ ∀m,Mt n q B i P m->(∀p∈m,p.1=i->p.2<K)->v<=cm n s q P m
theorem isK_zero{n:Nat}{s:Nat->Nat}{q:Nat->Nat->Nat}{B i:Nat}{P:Nat->Bool}{v:Nat}(h:IsG n s q B (i+1) P v):IsK n s q B i 0 P v:=by
 obtain⟨⟨m,b,j⟩,k⟩:=h;refine⟨⟨m,⟨b.heads fun p a=>by have:=(b.hd p a).1;omega,fun p a e=>by have:=(b.hd p a).1;omega⟩,j⟩,fun m g l=>k m (g.heads fun p a=>?_)⟩;have:=(g.hd p a).1;rcases Nat.lt_or_ge i p.1 with h|h
 ·exact h
 ·exact absurd (l p a (by omega)) (by omega)
theorem isK_end{n:Nat}{s:Nat->Nat}{q:Nat->Nat->Nat}{B i:Nat}{P:Nat->Bool}{v:Nat}(h:IsK n s q B i n P v):IsG n s q B i P v:=by
 obtain⟨⟨m,⟨b,_⟩,e⟩,g⟩:=h;exact⟨⟨m,b,e⟩,fun m a=>g m a fun p j _=>(a.hd p j).2.2.1⟩
theorem isK_skip{n:Nat}{s:Nat->Nat}{q:Nat->Nat->Nat}{B i K:Nat}{P:Nat->Bool}{v:Nat}(h:IsK n s q B i K P v)(hn:i=K \/P i=true \/P K=true \/B<=q i K):IsK n s q B i (K+1) P v:=by
 obtain⟨⟨m,⟨w,g⟩,x⟩,y⟩:=h;refine⟨⟨m,⟨w,fun p a e=>by have:=g p a e;omega⟩,x⟩,fun m b z=>y m b fun p a e=>?_⟩;have D:=z p a e;rcases Nat.lt_or_ge p.2 K with h|h
 ·exact h
 ·exfalso;have j:p.2=K:=by omega
  obtain⟨_,_,_,k,l,u⟩:=b.hd p a;have A:=b.nd;rw[e]at k u;rw[j]at l u;rcases hn with hn|hn|hn|hn
  ·obtain⟨E,C,o⟩:=b.front a;have:=o.nd;obtain⟨F,G⟩:=p;simp only at e j;subst e;subst j;subst hn;simp[flt]at this
  ·rw[hn]at k;cases k
  ·rw[hn]at l;cases l
  ·omega
theorem isK_cand{n:Nat}{s:Nat->Nat}{q:Nat->Nat->Nat}{B i K:Nat}{P:Nat->Bool}{v w:Nat}(h:IsK n s q B i K P v)(hi:i<n)(hK:K<n)(h0:i≠K)(F:P i=false)(G:P K=false)(H:q i K<B)(J:IsG n s q B (i+1) (add2 P i K) w):IsK n s q B i (K+1) P (min v (q i K+w)):=by
 obtain⟨⟨m,⟨A,j⟩,O⟩,C⟩:=h;obtain⟨⟨M,k,D⟩,E⟩:=J;constructor
 ·rcases Nat.le_total v (q i K+w)with hv|hv
  ·exact⟨m,⟨A,fun p hp e=>by have:=j p hp e;omega⟩,by omega⟩
  ·refine⟨(i,K)::M,⟨(k.heads (i':=i) fun p hp=>by have:=(k.hd p hp).1;omega).cons (Nat.le_refl _) hi hK F G H h0,fun p hp e=>?_⟩,by rw[yco,D];omega⟩;rcases List.mem_cons.1 hp with rfl|hp
   ·exact Nat.lt_succ_self _
   ·have:=(k.hd p hp).1;omega
 ·intro z x I;by_cases a:∃p∈z,p.1=i/\ p.2=K
  ·obtain⟨p,hp,u,b⟩:=a;obtain⟨L,o,l⟩:=x.front hp;obtain⟨N,Q⟩:=p;simp only at u b;subst u;subst b;rw[ylh o,yco];have y:=l.tail;have:=E L (y.heads fun p hp=>by
    have g:=y.hd p hp;have:p.1≠N:=fun e=>by have:=g.2.2.2.1;simp[add2,e]at this
    omega)
   omega
  ·have:=C z x fun p hp e=>by
    have:=I p hp e;have:p.2≠K:=fun b=>a ⟨p,hp,e,b⟩;omega
   omega
end Ct
namespace Ct
def minO:Option Nat->Option Nat->Option Nat
 |none,x=>x
 |some a,none=>some a
 |some a,some b=>some (min a b)
def Fs(n:Nat)(s:Nat->Nat)(B:Nat)(D:Nat->Bool)(m:List (Nat×Nat)):Prop:=∀k,k<n->inM D m k=false->s k<B
def IsC(n:Nat)(s:Nat->Nat)(q:Nat->Nat->Nat)(B i:Nat)(D:Nat->Bool)(C:List (Nat×Nat)->Prop)(r:Option Nat):Prop:=
 (∀c,r=some c->∃m,Mt n q B i D m/\ C m/\ Fs n s B D m/\ cm n s q D m=c)/\ ∀m,Mt n q B i D m->C m->Fs n s B D m->∃c,r=some c/\ c<=cm n s q D m
def IsT(n:Nat)(s:Nat->Nat)(q:Nat->Nat->Nat)(B i:Nat)(D:Nat->Bool)(r:Option Nat):Prop:=IsC n s q B i D (fun _=>True) r
theorem IsC.congr{n:Nat}{s:Nat->Nat}{q:Nat->Nat->Nat}{B i:Nat}{D:Nat->Bool}{C j:List (Nat×Nat)->Prop}{r:Option Nat}(h:IsC n s q B i D C r)(hc:∀m,Mt n q B i D m->(C m↔j m)):IsC n s q B i D j r:=
 ⟨fun c e=>by obtain⟨m,a,b,g⟩:=h.1 c e;exact⟨m,a,(hc m a).1 b,g⟩,fun m a b g=>h.2 m a ((hc m a).2 b) g⟩
theorem isT_done{n:Nat}{s:Nat->Nat}{q:Nat->Nat->Nat}{B i:Nat}{D:Nat->Bool}(h:∀k,k<n->D k=true):IsT n s q B i D (some 0):=by
 have z:∀m,m<=n->sgl s (inM D []) m=0:=by
  intro m
  induction m with
  |zero=>intro _;rfl
  |succ m j=>intro b;unfold sgl;rw[j (by omega)];simp[inM,h m (by omega)]
 have e0:cm n s q D []=0:=by unfold cm;rw[z n (Nat.le_refl _)];rfl
 refine⟨fun c e=>⟨[],⟨fun p g=>by simp at g,by simp[flt]⟩,trivial,fun k a hD=>by simp[inM,h k a]at hD,by cases e;exact e0⟩,fun m b _ _=>⟨0,rfl,Nat.zero_le _⟩⟩
def Alone(a:Nat)(m:List (Nat×Nat)):Prop:=a∉flt m
theorem yhn{D:Nat->Bool}{a:Nat}{m:List (Nat×Nat)}:inM (add1 D a) m=add1 (inM D m) a:=by
 funext j;simp[inM,add1,Bool.or_right_comm]
theorem isC_alone{n:Nat}{s:Nat->Nat}{q:Nat->Nat->Nat}{B i a:Nat}{D:Nat->Bool}(H:a<n)(hD:D a=false){w:Option Nat}(I:IsT n s q B i (add1 D a) w):IsC n s q B i D (Alone a) (if s a<B then w.map (s a+ ·)else none):=by
 have v:∀m,Alone a m->cm n s q D m=s a+cm n s q (add1 D a) m:=fun m j=>by
  have g:inM D m a=false:=by
   unfold inM;rw[hD,Bool.false_or,Bool.eq_false_iff];exact fun h=>j (List.contains_iff_mem.1 h)
  unfold cm;rw[sgl_add1 g,yhn,if_pos H];omega
 have y:∀m,Alone a m->(Mt n q B i D m↔Mt n q B i (add1 D a) m):=fun m j=>by
  constructor
  ·refine fun h=>⟨fun p u=>?_,h.nd⟩;obtain⟨z,A,C,l,o,E⟩:=h.hd p u;have N:p.1≠a:=fun e=>j (mem_flt.2 ⟨p,u,.inl e.symm⟩);have O:p.2≠a:=fun e=>j (mem_flt.2 ⟨p,u,.inr e.symm⟩);exact⟨z,A,C,by simp[add1,l,N],by simp[add1,o,O],E⟩
  ·refine fun h=>⟨fun p u=>?_,h.nd⟩;obtain⟨z,A,C,l,o,E⟩:=h.hd p u;simp[add1]at l o;exact⟨z,A,C,l.1,o.1,E⟩
 have al:∀m,Mt n q B i (add1 D a) m->Alone a m:=fun m j g=>by
  obtain⟨p,u,M⟩:=mem_flt.1 g;obtain⟨_,_,_,l,o,_⟩:=j.hd p u;rcases M with e|e
  ·rw[<-e]at l;simp[add1]at l
  ·rw[<-e]at o;simp[add1]at o
 constructor
 ·intro c e;by_cases hs:s a<B
  ·rw[if_pos hs]at e;cases w with
   |none=>cases e
   |some J=>
    cases e;obtain⟨m,G,_,K,L⟩:=I.1 J rfl;have b:=al m G;refine⟨m,(y m b).2 G,b,fun k F g=>?_,by rw[v m b,L]⟩;by_cases x:k=a
    ·subst x;exact hs
    ·exact K k F (by rw[yhn];simp[add1,g,x])
  ·rw[if_neg hs]at e;cases e
 ·intro m j b g;have hs:s a<B:=g a H (by
   unfold inM;rw[hD,Bool.false_or,Bool.eq_false_iff];exact fun h=>b (List.contains_iff_mem.1 h))
  rw[if_pos hs];obtain⟨c,rfl,hc⟩:=I.2 m ((y m b).1 j) trivial fun k F h=>g k F (by rw[yhn]at h;simp[add1]at h;exact h.1);exact⟨s a+c,rfl,by rw[v m b];omega⟩
theorem isC_add{n:Nat}{s:Nat->Nat}{q:Nat->Nat->Nat}{B i a b:Nat}{D:Nat->Bool}{A:Nat×Nat->Prop}{c:Nat}{r w:Option Nat}(h:IsC n s q B i D (fun m=>∀p∈m,p.1=c \/p.2=c->A p) r)(hc:a=c \/b=c)(M:i<=a)(N:a<n)(O:b<n)(P:D a=false)(Q:D b=false)(R:q a b<B)(S:a≠b)(J:IsT n s q B i (add2 D a b) w):
  IsC n s q B i D (fun m=>∀p∈m,p.1=c \/p.2=c->A p \/p=(a,b)) (minO r (w.map (q a b+ ·))):=by
 have G:∀x,r=some x->∃m,Mt n q B i D m/\ (∀p∈m,p.1=c \/p.2=c->A p \/p=(a,b))/\ Fs n s B D m/\ cm n s q D m=x:=fun x e=>by
  obtain⟨m,o,L,v,g⟩:=h.1 x e;exact⟨m,o,fun p hp e=>.inl (L p hp e),v,g⟩
 have I:∀x,w=some x->∃m,Mt n q B i D m/\ (∀p∈m,p.1=c \/p.2=c->A p \/p=(a,b))/\ Fs n s B D m/\ cm n s q D m=q a b+x:=fun x e=>by
  obtain⟨m,o,_,v,g⟩:=J.1 x e;refine⟨(a,b)::m,o.cons M N O P Q R S,fun p hp e=>?_,fun k E u=>v k E (by rw[<-yhm];exact u),by rw[yco,g]⟩;rcases List.mem_cons.1 hp with rfl|hp
  ·exact .inr rfl
  ·exfalso;obtain⟨_,_,_,g,C,_⟩:=o.hd p hp;simp[add2]at g C;rcases hc with rfl|rfl<;>rcases e with e|e
   ·exact g.1.2 e
   ·exact C.1.2 e
   ·exact g.2 e
   ·exact C.2 e
 constructor
 ·intro x e;cases r with
  |none=>
   cases w with
   |none=>cases e
   |some y=>have e:=Option.some.inj e;subst e;exact I y rfl
  |some z=>
   cases w with
   |none=>exact G x e
   |some y=>
    have e:=Option.some.inj e;subst e;rcases Nat.le_total z (q a b+y)with hv|hv
    ·have:min z (q a b+y)=z:=by omega
     rw[this];exact G z rfl
    ·have:min z (q a b+y)=q a b+y:=by omega
     rw[this];exact I y rfl
 ·intro m H hA u;by_cases j:(a,b)∈m
  ·obtain⟨U,l,F⟩:=H.front j;rw[ylh l,yco];obtain⟨y,rfl,V⟩:=J.2 U F.tail trivial fun k E h=>u k E (by rw[ynh l,yhm];exact h);cases r with
   |none=>exact⟨q a b+y,rfl,by omega⟩
   |some z=>exact⟨_,rfl,by show min z (q a b+y)<=_;omega⟩
  ·obtain⟨z,rfl,T⟩:=h.2 m H (fun p hp e=>(hA p hp e).resolve_right fun K=>j (K▸hp)) u;cases w with
   |none=>exact⟨_,rfl,T⟩
   |some y=>exact⟨_,rfl,by show min z (q a b+y)<=_;omega⟩
theorem isC_no{n:Nat}{s:Nat->Nat}{q:Nat->Nat->Nat}{B i a b:Nat}{D:Nat->Bool}{A:Nat×Nat->Prop}{c:Nat}{r:Option Nat}(h:IsC n s q B i D (fun m=>∀p∈m,p.1=c \/p.2=c->A p) r)(hn:a<i \/D a=true \/D b=true \/B<=q a b \/a=b):
  IsC n s q B i D (fun m=>∀p∈m,p.1=c \/p.2=c->A p \/p=(a,b)) r:=by
 refine h.congr fun m o=>⟨fun h p g e=>.inl (h p g e),fun h p g e=>(h p g e).resolve_right fun u=>?_⟩;subst u;obtain⟨v,w,x,j,k,y⟩:=o.hd _ g;simp only at v w x j k y;rcases hn with hn|hn|hn|hn|hn
 ·omega
 ·rw[hn]at j;cases j
 ·rw[hn]at k;cases k
 ·omega
 ·subst hn;obtain⟨z,_,l⟩:=o.front g;have:=l.nd;simp[flt]at this
theorem yx1:∀{n:Nat}{l:List Nat},l.Nodup->(∀x∈l,x<n)->l.length<=n
 |0,l,_,h=>by
  cases l with
  |nil=>simp
  |cons x l=>exact absurd (h x (List.mem_cons_self ..)) (by omega)
 |n+1,l,hd,h=>by
  have a:=yx1 (n:=n) (hd.erase n) (fun x e=>by
   have b:=(hd.mem_erase_iff).1 e;have:=h x b.2;have:=b.1;omega)
  rw[List.length_erase]at a;split at a<;>omega
theorem g_t{n:Nat}{s:Nat->Nat}{q:Nat->Nat->Nat}{B i C:Nat}{P:Nat->Bool}{v:Nat}{r:Option Nat}(N:IsG n s q B i P v)(z:IsT n s q B i P r)(hs:∀k,k<n->s k<B->s k<=C)(Q:∀a b,a<n->b<n->q a b<B->q a b<=C)(hC:2*n*C<B):(v<B->r=some v)/\ (B<=v->r=none):=by
 obtain⟨⟨m,F,G⟩,A⟩:=N;have sg:∀{P:Nat->Bool}{k:Nat},k<n->P k=false->∀j,k<j->s k<=sgl s P j:=by
  intro P k y hP j
  induction j with
  |zero=>intro h;omega
  |succ j u=>
   intro h;unfold sgl;by_cases e:k=j
   ·subst e;rw[if_neg (by simp[hP])];omega
   ·have:=u (by omega);omega
 have U:∀{P:Nat->Bool}(j:Nat),j<=n->(∀k,k<n->P k=false->s k<B)->sgl s P j<=j*C:=by
  intro P j O hF
  induction j with
  |zero=>simp[sgl]
  |succ j u=>
   unfold sgl;have:=u (by omega);rw[Nat.succ_mul];cases hP:P j
   ·have:=hs j (by omega) (hF j (by omega) hP);simp;omega
   ·simp;omega
 have J:∀m,(flt m).length=2*m.length:=by
  intro m
  induction m with
  |nil=>rfl
  |cons p m u=>show(p.1::p.2::flt m).length=_;simp[u];omega
 have T:∀m:List (Nat×Nat),(∀p∈m,p.1<n/\ p.2<n/\ q p.1 p.2<B)->qs q m<=m.length*C:=by
  intro m
  induction m with
  |nil=>intro _;simp[qs]
  |cons p m u=>
   intro h;have E:=u fun p o=>h p (List.mem_cons_of_mem _ o);have w:=h p (List.mem_cons_self ..);have K:=Q p.1 p.2 w.1 w.2.1 w.2.2;simp only[qs,List.map_cons,List.sum_cons,List.length_cons,Nat.succ_mul]at E ⊢;omega
 constructor
 ·intro R;have hF:Fs n s B P m:=fun k y M=>by
   have:=sg y M n y;unfold cm at G;omega
  obtain⟨c,rfl,hc⟩:=z.2 m F trivial hF;obtain⟨j,l,_,_,D⟩:=z.1 c rfl;have:=A j l;congr 1;omega
 ·intro R;cases r with
  |none=>rfl
  |some c=>
   exfalso;obtain⟨j,l,_,H,D⟩:=z.1 c rfl;have E:=A j l;have w:=U n (Nat.le_refl _) H;have K:=T j fun p o=>⟨(l.hd p o).2.1,(l.hd p o).2.2.1,(l.hd p o).2.2.2.2.2⟩;have L:j.length<=n:=by
    have:=yx1 (n:=n) l.nd fun x S=>by
     obtain⟨p,o,e⟩:=mem_flt.1 S;have g:=l.hd p o;rcases e with rfl|rfl<;>omega
    rw[J]at this;omega
   have V:j.length*C<=n*C:=Nat.mul_le_mul_right _ L;have W:2*n*C=n*C+n*C:=by rw[Nat.mul_assoc,Nat.two_mul]
   have I:=D;unfold cm at I;omega
end Ct
end Go.Proofs.YtimecodbnhcnoaaGreat
