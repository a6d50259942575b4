/- Each function computes what its model says. Made by program (dec.py). -/
import Derived.Test.YtimecodbnhcnoaaGreatCvW2
namespace Go.Proofs.YtimecodbnhcnoaaGreat
open Go Go.Ab Tryz
set_option maxRecDepth 100000
set_option maxHeartbeats 4000000
set_option linter.unusedVariables false
set_option linter.unusedSimpArgs false
noncomputable section
def ymm:MS (List bB) (List bB):=⟨⟨[.sl,.fn 85 []],fun x=>[.sc undef,.agg []],fun x=>[arO 50 x],1,1,fun _=>rfl,fun _=>rfl,rfl,(by
  rintro a b0 h hO;have b:a=b0:=Enc.inj _ _ (congrArg (fun l=>D.sl 1 (obL l 0)) hO);subst b;rfl)⟩,ys4,fun _=>.tup [],fun _=>[],fun _ y=>[arO 50 y]⟩
theorem yvn:FnOK Tryz.prog tJ 84 ymm.S:=by
 refine fm tt ymm [fo ylm,fo yva] call84 func84 rfl results84 ntmps84 ?_;rintro x y cx G (Z:ys4 x=some y);obtain⟨cmp,d⟩:∃q,(fun(e:bB)(f:bB)=>zq21 e f)=q:=⟨_,rfl⟩;have Z:yvo x cmp=some y:=by rw[<-d];exact Z
 unfold yvo at Z;refine rs G (hN 1 x h0) ?_;obtain⟨r,h,b,a,Z⟩:=ob2 Z;have a:Bg x 0 (x.length:Int) r=some b:=by rw[<-d]at a;exact a
 refine re G (hC 4 (yjq.c _ h) (hC 6 (yl6.c (_,_,_,_) a) h0)) ?_;cases Z;exact fN [] []
def yss:MS fq ((List bB)×(List ((Int×Int)×bI))):=⟨⟨[.bo 1],fun x=>[.sc undef],fun x=>[.box 128 [dV x.bP,dV x.eX,dV x.dF,.own 1],mpO 126 x.je],2,2,fun _=>rfl,fun _=>rfl,rfl,(by
  rintro a b0 h hO;have b:a=b0:=Enc.inj _ _ (congrArg D.agg (jbc (congrArg (fun l=>obC l 0 0) hO) (jbc (congrArg (fun l=>obC l 0 1) hO) (jbc (congrArg (fun l=>obC l 0 2) hO) (jbc (mpL (congrArg (fun l=>obM l 1) hO)) rfl)))));subst b;rfl)⟩,zq22,fun _=>.own 0,fun y=>[arO 50 y.1],fun x y=>[.box 128 [dV x.bP,dV x.eX,dV x.dF,.own 1],mpO 126 y.2]⟩
theorem KE:FnOK Tryz.prog tJ 44 yss.S:=by
 refine fm tt yss [fo ylw,fo KF,fo yl0,fo yvn] call44 func44 rfl results44 ntmps44 ?_;rintro x y cx G (Z:zq22 x=some y);unfold zq22 at Z;refine rg G (rg G (rg G (jab (rs G (hN 4 x.bP h0) ?_))));refine tl Z (fun(g,d,ab)=>⟨[(0,.ref 0 0),(3,.own 32),(4,dV g)],[bX 0 128 [dV x.bP,dV x.eX,dV x.dF,.own 1],mX 1 126 d,tX 32 50 [some 53] ab 32 none],64⟩) (fun N Z=>?_) ?_
 ·refine jaa (lpP Z (fun(i,v,D,p)=>⟨[(0,.ref 0 0),(3,.own 32),(4,dV i),(16,dV (x.bP.length:Int)),(17,dV v)],[bX 0 128 [dV x.bP,dV x.eX,dV x.dF,.own 1],mX 1 126 D,tX 32 50 [some 53] p 32 none],64⟩) (Wk_J G.hL ⟨[(0,[]),(3,[.o 32]),(4,[]),(16,[]),(17,[])],[(0,0,[]),(1,1,[])],[(32,50,1,[some 53])],64⟩ (by kernel_rfl)) ?_);rintro⟨i,v,D,p⟩ E hb Z;rw[yhq]at Z;refine rg G (jab (cd Z ?_ ?_))<;>intro Z
  ·refine jae (thN (jn Z (fun(H,I,P)=>⟨[(0,.ref 0 0),(3,.own 32),(4,dV H),(16,dV (x.bP.length:Int)),(17,dV v)],[bX 0 128 [dV x.bP,dV x.eX,dV x.dF,.own 1],mX 1 126 I,tX 32 50 [some 53] P 32 none],64⟩) (fun O Z=>?_) ?_))
   ·refine jaa (rg G ?_);obtain⟨r,h,Z⟩:=jaf Z;refine rs G (hC 3 (ysv h) h0) ?_;refine rs G (hN 4 x.bP h0) ?_;refine tl Z (fun(K,L,aa)=>⟨[(0,.ref 0 0),(3,.own 32),(4,dV K),(16,dV (x.bP.length:Int)),(17,dV v)],[bX 0 128 [dV x.bP,dV x.eX,dV x.dF,.own 1],mX 1 126 L,tX 32 50 [some 53] aa 32 none],64⟩) (fun vv Z=>?_) ?_
    ·refine jaa (lp G Z (fun(j,M)=>⟨[(0,.ref 0 0),(3,.own 32),(4,dV i),(5,dV v),(6,.ref 48 0),(16,dV (x.bP.length:Int)),(17,dV v),(28,dV (x.bP.length:Int)),(29,dV j)],[bX 0 128 [dV x.bP,dV x.eX,dV x.dF,.own 1],mX 1 126 M,tX 32 50 [some 53] p 32 none,bX 48 82 [dV r.1.lZ,dV r.1.lT]],80⟩) ?_);rintro⟨j,M⟩ E e Z;rw[ylv]at Z;refine rg G (jab (cd Z ?_ ?_))<;>intro Z
     ·refine jae (thN (jab (jaa (rg G ?_))));obtain⟨Q,R,Z⟩:=jaf Z;refine rs G (hC 4 (ysr R) h0) ?_;refine jn Z (fun k=>⟨[(0,.ref 0 0),(3,.own 32),(4,dV i),(5,dV v),(6,.ref 48 0),(7,dV j),(16,dV (x.bP.length:Int)),(17,dV v),(28,dV (x.bP.length:Int)),(29,dV j),(46,dV k)],[bX 0 128 [dV x.bP,dV x.eX,dV x.dF,.own 1],mX 1 126 Q.2.2,tX 32 50 [some 53] p 32 none,bX 48 82 [dV r.1.lZ,dV r.1.lT]],80⟩) (fun k Z=>?_) ?_
      ·rcases bf Z with⟨a,Z⟩|⟨a,Z⟩
       ·obtain⟨X,T,Z⟩:=jaf Z;refine re G (hO 1 (.b true) (hP a (hC 4 (ygn.c (_,_) T) h0))) ?_;exact wJ G Z
       ·refine re G (hO 1 (.b false) (hP a h0)) ?_;exact wJ G Z
      rintro k Z;refine cd Z ?_ ?_<;>intro Z
      ·obtain⟨Y,U,e3,V,u1,W,Z⟩:=ob3 Z;refine ds G [(15,[]),(17,[320]),(18,[32,352])] (hD 6 U (hD 13 V (hP (jbn (l:=[320]) rfl) (hA 18 24 W h0)))) ?_;obtain⟨u4,m,u5,n,Z⟩:=ob2 Z;refine ds G [] (hK m (hK n h0)) ?_;exact jag (ibX rfl (thE (thE (ibE (wD G Z e)))))
      ·exact jae (ibN (thN (rh G (wL G Z))))
     ·exact jag (thE (thE (ibE (wD G Z e))))
    rintro⟨K,L,aa⟩ Z s hw;exact ibN (wJp Z (Wk.trans hw (Wk_J G.hL ⟨[(0,[]),(3,[]),(4,[]),(16,[]),(17,[])],[(0,0,[]),(1,1,[]),(32,32,[])],[],64⟩ (by kernel_rfl))))
   rintro⟨H,I,P⟩ Z;exact rh G (wL G Z)
  ·exact jag (thE (thE (ibE (wD G Z hb))))
 rintro⟨g,d,ab⟩ Z s1 q;refine thN (jah q ?_);refine jab (rs G (hN 4 x.bP h0) ?_);refine tl Z (fun J=>⟨[(0,.ref 0 0),(3,.own 32)],[bX 0 128 [dV x.bP,dV x.eX,dV x.dF,.own 1],mX 1 126 d,tX 32 50 [some 53] J 32 none],64⟩) (fun J Z=>?_) ?_
 ·refine jaa (lp G Z (fun(t,ac)=>⟨[(0,.ref 0 0),(3,.own 32),(4,dV g),(78,dV x.bP),(79,dV (x.bP.length:Int)),(80,dV t)],[bX 0 128 [dV x.bP,dV x.eX,dV x.dF,.own 1],mX 1 126 d,tX 32 50 [some 53] ac 32 none],64⟩) ?_);rintro⟨t,ac⟩ E u Z;rw[yhp]at Z;refine rg G (jab (cd Z ?_ ?_))<;>intro Z
  ·refine jae (thN (jn Z (fun F=>⟨[(0,.ref 0 0),(3,.own 32),(4,dV g),(78,dV x.bP),(79,dV (x.bP.length:Int)),(80,dV t)],[bX 0 128 [dV x.bP,dV x.eX,dV x.dF,.own 1],mX 1 126 d,tX 32 50 [some 53] F 32 none],64⟩) (fun F Z=>?_) ?_))
   ·refine jaa ?_;obtain⟨e4,w,Z⟩:=jaf Z;refine rs G (hD 1 w h0) ?_;obtain⟨u6,z,Z⟩:=jaf Z;refine rs G (hK z h0) ?_;refine cd Z ?_ ?_<;>intro Z
    ·obtain⟨u7,A,Z⟩:=jaf Z;refine re G (hP (jbn (l:=[272]) rfl) (hA 5 24 A h0)) ?_;exact ibN (wJ G Z)
    ·exact jae (ibN (wJ G Z))
   rintro F Z;exact rh G (wL G Z)
  ·exact jag (thE (thE (ibE (wD G Z u))))
 rintro J Z s2 B;refine thN (jah B ?_);obtain⟨r3,C,Z⟩:=jaf Z;refine rs G (hO 1 (.fz [] [] [(32,[.f])]) (hC 1 (ymm.c _ C) h0)) ?_;refine rg G ?_;cases Z;exact rt [32] []
def ysn:MS (bA×bL×(List (List Int))×cB) ((List bB)×Int×Int×Bool):=⟨.x .r (.x .r (.x .r .r)),fun x=>zq28 x.1 x.2.1 x.2.2.1 x.2.2.2,fun y=>.tup [dV y.1,dV y.2.1,dV y.2.2.1,dV y.2.2.2],fun _=>[],fun _ _=>[]⟩
theorem KI:FnOK Tryz.prog tJ 19 ysn.S:=by
 refine fm tt ysn [fo KM,fo KZ,fo yyf,fo ylw,fo yl0,foK KE [0] (fun _ _=>rfl) (fun _ _=>rfl)] call19 func19 rfl results19 ntmps19 ?_;rintro⟨t,f,p,r⟩ y cx G (Z:zq28 t f p r=some y);unfold zq28 at Z;refine rg G (jab (rs G (hN 2 t.bn h0) ?_));refine cd Z ?_ ?_<;>intro Z
 ·refine rg G ?_;cases Z;exact rt [] [[.z 1]]
 ·refine jae (thN (rg G (rg G (rg G (jab ?_)))));obtain⟨u,h,Z⟩:=jaf Z;refine rs G (hN 2 t.bn (hK h h0)) ?_;refine tl Z (fun(a,b,d,E)=>(E).elim ⟨[(12,.dat (.sc (.pointer none))),(13,.ref 16 0),(14,dV a)],[bX 16 82 [dV b,dV d]],48⟩ fun F=>⟨[(12,.ref 48 0),(13,.ref 16 0),(14,dV a)],[bX 16 82 [dV b,dV d],bX 48 128 [dV F.bP,dV F.eX,dV F.dF,.own 64],mX 64 126 F.je],80⟩) (fun M Z=>?_) ?_
  ·refine jaa (lpP Z (fun(v,e,l,m,x)=>(x).elim ⟨[(2,dV p),(4,.ref 16 0),(5,.ref 32 0),(7,.ref 48 0),(12,.dat (.sc (.pointer none))),(13,.ref 64 0),(14,dV v),(26,dV (w64 (1*2^(min ((t.bn.length:Int):Int).toNat (IntKind.i64).bits)))),(27,dV e)],[cu 16 t,dI 32 f,eu 48 r,bX 64 82 [dV l,dV m]],96⟩ fun F=>⟨[(2,dV p),(4,.ref 16 0),(5,.ref 32 0),(7,.ref 48 0),(12,.ref 96 0),(13,.ref 64 0),(14,dV v),(26,dV (w64 (1*2^(min ((t.bn.length:Int):Int).toNat (IntKind.i64).bits)))),(27,dV e)],[cu 16 t,dI 32 f,eu 48 r,bX 64 82 [dV l,dV m],bX 96 128 [dV F.bP,dV F.eX,dV F.dF,.own 112],mX 112 126 F.je],128⟩) (Wk_J G.hL ⟨[(2,[]),(4,[]),(5,[]),(7,[]),(12,[]),(13,[]),(14,[]),(26,[]),(27,[])],[(16,16,[]),(32,32,[]),(48,48,[]),(64,224,[])],[],96⟩ (by kernel_rfl)) ?_);rintro⟨v,e,l,m,x⟩ r0 hb Z;rw[yho]at Z;rcases BF Z with⟨rfl,Z⟩|⟨x1,rfl,Z⟩
   ·refine rg G (jab (cd Z ?_ ?_))<;>intro Z
    ·refine jae (thN (jn Z (fun(n,o,q,H)=>(H).elim ⟨[(2,dV p),(4,.ref 16 0),(5,.ref 32 0),(7,.ref 48 0),(12,.dat (.sc (.pointer none))),(13,.ref 64 0),(14,dV n),(26,dV (w64 (1*2^(min ((t.bn.length:Int):Int).toNat (IntKind.i64).bits)))),(27,dV e)],[cu 16 t,dI 32 f,eu 48 r,bX 64 82 [dV o,dV q]],96⟩ fun F=>⟨[(2,dV p),(4,.ref 16 0),(5,.ref 32 0),(7,.ref 48 0),(12,.ref 96 0),(13,.ref 64 0),(14,dV n),(26,dV (w64 (1*2^(min ((t.bn.length:Int):Int).toNat (IntKind.i64).bits)))),(27,dV e)],[cu 16 t,dI 32 f,eu 48 r,bX 64 82 [dV o,dV q],bX 96 128 [dV F.bP,dV F.eX,dV F.dF,.own 112],mX 112 126 F.je],128⟩) (fun vv Z=>?_) ?_))
     ·refine jaa (rg G (jab ?_));obtain⟨r1,N,Z⟩:=jaf Z;refine rs G (hC 3 (yol.c (_,_,_) N) h0) ?_;refine cd Z ?_ ?_<;>intro Z
      ·exact jag (thE (ibE (wJp Z (Wk_J G.hL ⟨[(2,[]),(4,[]),(5,[]),(7,[]),(12,[]),(13,[]),(14,[]),(26,[]),(27,[])],[(16,16,[]),(32,32,[]),(48,48,[]),(64,64,[])],[],96⟩ (by kernel_rfl)))))
      ·refine jae (thN ?_);obtain⟨r4,O,r5,Q,Z⟩:=ob2 Z;refine ds G [] (hC 7 (yoq.c (_,_,_) O) (hC 8 (yoe.c (_,_,_,_,_) Q) h0)) ?_;obtain⟨r6,R,Z⟩:=jaf Z;refine rs G (hC 1 (ysv R) h0) ?_;obtain⟨r7,T,Z⟩:=jaf Z;refine rs G (hC 2 (ygn.c (_,_) T) h0) ?_;refine cd Z ?_ ?_<;>intro Z
       ·refine de G [(4,[64])] h0 ?_;exact ibN (wJp Z (Wk_J G.hL ⟨[(2,[]),(4,[]),(5,[]),(7,[]),(12,[]),(13,[]),(14,[]),(26,[]),(27,[])],[(16,16,[]),(32,32,[]),(48,48,[]),(64,64,[]),(96,352,[]),(112,353,[])],[],128⟩ (by kernel_rfl)))
       ·exact jae (ibN (wJp Z (Wk_J G.hL ⟨[(2,[]),(4,[]),(5,[]),(7,[]),(12,[]),(13,[]),(14,[]),(26,[]),(27,[])],[(16,16,[]),(32,32,[]),(48,48,[]),(64,64,[])],[],96⟩ (by kernel_rfl))))
     rintro⟨n,o,q,H⟩ Z;rcases BF Z with⟨rfl,Z⟩|⟨x3,rfl,Z⟩
     ·exact rh G (wLp Z (Wk_J G.hL ⟨[(2,[]),(4,[]),(5,[]),(7,[]),(12,[]),(13,[]),(14,[]),(26,[]),(27,[])],[(16,16,[]),(32,32,[]),(48,48,[]),(64,64,[])],[],96⟩ (by kernel_rfl)))
     ·exact rh G (wLp Z (Wk_J G.hL ⟨[(2,[]),(4,[]),(5,[]),(7,[]),(12,[]),(13,[]),(14,[]),(26,[]),(27,[])],[(16,16,[]),(32,32,[]),(48,48,[]),(64,64,[]),(96,96,[]),(112,112,[])],[],128⟩ (by kernel_rfl)))
    ·exact jag (thE (thE (ibE (wDp Z hb (Wk_J G.hL ⟨[(12,[]),(13,[]),(14,[])],[(16,64,[])],[],48⟩ (by kernel_rfl))))))
   ·refine rg G (jab (cd Z ?_ ?_))<;>intro Z
    ·refine jae (thN (jn Z (fun(I,K,L,g,i,j,k)=>⟨[(2,dV p),(4,.ref 16 0),(5,.ref 32 0),(7,.ref 48 0),(12,.ref 64 0),(13,.ref 80 0),(14,dV I),(26,dV (w64 (1*2^(min ((t.bn.length:Int):Int).toNat (IntKind.i64).bits)))),(27,dV e)],[cu 16 t,dI 32 f,eu 48 r,bX 64 128 [dV K,dV L,dV g,.own 96],bX 80 82 [dV i,dV j],mX 96 126 k],128⟩) (fun U Z=>?_) ?_))
     ·refine jaa (rg G (jab ?_));obtain⟨r8,V,Z⟩:=jaf Z;refine rs G (hC 3 (yol.c (_,_,_) V) h0) ?_;refine cd Z ?_ ?_<;>intro Z
      ·exact jag (thE (ibE (wJ G Z)))
      ·refine jae (thN ?_);obtain⟨W,w,X,A,Z⟩:=ob2 Z;refine ds G [] (hC 7 (yoq.c (_,_,_) w) (hC 8 (yoe.c (_,_,_,_,_) A) h0)) ?_;obtain⟨Y,B,Z⟩:=jaf Z;refine rs G (hC 1 (ysv B) h0) ?_;obtain⟨P,C,Z⟩:=jaf Z;refine rs G (hC 2 (ygn.c (_,_) C) h0) ?_;refine cd Z ?_ ?_<;>intro Z
       ·refine de G [(4,[64])] h0 ?_;exact ibN (wJ G Z)
       ·exact jae (ibN (wJ G Z))
     rintro⟨I,K,L,g,i,j,k⟩ Z;exact rh G (wLp Z (Wk_J G.hL ⟨[(2,[]),(4,[]),(5,[]),(7,[]),(12,[]),(13,[]),(14,[]),(26,[]),(27,[])],[(16,16,[]),(32,32,[]),(48,48,[]),(64,80,[]),(96,64,[]),(112,96,[])],[],128⟩ (by kernel_rfl)))
    ·exact jag (thE (thE (ibE (wDp Z hb (Wk_J G.hL ⟨[(12,[]),(13,[]),(14,[])],[(16,64,[]),(48,96,[]),(64,112,[])],[],80⟩ (by kernel_rfl))))))
  rintro⟨a,b,d,E⟩ Z s J;refine thN (jah J ?_);rcases BF Z with⟨rfl,Z⟩|⟨x5,rfl,Z⟩
  ·refine jab (rg G (cT (rg G ?_)));cases Z;exact rt [] [[.z 1]]
  ·refine jab (rg G (cF (jae (thN ?_))));obtain⟨aa,D,Z⟩:=jaf Z;refine ds G [(1,[64])] (hC 1 (yss.c _ D) h0) ?_;cases Z;exact rt [] []
def yx8:MS (bA×bL×(List (List Int))×cB) ((List bB)×Int×Int×Bool):=⟨.x .r (.x .r (.x .r .r)),fun x=>zq5 x.1 x.2.1 x.2.2.1 x.2.2.2,fun y=>.tup [dV y.1,dV y.2.1,dV y.2.2.1,dV y.2.2.2],fun _=>[],fun _ _=>[]⟩
theorem Lx:FnOK Tryz.prog tJ 7 yx8.S:=by
 refine fm tt yx8 [fo yml,fo KI] call7 func7 rfl results7 ntmps7 ?_;rintro⟨t,f,e,r⟩ y cx G (Z:zq5 t f e r=some y);unfold zq5 at Z;refine rg G (jab ?_);obtain⟨b,h,Z⟩:=jaf Z;refine rs G (hC 4 (ygo.c (_,_,_,_) h) h0) ?_;refine cd Z ?_ ?_<;>intro Z
 ·refine rg G ?_;cases Z;exact rt [] [[.z 1]]
 ·refine jae (thN ?_);obtain⟨d,a,Z⟩:=jaf Z;refine rs G (hC 4 (ysn.c (_,_,_,_) a) h0) ?_;cases Z;exact rt [] []
def yfx:MS (List UInt8) Bool:=mR ycn
theorem v_FnCover_ok:FnOK Tryz.prog tJ 4 yfx.S:=by
 refine fm tt yfx [fo yu4,fo yya,fo LA,fo yx9,fo Lu,fo Lx] call4 func4 rfl results4 ntmps4 ?_;rintro p y cx G (Z:ycn p=some y);unfold ycn at Z;refine rg G (jab ?_);obtain⟨r,h,Z⟩:=jaf Z;refine rs G (hC 1 (yl1.c _ h) h0) ?_;refine cd Z ?_ ?_<;>intro Z
 ·refine rg G ?_;cases Z;exact rt [] []
 ·refine jae (thN ?_);obtain⟨a,U,Z⟩:=jaf Z;refine rs G (hC 1 (yr5.c _ U) h0) ?_;obtain⟨M,V,Z⟩:=jaf Z;refine rs G (hC 5 (yx1.c (_,_,_,_,_) V) h0) ?_;refine jab ?_;obtain⟨r3,W,Z⟩:=jaf Z;refine rs G (hC 5 (yr4.c (_,_,_,_,_) W) h0) ?_;refine jn Z (fun v=>⟨[(3,.ref 16 0),(4,.ref 32 0),(5,dV a.2.2.1),(6,.ref 48 0),(7,.own 64),(8,dV M.1),(9,dV M.2),(57,dV v)],[cu 16 a.1,dI 32 a.2.1,eu 48 a.2.2.2.1,aX 64 50 a.2.2.2.2],96⟩) (fun v Z=>?_) ?_
  ·rcases bf Z with⟨hb,Z⟩|⟨hb,Z⟩
   ·refine re G (hO 3 (.b true) (hP hb h0)) ?_;exact wJ G Z
   ·refine re G (hO 3 (.b false) (hP hb h0)) ?_;exact wJ G Z
  rintro v Z;refine cd Z ?_ ?_<;>intro Z
  ·refine rg G ?_;cases Z;exact rt [] []
  ·refine jae (thN (jab (jn Z (fun z=>⟨[(3,.ref 16 0),(4,.ref 32 0),(5,dV a.2.2.1),(6,.ref 48 0),(7,.own 64),(63,dV z)],[cu 16 a.1,dI 32 a.2.1,eu 48 a.2.2.2.1,aX 64 50 a.2.2.2.2],96⟩) (fun z Z=>?_) ?_)))
   ·rcases bf Z with⟨j,Z⟩|⟨j,Z⟩
    ·refine re G (hO 2 (.b true) (hP j h0)) ?_;exact wJ G Z
    ·refine re G (hO 2 (.b false) (hP j h0)) ?_;exact wJ G Z
   rintro z Z;refine cd Z ?_ ?_<;>intro Z
   ·refine rg G ?_;cases Z;exact rt [] []
   ·refine jae (thN (rg G (jab (rg G (tF Z (fun N=>⟨[(3,.ref 16 0),(4,.ref 32 0),(5,dV a.2.2.1),(6,.ref 48 0),(7,.own 64),(12,dV N)],[cu 16 a.1,dI 32 a.2.1,eu 48 a.2.2.2.1,aX 64 50 a.2.2.2.2],96⟩) (fun v5 J Z=>?_) ?_)))))
    ·refine jaa (lp G Z (fun(i,k)=>⟨[(3,.ref 16 0),(4,.ref 32 0),(5,dV a.2.2.1),(6,.ref 48 0),(7,.own 64),(12,dV i),(13,dV k)],[cu 16 a.1,dI 32 a.2.1,eu 48 a.2.2.2.1,aX 64 50 a.2.2.2.2],96⟩) ?_);rintro⟨i,k⟩ O q Z;rw[ybw]at Z;refine jab (rs G (hN 2 a.2.2.2.2 h0) ?_);refine cd Z ?_ ?_<;>intro Z
     ·refine jae (thN (jab (jaa (jn Z (fun g=>⟨[(3,.ref 16 0),(4,.ref 32 0),(5,dV a.2.2.1),(6,.ref 48 0),(7,.own 64),(12,dV g),(13,dV k)],[cu 16 a.1,dI 32 a.2.1,eu 48 a.2.2.2.1,aX 64 50 a.2.2.2.2],96⟩) (fun g Z=>?_) ?_))))
      ·rcases bf Z with⟨l,Z⟩|⟨l,Z⟩
       ·obtain⟨e,Q,Z⟩:=jaf Z;refine re G (hO 1 (.b true) (hP l (hD 4 Q (hE 6 Q (hN 7 e.bE h0))))) ?_;exact wJ G Z
       ·refine re G (hO 1 (.b false) (hP l h0)) ?_;exact wJ G Z
      rintro g Z;refine rg G (tF Z (fun _=>⟨[(3,.ref 16 0),(4,.ref 32 0),(5,dV a.2.2.1),(6,.ref 48 0),(7,.own 64),(12,dV g),(13,dV k)],[cu 16 a.1,dI 32 a.2.1,eu 48 a.2.2.2.1,aX 64 50 a.2.2.2.2],96⟩) (fun v4 A Z=>?_) ?_)
      ·refine jaa (lp G Z (fun m=>⟨[(3,.ref 16 0),(4,.ref 32 0),(5,dV a.2.2.1),(6,.ref 48 0),(7,.own 64),(12,dV g),(13,dV k),(14,dV m)],[cu 16 a.1,dI 32 a.2.1,eu 48 a.2.2.2.1,aX 64 50 a.2.2.2.2],96⟩) ?_);rintro m O u Z;rw[ycl]at Z;refine jab ?_;obtain⟨X,R,Z⟩:=jaf Z;refine rs G (hD 3 R (hE 5 R (hN 6 X.bE h0))) ?_;refine cd Z ?_ ?_<;>intro Z
       ·refine jae (thN (jab (jaa (rg G (tF Z (fun _=>⟨[(3,.ref 16 0),(4,.ref 32 0),(5,dV a.2.2.1),(6,.ref 48 0),(7,.own 64),(12,dV g),(13,dV k),(14,dV m)],[cu 16 a.1,dI 32 a.2.1,eu 48 a.2.2.2.1,aX 64 50 a.2.2.2.2],96⟩) (fun v3 B Z=>?_) ?_)))))
        ·refine jaa (lp G Z (fun at_=>⟨[(3,.ref 16 0),(4,.ref 32 0),(5,dV a.2.2.1),(6,.ref 48 0),(7,.own 64),(12,dV g),(13,dV k),(14,dV m),(15,dV at_)],[cu 16 a.1,dI 32 a.2.1,eu 48 a.2.2.2.1,aX 64 50 a.2.2.2.2],96⟩) ?_);rintro at_ O w Z;rw[ycm]at Z;refine jab ?_;obtain⟨e2,T,Y,F,Z⟩:=ob2 Z;refine rs G (hD 3 T (hE 5 T (hD 7 F (hN 9 Y h0)))) ?_;refine cd Z ?_ ?_<;>intro Z
         ·refine jae (thN (jab (jaa ?_)));obtain⟨e7,x,e8,C,e9,D,Z⟩:=ob3 Z;obtain⟨r5,E,Z⟩:=jaf Z;refine ds G [] (hD 7 x (hE 9 x (hD 11 C (hD 14 D (hC 16 (K8 E) h0))))) ?_;refine jn Z (fun H=>⟨[(3,.ref 16 0),(4,.ref 32 0),(5,dV a.2.2.1),(6,.ref 48 0),(7,.own 64),(12,dV g),(13,dV k),(14,dV m),(15,dV at_),(129,dV H)],[cu 16 a.1,dI 32 a.2.1,eu 48 a.2.2.2.1,aX 64 50 a.2.2.2.2],96⟩) (fun H Z=>?_) ?_
          ·rcases bf Z with⟨n,Z⟩|⟨n,Z⟩
           ·refine re G (hO 2 (.b true) (hP n h0)) ?_;exact wJ G Z
           ·refine re G (hO 2 (.b false) (hP n h0)) ?_;exact wJ G Z
          rintro H Z;refine cd Z ?_ ?_<;>intro Z
          ·refine rg G ?_;have Z:=eL Z w B;have Z:=eL Z u A;have Z:=eL Z q J;cases Z;exact rt [] []
          ·exact jae (ibN (thN (rh G (wL G Z))))
         ·exact jag (thE (thE (ibE (wE G Z w))))
        rintro⟨⟩ Z s P;refine ibN (thN (jah P ?_));exact rh G (wL G Z)
       ·exact jag (thE (thE (ibE (wE G Z u))))
      rintro⟨⟩ Z s1 I;refine ibN (thN (jah I ?_));exact rh G (wL G Z)
     ·exact jag (thE (thE (ibE (wE G Z q))))
    rintro N Z s2 K;refine thN (jah K ?_);obtain⟨r9,L,Z⟩:=jaf Z;refine rs G (hC 4 (yx8.c (_,_,_,_) L) h0) ?_;refine jn Z (fun t=>⟨[(2,dV t)],[],32⟩) (fun t Z=>?_) ?_
    ·rcases bf Z with⟨d,Z⟩|⟨d,Z⟩
     ·refine re G (hO 2 (.b true) (hP d h0)) ?_;exact wJ G Z
     ·rcases bf Z with⟨f,Z⟩|⟨f,Z⟩
      ·refine re G (hO 2 (.b false) (hP d (hN 5 a.1.bn (hO 8 (.b true) (hP f h0))))) ?_;exact wJ G Z
      ·rcases bf Z with⟨o,Z⟩|⟨o,Z⟩
       ·refine re G (hO 2 (.b false) (hP d (hN 5 a.1.bn (hO 8 (.b false) (hP f (hO 10 (.b true) (hP o (hN 12 r9.1 (hN 14 a.2.2.2.2 h0))))))))) ?_;exact wJ G Z
       ·refine re G (hO 2 (.b false) (hP d (hN 5 a.1.bn (hO 8 (.b false) (hP f (hO 10 (.b false) (hP o h0))))))) ?_;exact wJ G Z
    rintro t Z;cases Z;exact rt [] []
end
end Go.Proofs.YtimecodbnhcnoaaGreat
