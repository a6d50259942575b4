/- Each function computes what its model says. Made by program (dec.py). -/
import Derived.Test.YtimecodbnhcnoaaGreatTy
import Derived.Test.YtimecodbnhcnoaaGreatAbStb
import Derived.Test.YtimecodbnhcnoaaGreatCvM
namespace Go.Proofs.YtimecodbnhcnoaaGreat
open Go Go.Ab Tryz
set_option maxRecDepth 100000
set_option maxHeartbeats 4000000
set_option linter.unusedVariables false
set_option linter.unusedSimpArgs false
noncomputable section
abbrev oh(n:Nat)(x:bK):=bX n 147 [dV x.eH,dV x.bq,dV x.bY]
abbrev iT(n:Nat)(x:bC):=bX n 27 [dV x.bq,dV x.bG]
abbrev cu(n:Nat)(x:bA):=bX n 30 [dV x.bC.bq,dV x.bC.bG,dV x.bn]
abbrev dI(n:Nat)(x:bL):=bX n 33 [dV x.dR,dV x.gV]
abbrev eu(n:Nat)(x:cB):=bX n 35 [dV x.iU,dV x.iV,dV x.jV,dV x.jM,dV x.jd,dV x.kP]
abbrev jT(n:Nat)(x:bB):=bX n 50 [dV x.bE]
abbrev nS:AV:=.dat (.sc (.slice none 0 0))
abbrev mR{α β:Type}[Enc α][Enc β](m:α->Option β):MS α β:=⟨.r,m,fun y=>dV y,fun _=>[],fun _ _=>[]⟩
abbrev mS{α γ β:Type}[Enc α][Enc γ][Enc β](m:α->γ->Option β):MS (α×γ) β:=⟨.x .r .r,fun x=>m x.1 x.2,fun y=>dV y,fun _=>[],fun _ _=>[]⟩
theorem tt:TT Tryz.prog ty:=⟨by kernel_rfl,ty_ok⟩
abbrev tJ:Inv:=.none
def yl1:MS (List UInt8) Bool:=mR ysy
theorem yu4:FnOK Tryz.prog tJ 5 yl1.S:=by
 refine fm tt yl1 [] call5 func5 rfl results5 ntmps5 ?_;rintro a y cx G (Z:ysy a=some y);unfold ysy at Z;refine rg G (rs G (hN 1 a h0) ?_);cases Z;exact rt [] []
def yit:MS bM (Int×bM):=⟨.b 58,yna,fun y=>dV y.1,fun _=>[],fun _ y=>[bxO 58 y.2]⟩
theorem ywc:FnOK Tryz.prog tJ 109 yit.S:=by
 refine fm tt yit [] call109 func109 rfl results109 ntmps109 ?_;rintro c y cx G (Z:yna c=some y);unfold yna at Z;refine rg G (rg G (jn Z (fun v=>⟨[(0,.ref 0 0),(3,dV v)],[bX 0 58 [dV c.dH,dV c.at_,kV .u64 c.dL.v]],48⟩) (fun v Z=>?_) ?_))
 ·refine ds G [] (hN 8 c.dH h0) ?_;refine cd Z ?_ ?_<;>intro Z
  ·obtain⟨d,a,Z⟩:=jaf Z;refine de G [] (hD 8 a h0) ?_;exact wJ G Z
  ·exact jae (wJ G Z)
 rintro v Z;refine rg G (rg G (jab (ds G [] (hN 8 c.dH h0) ?_)));refine cd Z ?_ ?_<;>intro Z
 ·refine rg G ?_;cases Z;exact rt [] []
 ·refine jae (thN ?_);obtain⟨u,b,Z⟩:=jaf Z;refine rs G (hK b h0) ?_;cases Z;exact rt [] []
def yiq:MS (bM×Int) (Int×bM):=⟨.x (.b 58) .r,fun x=>ya4 x.1 x.2,fun y=>dV y.1,fun _=>[],fun _ y=>[bxO 58 y.2]⟩
theorem yav{c n y}(Z:ya4 c n=some y):yiq.C (c,n) y:=yiq.c (c,n) Z
theorem ya7:FnOK Tryz.prog tJ 64 yiq.S:=by
 refine fm tt yiq [fo ywc] call64 func64 rfl results64 ntmps64 ?_;rintro⟨c,n⟩ y cx G (Z:ya4 c n=some y);unfold ya4 at Z;refine rg G (jab (rg G (cd Z ?_ ?_)))<;>intro Z
 ·refine rg G ?_;cases Z;exact rt [] []
 ·refine jae (thN ?_);obtain⟨r,h,Z⟩:=jaf Z;refine rs G (hC 1 (yit.c _ h) h0) ?_;refine jn Z (fun(v,a,b,d)=>⟨[(0,.ref 0 0),(1,dV n),(5,dV v)],[bX 0 58 [dV a,dV b,kV .u64 d]],48⟩) (fun i Z=>?_) ?_
  ·refine rg G (cd Z ?_ ?_)<;>intro Z
   ·obtain⟨g,e,Z⟩:=jaf Z;refine re G (hC 3 (yit.c _ e) h0) ?_;exact wJ G Z
   ·exact jae (wJ G Z)
  rintro⟨v,a,b,d⟩ Z;obtain⟨u,f,Z⟩:=jaf Z;refine rs G (hK f h0) ?_;cases Z;exact rt [] []
def yir:MS (bM×Int) (Bool×bM):=⟨.x (.b 58) .r,fun x=>yc3 x.1 x.2,fun y=>dV y.1,fun _=>[],fun _ y=>[bxO 58 y.2]⟩
theorem yck{c n y}(Z:yc3 c n=some y):yir.C (c,n) y:=yir.c (c,n) Z
theorem yb7:FnOK Tryz.prog tJ 34 yir.S:=by
 refine fm tt yir [fo ya7] call34 func34 rfl results34 ntmps34 ?_;rintro⟨c,n⟩ y cx G (Z:yc3 c n=some y);unfold yc3 at Z;refine rg G ?_;obtain⟨r,h,Z⟩:=jaf Z;refine rs G (hC 2 (yav h) h0) ?_;cases Z;exact rt [] []
def yb6(a:Int->Option (ByteArray)):MS Int ByteArray:=mR a
def yij:MS Int ByteArray:=yb6 yql
theorem yo8{a:Int->Option (ByteArray)}{n y}(Z:a n=some y):(yb6 a).C n y:=(yb6 a).c n Z
theorem ys8{p:Int->Option (ByteArray)}(t:FnOK Tryz.prog tJ 118 (yb6 p).S):FnOK Tryz.prog tJ 118 (yb6 (yc2 p)).S:=by
 refine fm tt (yb6 (yc2 p)) [fo t] call118 func118 rfl results118 ntmps118 ?_;rintro n y cx G (Z:yc2 p n=some y);unfold yc2 at Z;refine rg G (jab (rg G (cd Z ?_ ?_)))<;>intro Z
 ·obtain⟨r,h,u,f,Z⟩:=ob2 Z;refine rs G (hC 2 (yo8 h) (hP (wI (ku f)) h0)) ?_;cases Z;exact rt [] []
 ·refine jae (thN (jab (rg G (cd Z ?_ ?_))))<;>intro Z
  ·obtain⟨l,g,Z⟩:=jaf Z;refine rs G (hK g h0) ?_;cases Z;exact rt [] []
  ·refine jae (thN ?_);obtain⟨m,i,o,a,q,b,Z⟩:=ob3 Z;obtain⟨s,c,j,d,k,e,Z⟩:=ob3 Z;refine ds G [] (hK i (hC 2 (yo8 a) (hK b (hK c (hK d (hP (wI (ku e)) h0)))))) ?_;cases Z;exact rt [] []
theorem yj0:∀k,FnOK Tryz.prog tJ 118 (yb6 (yii k)).S
 |0=>⟨fun args w=>call118 args w,fun vs w F ds obs κ a=>by obtain⟨x,y,_,_,h⟩:=a;cases h⟩
 |k+1=>ys8 (yj0 k)
theorem yih:FnOK Tryz.prog tJ 118 yij.S:=yj0 4294967296
def yfu:MS (bK×Int) Int:=mS yjy
theorem yh9:FnOK Tryz.prog tJ 139 yfu.S:=by
 refine fm tt yfu [] call139 func139 rfl results139 ntmps139 ?_;rintro⟨x,c⟩ y cx G (Z:yjy x c=some y);unfold yjy at Z;refine rg G (jab (rg G (tF Z (fun _=>⟨[],[],32⟩) (fun a d Z=>?_) ?_)))
 ·refine jaa (lp G Z (fun v=>⟨[(1,dV c),(2,.ref 16 0),(5,dV v)],[oh 16 x],48⟩) ?_);rintro v b hb Z;rw[yet]at Z;refine jab (rs G (hN 3 x.bq h0) ?_);refine cd Z ?_ ?_<;>intro Z
  ·refine jae (thN (jab (jaa ?_)));obtain⟨e,h,Z⟩:=jaf Z;refine rs G (hD 3 h h0) ?_;refine cd Z ?_ ?_<;>intro Z
   ·refine rg G ?_;have Z:=eL Z hb d;cases Z;exact rt [] []
   ·exact jae (ibN (thN (rh G (wL G Z))))
  ·exact jag (thE (thE (ibE (wE G Z hb))))
 rintro⟨⟩ Z s f;refine thN (jah f ?_);refine rg G ?_;cases Z;exact rt [] []
def ync:MS (bM×ByteArray×Int) (bK×bM):=⟨.x (.b 58) (.x .r .r),fun x=>yqs x.1 x.2.1 x.2.2,fun y=>.aggv [dV y.1.eH,.own 0,.own 1],fun y=>[arO 3 y.1.bq,arO 3 y.1.bY],fun _ y=>[bxO 58 y.2]⟩
theorem ywe:FnOK Tryz.prog tJ 117 ync.S:=by
 refine fm tt ync [fo ya7,fo yh9] call117 func117 rfl results117 ntmps117 ?_;rintro⟨c,p,F⟩ y cx G (Z:yqs c p F=some y);unfold yqs at Z;refine rg G (rg G ?_);obtain⟨r,h,Z⟩:=jaf Z;refine rs G (hC 2 (yav h) h0) ?_;refine jab ?_;obtain⟨X,O,Z⟩:=jaf Z;refine rs G (hC 1 (yav O) h0) ?_;refine tl Z (fun(q,t,w,b)=>⟨[(0,.ref 0 0),(2,dV F),(6,.ref 32 0),(7,.ref 48 0)],[bX 0 58 [dV q,dV t,kV .u64 w],bX 32 147 [dV ByteArray.empty,nS,nS],bX 48 147 [dV p,.own 64,nS],aX 64 3 b],96⟩) (fun Q Z=>?_) ?_
 ·refine jaa (lpP Z (fun(v,x,z,A,B,M)=>⟨[(0,.ref 0 0),(2,dV F),(6,.ref 32 0),(7,.ref 48 0),(8,dV v),(9,dV x)],[bX 0 58 [dV z,dV A,kV .u64 B],bX 32 147 [dV ByteArray.empty,nS,nS],bX 48 147 [dV p,.own 64,nS],aX 64 3 M],96⟩) (Wk_J G.hL ⟨[(0,[]),(2,[]),(6,[]),(7,[]),(8,[]),(9,[])],[(0,0,[]),(32,16,[]),(48,64,[.k,.o 64])],[(64,3,1,[])],96⟩ (by kernel_rfl)) ?_);rintro⟨v,x,z,A,B,M⟩ R hb Z;rw[ye6]at Z;refine jab (rg G (cd Z ?_ ?_))<;>intro Z
  ·refine jae (thN (jab (jaa (jn Z (fun C=>⟨[(0,.ref 0 0),(2,dV F),(6,.ref 32 0),(7,.ref 48 0),(8,dV v),(9,dV x)],[bX 0 58 [dV z,dV A,kV .u64 B],bX 32 147 [dV ByteArray.empty,nS,nS],bX 48 147 [dV p,.own 64,nS],aX 64 3 C],96⟩) (fun C Z=>?_) ?_))))
   ·obtain⟨Y,T,Z⟩:=jaf Z;refine rs G (hC 2 (yfu.c (_,_) T) h0) ?_;refine cd Z ?_ ?_<;>intro Z
    ·obtain⟨u,U,Z⟩:=jaf Z;refine re G (hA 4 8 U h0) ?_;exact wJ G Z
    ·exact jae (wJ G Z)
   rintro C Z;obtain⟨r3,V,u1,W,Z⟩:=ob2 Z;refine re G (hC 3 (yav V) (hK W h0)) ?_;exact ibN (thN (rh G (wL G Z)))
  ·exact jag (thE (thE (ibE (wD G Z hb))))
 rintro⟨q,t,w,b⟩ Z s J;refine thN (jah J ?_);refine jn Z (fun a=>⟨[(0,.ref 0 0),(6,.ref 32 0),(7,.ref 48 0)],[bX 0 58 [dV q,dV t,kV .u64 w],bX 32 147 [dV ByteArray.empty,nS,nS],bX 48 147 [dV p,.own 64,nS],aX 64 3 a],96⟩) (fun a Z=>?_) ?_
 ·refine rs G (hN 2 b h0) ?_;refine cd Z ?_ ?_<;>intro Z
  ·obtain⟨P,N,u4,D,u5,E,Z⟩:=ob3 Z;refine de G [(10,[64,304]),(12,[48,320])] (hD 4 N (hE 5 N (hK D (hA 10 8 E h0)))) ?_;exact wJ G Z
  ·exact jae (wJ G Z)
 rintro a Z;refine jab (rg G (tl Z (fun(d,e,f,g)=>⟨[(0,.ref 0 0),(6,.ref 32 0),(7,.ref 48 0)],[bX 0 58 [dV d,dV e,kV .u64 f],bX 32 147 [dV ByteArray.empty,nS,nS],bX 48 147 [dV p,.own 64,.own 80],aX 64 3 a,aX 80 3 g],112⟩) (fun vv Z=>?_) ?_))
 ·refine jaa (lpP Z (fun(i,j,l,m,n)=>⟨[(0,.ref 0 0),(6,.ref 32 0),(7,.ref 48 0),(10,dV i)],[bX 0 58 [dV j,dV l,kV .u64 m],bX 32 147 [dV ByteArray.empty,nS,nS],bX 48 147 [dV p,.own 64,.own 80],aX 64 3 a,aX 80 3 n],112⟩) (Wk_J G.hL ⟨[(0,[]),(6,[]),(7,[]),(10,[])],[(0,0,[]),(32,32,[]),(48,48,[.k,.k,.o 80]),(64,64,[])],[(80,3,1,[])],112⟩ (by kernel_rfl)) ?_);rintro⟨i,j,l,m,n⟩ R H Z;rw[ye5]at Z;refine jab (rs G (hN 3 a h0) ?_);refine cd Z ?_ ?_<;>intro Z
  ·refine jae (thN (jab (jaa ?_)));obtain⟨r5,I,u7,K,Z⟩:=ob2 Z;refine de G [(3,[0]),(6,[80,272]),(8,[48,288])] (hC 3 (yav I) (hA 6 8 K h0)) ?_;exact ibN (thN (rh G (wL G Z)))
  ·exact jag (thE (thE (ibE (wD G Z H))))
 rintro⟨d,e,f,g⟩ Z s1 L;refine thN (jah L ?_);refine rg G ?_;cases Z;exact rt [64,80] []
def yiv:MS (bM×ByteArray×Int) (bK×bM):=⟨.x (.b 58) (.x .r .r),fun x=>yqr x.1 x.2.1 x.2.2,fun y=>dV y.1,fun _=>[],fun _ y=>[bxO 58 y.2]⟩
theorem ype:FnOK Tryz.prog tJ 117 yiv.S:=by
 refine fm tt yiv [fo ya7,fo yh9] call117 func117 rfl results117 ntmps117 ?_;rintro⟨c,p,F⟩ y cx G (Z:yqr c p F=some y);unfold yqr at Z;refine rg G (rg G ?_);obtain⟨r,h,Z⟩:=jaf Z;refine rs G (hC 2 (yav h) h0) ?_;refine jab ?_;obtain⟨X,O,Z⟩:=jaf Z;refine rs G (hC 1 (yav O) h0) ?_;refine tl Z (fun(q,t,w,b)=>⟨[(0,.ref 0 0),(2,dV F),(6,.ref 32 0),(7,.ref 48 0)],[bX 0 58 [dV q,dV t,kV .u64 w],bX 32 147 [dV ByteArray.empty,nS,nS],bX 48 147 [dV p,.own 64,nS],aX 64 3 b],96⟩) (fun Q Z=>?_) ?_
 ·refine jaa (lpP Z (fun(v,x,z,A,B,M)=>⟨[(0,.ref 0 0),(2,dV F),(6,.ref 32 0),(7,.ref 48 0),(8,dV v),(9,dV x)],[bX 0 58 [dV z,dV A,kV .u64 B],bX 32 147 [dV ByteArray.empty,nS,nS],bX 48 147 [dV p,.own 64,nS],aX 64 3 M],96⟩) (Wk_J G.hL ⟨[(0,[]),(2,[]),(6,[]),(7,[]),(8,[]),(9,[])],[(0,0,[]),(32,16,[]),(48,64,[.k,.o 64])],[(64,3,1,[])],96⟩ (by kernel_rfl)) ?_);rintro⟨v,x,z,A,B,M⟩ R hb Z;rw[ypg]at Z;refine jab (rg G (cd Z ?_ ?_))<;>intro Z
  ·refine jae (thN (jab (jaa (jn Z (fun C=>⟨[(0,.ref 0 0),(2,dV F),(6,.ref 32 0),(7,.ref 48 0),(8,dV v),(9,dV x)],[bX 0 58 [dV z,dV A,kV .u64 B],bX 32 147 [dV ByteArray.empty,nS,nS],bX 48 147 [dV p,.own 64,nS],aX 64 3 C],96⟩) (fun C Z=>?_) ?_))))
   ·obtain⟨Y,T,Z⟩:=jaf Z;refine rs G (hC 2 (yfu.c (_,_) T) h0) ?_;refine cd Z ?_ ?_<;>intro Z
    ·obtain⟨u,U,Z⟩:=jaf Z;refine re G (hA 4 8 U h0) ?_;exact wJ G Z
    ·exact jae (wJ G Z)
   rintro C Z;obtain⟨r3,V,u1,W,Z⟩:=ob2 Z;refine re G (hC 3 (yav V) (hK W h0)) ?_;exact ibN (thN (rh G (wL G Z)))
  ·exact jag (thE (thE (ibE (wD G Z hb))))
 rintro⟨q,t,w,b⟩ Z s J;refine thN (jah J ?_);refine jn Z (fun a=>⟨[(0,.ref 0 0),(6,.ref 32 0),(7,.ref 48 0)],[bX 0 58 [dV q,dV t,kV .u64 w],bX 32 147 [dV ByteArray.empty,nS,nS],bX 48 147 [dV p,.own 64,nS],aX 64 3 a],96⟩) (fun a Z=>?_) ?_
 ·refine rs G (hN 2 b h0) ?_;refine cd Z ?_ ?_<;>intro Z
  ·obtain⟨P,N,u4,D,u5,E,Z⟩:=ob3 Z;refine de G [(10,[64,304]),(12,[48,320])] (hD 4 N (hE 5 N (hK D (hA 10 8 E h0)))) ?_;exact wJ G Z
  ·exact jae (wJ G Z)
 rintro a Z;refine jab (rg G (tl Z (fun(d,e,f,g)=>⟨[(0,.ref 0 0),(6,.ref 32 0),(7,.ref 48 0)],[bX 0 58 [dV d,dV e,kV .u64 f],bX 32 147 [dV ByteArray.empty,nS,nS],bX 48 147 [dV p,.own 64,.own 80],aX 64 3 a,aX 80 3 g],112⟩) (fun vv Z=>?_) ?_))
 ·refine jaa (lpP Z (fun(i,j,l,m,n)=>⟨[(0,.ref 0 0),(6,.ref 32 0),(7,.ref 48 0),(10,dV i)],[bX 0 58 [dV j,dV l,kV .u64 m],bX 32 147 [dV ByteArray.empty,nS,nS],bX 48 147 [dV p,.own 64,.own 80],aX 64 3 a,aX 80 3 n],112⟩) (Wk_J G.hL ⟨[(0,[]),(6,[]),(7,[]),(10,[])],[(0,0,[]),(32,32,[]),(48,48,[.k,.k,.o 80]),(64,64,[])],[(80,3,1,[])],112⟩ (by kernel_rfl)) ?_);rintro⟨i,j,l,m,n⟩ R H Z;rw[ypf]at Z;refine jab (rs G (hN 3 a h0) ?_);refine cd Z ?_ ?_<;>intro Z
  ·refine jae (thN (jab (jaa ?_)));obtain⟨r5,I,u7,K,Z⟩:=ob2 Z;refine de G [(3,[0]),(6,[80,272]),(8,[48,288])] (hC 3 (yav I) (hA 6 8 K h0)) ?_;exact ibN (thN (rh G (wL G Z)))
  ·exact jag (thE (thE (ibE (wD G Z H))))
 rintro⟨d,e,f,g⟩ Z s1 L;refine thN (jah L ?_);refine rg G ?_;cases Z;exact rt [] []
def yid:MS (List Int) (List Int):=mR yie
theorem yic{list y}(Z:yie list=some y):yid.C list y:=yid.c list Z
theorem yo3:FnOK Tryz.prog tJ 119 yid.S:=by
 refine fm tt yid [] call119 func119 rfl results119 ntmps119 ?_;rintro d y cx G (Z:yie d=some y);unfold yie at Z;refine rg G (rg G (jab (rs G (hN 1 d h0) ?_)));refine tl Z (fun a=>⟨[(3,.own 16)],[aX 16 3 a],48⟩) (fun a Z=>?_) ?_
 ·refine jaa (lp G Z (fun(v,i)=>⟨[(0,dV d),(3,.own 16),(4,dV v)],[aX 16 3 i],48⟩) ?_);rintro⟨v,i⟩ c hb Z;rw[yo4]at Z;refine jab (rg G (cd Z ?_ ?_))<;>intro Z
  ·refine jae (thN (jab (jaa ?_)));obtain⟨e,h,u,b,Z⟩:=ob2 Z;refine re G (hD 3 h (hA 6 8 b h0)) ?_;exact ibN (thN (rh G (wL G Z)))
  ·exact jag (thE (thE (ibE (wD G Z hb))))
 rintro a Z s f;refine thN (jah f ?_);refine rg G ?_;cases Z;exact rt [] []
def yig:MS (List Int) (List Int):=⟨.r,yjz,fun _=>.own 0,fun y=>[arO 3 y],fun _ _=>[]⟩
theorem ym4{l y}(Z:yjz l=some y):yig.C l y:=yig.c l Z
theorem yo7:FnOK Tryz.prog tJ 52 yig.S:=by
 refine fm tt yig [] call52 func52 rfl results52 ntmps52 ?_;rintro l y cx G (Z:yjz l=some y);unfold yjz at Z;refine rg G ?_;obtain⟨u,h,Z⟩:=jaf Z;refine rs G (hA 2 8 h h0) ?_;cases Z;exact rt [64] []
def yif:MS (List Int) (List Int):=mR ydr
theorem yfv{l y}(Z:ydr l=some y):yif.C l y:=yif.c l Z
theorem yo6:FnOK Tryz.prog tJ 52 yif.S:=by
 refine fm tt yif [] call52 func52 rfl results52 ntmps52 ?_;rintro l y cx G (Z:ydr l=some y);unfold ydr at Z;refine rg G ?_;obtain⟨u,h,Z⟩:=jaf Z;refine rs G (hA 2 8 h h0) ?_;cases Z;exact rt [] []
def ymx:MS bC bC:=⟨.r,ymy,fun _=>.aggv [.own 0,.own 1],fun y=>[arO 9 y.bq,arO 147 y.bG],fun _ _=>[]⟩
theorem yv2:FnOK Tryz.prog tJ 120 ymx.S:=by
 refine fm tt ymx [fo yo6] call120 func120 rfl results120 ntmps120 ?_;rintro n y cx G (Z:ymy n=some y);unfold ymy at Z;refine rg G ?_;obtain⟨u,h,Z⟩:=jaf Z;refine rs G (hA 3 16 h h0) ?_;refine jab (rg G (tl Z (fun a=>⟨[(2,.ref 16 0),(3,.ref 32 0)],[bX 16 27 [nS,nS],bX 32 27 [.own 48,.own 64],aX 48 9 (([]:List ByteArray)++n.bq),aX 64 147 a],96⟩) (fun a Z=>?_) ?_))
 ·refine jaa (lpP Z (fun(v,e)=>⟨[(1,.ref 16 0),(2,.ref 32 0),(3,.ref 48 0),(4,dV v)],[iT 16 n,bX 32 27 [nS,nS],bX 48 27 [.own 64,.own 80],aX 64 9 (([]:List ByteArray)++n.bq),aX 80 147 e],112⟩) (Wk_J G.hL ⟨[(1,[]),(2,[]),(3,[]),(4,[])],[(16,16,[]),(32,32,[]),(48,128,[.k,.o 80]),(64,96,[])],[(80,147,3,[])],112⟩ (by kernel_rfl)) ?_);rintro⟨v,e⟩ j hb Z;rw[yeu]at Z;refine jab (rs G (hN 3 n.bG h0) ?_);refine cd Z ?_ ?_<;>intro Z
  ·refine jae (thN (jab (jaa ?_)));obtain⟨l,f,m,g,q,i,Z⟩:=ob3 Z;obtain⟨r,b,t,c,w,d,Z⟩:=ob3 Z;refine de G [(23,[]),(24,[80,560]),(26,[48,576])] (hD 5 f (hD 11 g (hC 14 (yfv i) (hD 18 b (hC 21 (yfv c) (hA 24 64 d h0)))))) ?_;exact ibN (thN (rh G (wL G Z)))
  ·exact jag (thE (thE (ibE (wD G Z hb))))
 rintro a Z s p;refine thN (jah p ?_);refine rg G ?_;cases Z;exact rt [48,64] []
def yiu:MS bM (bC×bM):=⟨.b 58,yqq,fun _=>.aggv [.own 0,.own 1],fun y=>[arO 9 y.1.bq,arO 147 y.1.bG],fun _ y=>[bxO 58 y.2]⟩
theorem ypc:FnOK Tryz.prog tJ 70 yiu.S:=by
 refine fm tt yiu [fo ya7,fo yih,fo ype,fo yb7,fo yo3,fo yv2] call70 func70 rfl results70 ntmps70 ?_;rintro c y cx G (Z:yqq c=some y);unfold yqq at Z;refine rg G ?_;obtain⟨r,h,Z⟩:=jaf Z;refine rs G (hC 1 (yav h) h0) ?_;obtain⟨u,E,Z⟩:=jaf Z;refine rs G (hO 2 (.fz [96] [] []) (hU 2 E h0)) ?_;refine jab ?_;obtain⟨Q,H,Z⟩:=jaf Z;refine rs G (hC 1 (yav H) h0) ?_;refine tl Z (fun(n,q,t,w)=>⟨[(0,.ref 0 0),(2,.ref 32 0),(4,.ref 48 0)],[bX 0 58 [dV n,dV q,kV .u64 t],bX 32 27 [nS,nS],bX 48 27 [dV ((([(str [112,111,114,116]),(str [109,105,108,108]),(str [112,97,114,107]),(str [104,97,108,108]),(str [100,111,99,107]),(str [102,97,105,114])]:List ByteArray).take (w64 (2+r.1)).toNat).drop (0:Int).toNat),.own 64],aX 64 147 w],96⟩) (fun I Z=>?_) ?_
 ·refine jaa (lpP Z (fun(x,v,z,A,B)=>⟨[(0,.ref 0 0),(2,.ref 32 0),(3,dV (w64 (2+r.1))),(4,.ref 48 0),(5,dV x)],[bX 0 58 [dV v,dV z,kV .u64 A],bX 32 27 [nS,nS],bX 48 27 [dV ((([(str [112,111,114,116]),(str [109,105,108,108]),(str [112,97,114,107]),(str [104,97,108,108]),(str [100,111,99,107]),(str [102,97,105,114])]:List ByteArray).take (w64 (2+r.1)).toNat).drop (0:Int).toNat),.own 64],aX 64 147 B],96⟩) (Wk_J G.hL ⟨[(0,[]),(2,[]),(3,[]),(4,[]),(5,[])],[(0,0,[]),(32,16,[]),(48,160,[.k,.o 64])],[(64,147,3,[])],96⟩ (by kernel_rfl)) ?_);rintro⟨x,v,z,A,B⟩ R hb Z;rw[ypd]at Z;refine jab (rg G (cd Z ?_ ?_))<;>intro Z
  ·refine jae (thN (jab (jaa ?_)));obtain⟨T,K,U,L,V,M,Z⟩:=ob3 Z;obtain⟨W,f,Z⟩:=jaf Z;refine de G [(7,[0]),(8,[]),(9,[64,256]),(11,[48,272])] (hC 4 (yij.c _ K) (hP (wI (ku L)) (hC 7 (yiv.c (_,_,_) M) (hA 9 64 f h0)))) ?_;exact ibN (thN (rh G (wL G Z)))
  ·exact jag (thE (thE (ibE (wD G Z hb))))
 rintro⟨n,q,t,w⟩ Z s p;refine thN (jah p ?_);refine jn Z (fun(C,D,a,b)=>⟨[(0,.ref 0 0),(2,.ref 32 0),(4,.ref 48 0)],[bX 0 58 [dV C,dV D,kV .u64 a],bX 32 27 [nS,nS],bX 48 27 [dV ((([(str [112,111,114,116]),(str [109,105,108,108]),(str [112,97,114,107]),(str [104,97,108,108]),(str [100,111,99,107]),(str [102,97,105,114])]:List ByteArray).take (w64 (2+r.1)).toNat).drop (0:Int).toNat),.own 64],aX 64 147 b],96⟩) (fun J Z=>?_) ?_
 ·obtain⟨X,g,Z⟩:=jaf Z;refine rs G (hC 1 (yck g) h0) ?_;refine cd Z ?_ ?_<;>intro Z
  ·obtain⟨e,d,Z⟩:=jaf Z;refine rs G (hD 2 d (hE 3 d h0)) ?_;obtain⟨Y,i,N,j,F,l,Z⟩:=ob3 Z;refine de G [(9,[]),(10,[64,368]),(12,[48,384])] (hC 4 (yic i) (hC 7 (yic j) (hA 10 64 l h0))) ?_;exact wJ G Z
  ·exact jae (wJ G Z)
 rintro⟨C,D,a,b⟩ Z;obtain⟨O,m,Z⟩:=jaf Z;refine rs G (hO 1 (.fz [64] [] []) (hC 1 (ymx.c _ m) h0)) ?_;cases Z;exact rt [112,113] []
def ym6:MS bM (bA×bM):=⟨.b 58,yqm,fun _=>.aggv [.own 0,.own 1,.own 2],fun y=>[arO 9 y.1.bC.bq,arO 147 y.1.bC.bG,arO 106 y.1.bn],fun _ y=>[bxO 58 y.2]⟩
theorem yv8:FnOK Tryz.prog tJ 115 ym6.S:=by
 refine fm tt ym6 [fo ypc,fo ya7] call115 func115 rfl results115 ntmps115 ?_;rintro c y cx G (Z:yqm c=some y);unfold yqm at Z;refine rg G ?_;obtain⟨r,h,Z⟩:=jaf Z;refine rs G (hC 1 (yiu.c _ h) h0) ?_;refine rg G (jab ?_);obtain⟨w,l,Z⟩:=jaf Z;refine rs G (hC 1 (yav l) h0) ?_;refine tl Z (fun(a,b,d,e)=>⟨[(0,.ref 0 0),(2,.ref 32 0),(3,.ref 48 0)],[bX 0 58 [dV a,dV b,kV .u64 d],bX 32 30 [nS,nS,nS],bX 48 30 [.own 64,.own 80,.own 96],aX 64 9 r.1.bq,aX 80 147 r.1.bG,aX 96 106 e],128⟩) (fun D Z=>?_) ?_
 ·refine jaa (lpP Z (fun(n,v,f,g,i,j)=>⟨[(0,.ref 0 0),(2,.ref 32 0),(3,.ref 48 0),(4,dV n),(5,dV v)],[bX 0 58 [dV f,dV g,kV .u64 i],bX 32 30 [nS,nS,nS],bX 48 30 [.own 64,.own 80,.own 96],aX 64 9 r.1.bq,aX 80 147 r.1.bG,aX 96 106 j],128⟩) (Wk_J G.hL ⟨[(0,[]),(2,[]),(3,[]),(4,[]),(5,[])],[(0,0,[]),(32,16,[]),(48,80,[.k,.k,.o 96]),(64,48,[]),(80,49,[])],[(96,106,3,[])],128⟩ (by kernel_rfl)) ?_);rintro⟨n,v,f,g,i,j⟩ x hb Z;rw[yip]at Z;refine jab (rg G (cd Z ?_ ?_))<;>intro Z
  ·refine jae (thN (jab (jaa ?_)));obtain⟨z,m,Z⟩:=jaf Z;refine rs G (hC 3 (yav m) h0) ?_;obtain⟨A,q,B,t,C,u,Z⟩:=ob3 Z;refine de G [(8,[0]),(10,[0]),(15,[96,480]),(17,[48,496])] (hN 7 r.1.bG (hC 8 (yav q) (hC 10 (yav t) (hA 15 24 u h0)))) ?_;exact ibN (thN (rh G (wL G Z)))
  ·exact jag (thE (thE (ibE (wD G Z hb))))
 rintro⟨a,b,d,e⟩ Z s p;refine thN (jah p ?_);refine rg G ?_;cases Z;exact rt [64,80,96] []
def ycb:MS (bM×(List Int)) (Int×bM):=⟨.x (.b 58) .r,fun x=>zq92 x.1 x.2,fun y=>dV y.1,fun _=>[],fun _ y=>[bxO 58 y.2]⟩
theorem yk0:FnOK Tryz.prog tJ 72 ycb.S:=by
 refine fm tt ycb [fo ya7] call72 func72 rfl results72 ntmps72 ?_;rintro⟨c,b⟩ y cx G (Z:zq92 c b=some y);unfold zq92 at Z;refine rg G ?_;obtain⟨r,h,e,a,Z⟩:=ob2 Z;refine rs G (hN 3 b (hC 4 (yav h) (hD 5 a h0))) ?_;cases Z;exact rt [] []
def yis:MS (bM×(List ByteArray)) (ByteArray×bM):=⟨.x (.b 58) (.s 9),fun x=>ym9 x.1 x.2,fun y=>dV y.1,fun _=>[],fun x y=>[bxO 58 y.2,arO 9 x.2]⟩
theorem ywb:FnOK Tryz.prog tJ 138 yis.S:=by
 refine fm tt yis [fo ya7] call138 func138 rfl results138 ntmps138 ?_;rintro⟨c,b⟩ y cx G (Z:ym9 c b=some y);unfold ym9 at Z;refine rg G ?_;obtain⟨r,h,e,a,Z⟩:=ob2 Z;refine rs G (hN 3 b (hC 4 (yav h) (hD 5 a (hE 6 a h0)))) ?_;cases Z;exact rt [] []
def ymv:MS bC bC:=⟨.r,ymw,fun _=>.aggv [.own 0,.own 1],fun y=>[arO 9 y.bq,taO 147 [none,some 3,some 3] y.bG],fun _ _=>[]⟩
theorem yv1:FnOK Tryz.prog tJ 120 ymv.S:=by
 refine fm tt ymv [fo yo7] call120 func120 rfl results120 ntmps120 ?_;rintro n y cx G (Z:ymw n=some y);unfold ymw at Z;refine rg G ?_;obtain⟨u,h,Z⟩:=jaf Z;refine rs G (hA 3 16 h h0) ?_;refine jab (rg G (tl Z (fun a=>⟨[(2,.ref 16 0),(3,.ref 32 0)],[bX 16 27 [nS,nS],bX 32 27 [.own 48,.own 64],aX 48 9 (([]:List ByteArray)++n.bq),tX 64 147 [none,some 3,some 3] a 64 none],96⟩) (fun a Z=>?_) ?_))
 ·refine jaa (lpP Z (fun(v,e)=>⟨[(1,.ref 16 0),(2,.ref 32 0),(3,.ref 48 0),(4,dV v)],[iT 16 n,bX 32 27 [nS,nS],bX 48 27 [.own 64,.own 80],aX 64 9 (([]:List ByteArray)++n.bq),tX 80 147 [none,some 3,some 3] e 80 none],112⟩) (Wk_J G.hL ⟨[(1,[]),(2,[]),(3,[]),(4,[])],[(16,16,[]),(32,32,[]),(48,128,[.k,.o 80]),(64,96,[])],[(80,147,3,[none,some 3,some 3])],112⟩ (by kernel_rfl)) ?_);rintro⟨v,e⟩ j hb Z;rw[yo0]at Z;refine jab (rs G (hN 3 n.bG h0) ?_);refine cd Z ?_ ?_<;>intro Z
  ·refine jae (thN (jab (jaa ?_)));obtain⟨m,f,q,g,r,i,Z⟩:=ob3 Z;obtain⟨t,b,w,c,x,d,Z⟩:=ob3 Z;refine de G [(23,[416,528]),(24,[80,560]),(26,[48,576])] (hD 5 f (hD 11 g (hC 14 (ym4 i) (hD 18 b (hC 21 (ym4 c) (hP (jbn (l:=[416,528]) rfl) (hA 24 64 d h0))))))) ?_;exact ibN (thN (rh G (wL G Z)))
  ·exact jag (thE (thE (ibE (wD G Z hb))))
 rintro a Z s p;refine thN (jah p ?_);refine rg G ?_;cases Z;exact rt [48,64] []
def ynb:MS bM (bC×bM):=⟨.b 58,yqp,fun _=>.aggv [.own 0,.own 1],fun y=>[arO 9 y.1.bq,taO 147 [none,some 3,some 3] y.1.bG],fun _ y=>[bxO 58 y.2]⟩
theorem ywd:FnOK Tryz.prog tJ 70 ynb.S:=by
 refine fm tt ynb [fo ya7,fo yih,fo ype,fo yb7,fo yo3,fo yv1] call70 func70 rfl results70 ntmps70 ?_;rintro c y cx G (Z:yqp c=some y);unfold yqp at Z;refine rg G ?_;obtain⟨r,h,Z⟩:=jaf Z;refine rs G (hC 1 (yav h) h0) ?_;obtain⟨u,E,Z⟩:=jaf Z;refine rs G (hO 2 (.fz [96] [] []) (hU 2 E h0)) ?_;refine jab ?_;obtain⟨Q,H,Z⟩:=jaf Z;refine rs G (hC 1 (yav H) h0) ?_;refine tl Z (fun(n,q,t,w)=>⟨[(0,.ref 0 0),(2,.ref 32 0),(4,.ref 48 0)],[bX 0 58 [dV n,dV q,kV .u64 t],bX 32 27 [nS,nS],bX 48 27 [dV ((([(str [112,111,114,116]),(str [109,105,108,108]),(str [112,97,114,107]),(str [104,97,108,108]),(str [100,111,99,107]),(str [102,97,105,114])]:List ByteArray).take (w64 (2+r.1)).toNat).drop (0:Int).toNat),.own 64],aX 64 147 w],96⟩) (fun I Z=>?_) ?_
 ·refine jaa (lpP Z (fun(x,v,z,A,B)=>⟨[(0,.ref 0 0),(2,.ref 32 0),(3,dV (w64 (2+r.1))),(4,.ref 48 0),(5,dV x)],[bX 0 58 [dV v,dV z,kV .u64 A],bX 32 27 [nS,nS],bX 48 27 [dV ((([(str [112,111,114,116]),(str [109,105,108,108]),(str [112,97,114,107]),(str [104,97,108,108]),(str [100,111,99,107]),(str [102,97,105,114])]:List ByteArray).take (w64 (2+r.1)).toNat).drop (0:Int).toNat),.own 64],aX 64 147 B],96⟩) (Wk_J G.hL ⟨[(0,[]),(2,[]),(3,[]),(4,[]),(5,[])],[(0,0,[]),(32,16,[]),(48,160,[.k,.o 64])],[(64,147,3,[])],96⟩ (by kernel_rfl)) ?_);rintro⟨x,v,z,A,B⟩ R hb Z;rw[ye4]at Z;refine jab (rg G (cd Z ?_ ?_))<;>intro Z
  ·refine jae (thN (jab (jaa ?_)));obtain⟨T,K,U,L,V,M,Z⟩:=ob3 Z;obtain⟨W,f,Z⟩:=jaf Z;refine de G [(7,[0]),(8,[]),(9,[64,256]),(11,[48,272])] (hC 4 (yij.c _ K) (hP (wI (ku L)) (hC 7 (yiv.c (_,_,_) M) (hA 9 64 f h0)))) ?_;exact ibN (thN (rh G (wL G Z)))
  ·exact jag (thE (thE (ibE (wD G Z hb))))
 rintro⟨n,q,t,w⟩ Z s p;refine thN (jah p ?_);refine jn Z (fun(C,D,a,b)=>⟨[(0,.ref 0 0),(2,.ref 32 0),(4,.ref 48 0)],[bX 0 58 [dV C,dV D,kV .u64 a],bX 32 27 [nS,nS],bX 48 27 [dV ((([(str [112,111,114,116]),(str [109,105,108,108]),(str [112,97,114,107]),(str [104,97,108,108]),(str [100,111,99,107]),(str [102,97,105,114])]:List ByteArray).take (w64 (2+r.1)).toNat).drop (0:Int).toNat),.own 64],aX 64 147 b],96⟩) (fun J Z=>?_) ?_
 ·obtain⟨X,g,Z⟩:=jaf Z;refine rs G (hC 1 (yck g) h0) ?_;refine cd Z ?_ ?_<;>intro Z
  ·obtain⟨e,d,Z⟩:=jaf Z;refine rs G (hD 2 d (hE 3 d h0)) ?_;obtain⟨Y,i,N,j,F,l,Z⟩:=ob3 Z;refine de G [(9,[]),(10,[64,368]),(12,[48,384])] (hC 4 (yic i) (hC 7 (yic j) (hA 10 64 l h0))) ?_;exact wJ G Z
  ·exact jae (wJ G Z)
 rintro⟨C,D,a,b⟩ Z;obtain⟨O,m,Z⟩:=jaf Z;refine rs G (hF 1 (ymv.c _ m) ⟨(jh1 Hz (jh1 (jsk fun _=>jq0 (fT_d trivial (fT_s (fT_s fT_n)))) zF)),zF⟩ h0) ?_;cases Z;exact rt [112,113] []
def ygh:MS (bM×(List Int)) (Int×bM):=⟨.x (.b 58) (.s 3),fun x=>zq93 x.1 x.2,fun y=>dV y.1,fun _=>[],fun x y=>[bxO 58 y.2,arO 3 x.2]⟩
theorem yrf:FnOK Tryz.prog tJ 72 ygh.S:=by
 refine fm tt ygh [fo ya7] call72 func72 rfl results72 ntmps72 ?_;rintro⟨c,b⟩ y cx G (Z:zq93 c b=some y);unfold zq93 at Z;refine rg G ?_;obtain⟨r,h,e,a,Z⟩:=ob2 Z;refine rs G (hN 3 b (hC 4 (yav h) (hD 5 a (hE 6 a h0)))) ?_;cases Z;exact rt [] []
def yre:MS bM (bC×bM):=⟨.b 58,zq94,fun y=>.aggv [.own 0,dV y.1.bG],fun y=>[arO 9 y.1.bq],fun _ y=>[bxO 58 y.2]⟩
theorem yxl:FnOK Tryz.prog tJ 116 yre.S:=by
 refine fm tt yre [fo ywd,fo ya7,fo ywb,fo yrf,fo yih,fo ywe] call116 func116 rfl results116 ntmps116 ?_;rintro c y cx G (Z:zq94 c=some y);unfold zq94 at Z;refine rg G ?_;obtain⟨r,h,Z⟩:=jaf Z;refine rs G (hC 1 (ynb.c _ h) h0) ?_;obtain⟨a,h1,Z⟩:=jaf Z;refine rs G (hN 3 r.1.bG (hC 4 (yav h1) h0)) ?_;obtain⟨e,k,Z⟩:=jaf Z;refine rs G (hD 3 k (hE 4 k h0)) ?_;refine jF Z (fun(v,Y,J,K,P,v5,L)=>⟨[(0,.ref 0 0),(2,.ref 32 0),(3,.ref 48 0),(4,dV a.1),(5,.ref 64 0)],[bX 0 58 [dV v,dV Y,kV .u64 J],bX 32 27 [nS,nS],bX 48 27 [.own 80,.own 96],bX 64 147 [dV K,.row 96 96 a.1.toNat 1,.own 112],aX 80 9 P,tX 96 147 [none,some 3,some 3] v5 96 (some (a.1.toNat,2)),aX 112 3 L],144⟩) (fun ac F Z=>?_) ?_
 ·obtain⟨r2,h3,Z⟩:=jaf Z;refine rs G (hC 1 (yav h3) h0) ?_;refine jaa (rg G (cd Z ?_ ?_))<;>intro Z
  ·obtain⟨r4,h6,e2,p,Z⟩:=ob2 Z;refine de G [(4,[0,416]),(6,[48])] (hC 4 (yis.c (_,_) h6) (hD 5 p (hS 6 p r4.1 h0))) ?_;exact ibN (wFp Z (Wk.trans (Wk_S (.c 272 2) (Enc.e e) (.cons (jbo (f:=Enc.e) (l:=r.1.bG) (i:=a.1) k) .nil) (by kernel_rfl)) (Wk_J G.hL ⟨[(0,[]),(2,[]),(3,[]),(4,[]),(5,[])],[(0,0,[]),(32,16,[]),(48,64,[]),(64,272,[]),(80,48,[]),(96,49,[]),(112,480,[])],[],144⟩ (by kernel_rfl))))
  ·refine rg G (cd Z ?_ ?_)<;>intro Z
   ·obtain⟨r5,h8,Z⟩:=jaf Z;refine re G (hC 2 (yis.c (_,_) h8) h0) ?_;exact ibN (wFp Z (Wk.trans (Wk_S (.c 272 2) (Enc.e e) (.cons (jbo (f:=Enc.e) (l:=r.1.bG) (i:=a.1) k) .nil) (by kernel_rfl)) (Wk_J G.hL ⟨[(0,[]),(2,[]),(3,[]),(4,[]),(5,[])],[(0,0,[]),(32,16,[]),(48,64,[]),(64,272,[]),(80,48,[]),(96,49,[]),(112,480,[])],[],144⟩ (by kernel_rfl))))
   ·refine rg G (cd Z ?_ ?_)<;>intro Z
    ·obtain⟨n,M,o,N,e4,x,Z⟩:=ob3 Z;refine de G [(6,[0]),(8,[0]),(11,[49])] (hO 5 (.dn (Enc.e e) (e.bq.length:Int)) (hP (jbo (f:=Enc.e) k) (hP (BA Enc.e e.bq) (hC 6 (yav M) (hC 8 (yav N) (hE 10 k (hP (jkc (f:=Enc.e) x) (hO 11 (.sd2 (Enc.e e) (Enc.e e4) (List.map Enc.e (e.bq.set n.1.toNat (w64 (o.1-1)))) (List.map Enc.e (r.1.bG.set a.1.toNat (⟨e.eH,(e.bq.set n.1.toNat (w64 (o.1-1))),e.bY⟩:bK)))) (hP (jbo (f:=Enc.e) k) (hP (jbo (f:=Enc.e) x) (hP (je1 Enc.e e.bq n.1.toNat (w64 (o.1-1))) (hP (je1 Enc.e r.1.bG a.1.toNat (⟨e.eH,(e.bq.set n.1.toNat (w64 (o.1-1))),e.bY⟩:bK)) h0)))))))))))) ?_;exact ibN (wFp Z (Wk.trans (Wk_S (.c 272 2) (Enc.e (⟨e.eH,(e.bq.set n.1.toNat (w64 (o.1-1))),e.bY⟩:bK)) (.cons (jbo (f:=Enc.e) (l:=(r.1.bG.set a.1.toNat (⟨e.eH,(e.bq.set n.1.toNat (w64 (o.1-1))),e.bY⟩:bK))) (i:=a.1) (w9 (y:=(⟨e.eH,(e.bq.set n.1.toNat (w64 (o.1-1))),e.bY⟩:bK)) k)) .nil) (by kernel_rfl)) (Wk_J G.hL ⟨[(0,[]),(2,[]),(3,[]),(4,[]),(5,[])],[(0,0,[]),(32,16,[]),(48,64,[]),(64,272,[]),(80,48,[]),(96,49,[]),(112,624,[])],[],144⟩ (by kernel_rfl))))
    ·refine rg G (cd Z ?_ ?_)<;>intro Z
     ·obtain⟨d,O,j,Q,e6,z,Z⟩:=ob3 Z;refine de G [(6,[0]),(9,[0,592]),(11,[49])] (hO 5 (.dn (Enc.e e) (e.bY.length:Int)) (hP (jbo (f:=Enc.e) k) (hP (BA Enc.e e.bY) (hC 6 (yav O) (hC 9 (ygh.c (_,_) Q) (hE 10 k (hP (jkc (f:=Enc.e) z) (hO 11 (.sd2 (Enc.e e) (Enc.e e6) (List.map Enc.e (e.bY.set d.1.toNat j.1)) (List.map Enc.e (r.1.bG.set a.1.toNat (⟨e.eH,e.bq,(e.bY.set d.1.toNat j.1)⟩:bK)))) (hP (jbo (f:=Enc.e) k) (hP (jbo (f:=Enc.e) z) (hP (je1 Enc.e e.bY d.1.toNat j.1) (hP (je1 Enc.e r.1.bG a.1.toNat (⟨e.eH,e.bq,(e.bY.set d.1.toNat j.1)⟩:bK)) h0)))))))))))) ?_;exact ibN (wFp Z (Wk.trans (Wk_S (.c 272 2) (Enc.e (⟨e.eH,e.bq,(e.bY.set d.1.toNat j.1)⟩:bK)) (.cons (jbo (f:=Enc.e) (l:=(r.1.bG.set a.1.toNat (⟨e.eH,e.bq,(e.bY.set d.1.toNat j.1)⟩:bK))) (i:=a.1) (w9 (y:=(⟨e.eH,e.bq,(e.bY.set d.1.toNat j.1)⟩:bK)) k)) .nil) (by kernel_rfl)) (Wk_J G.hL ⟨[(0,[]),(2,[]),(3,[]),(4,[]),(5,[])],[(0,0,[]),(32,16,[]),(48,64,[]),(64,272,[]),(80,48,[]),(96,49,[]),(112,656,[])],[],144⟩ (by kernel_rfl))))
     ·refine rg G (cd Z ?_ ?_)<;>intro Z
      ·obtain⟨u,R,Z⟩:=jaf Z;refine re G (hO 3 (.sd (Enc.e e) (List.map Enc.e (e.bY++([3]:List Int)))) (hP (jbo (f:=Enc.e) k) (hP (Gf (f:=Enc.e) (g:=Enc.e) (l:=e.bY) (r:=([3]:List Int)) (b:=8) (ku R) rfl) (hP (Gd Enc.e e.bY ([3]:List Int)) h0)))) ?_;exact ibN (wF G Z)
      ·refine rg G (cd Z ?_ ?_)<;>intro Z
       ·refine rg G (rg G ?_);have Z:=eR Z F;cases Z;exact rt [48] []
       ·refine rg G (cd Z ?_ ?_)<;>intro Z
        ·refine jab (rg G (tl Z (fun(A,B,C,D)=>⟨[(0,.ref 0 0),(2,.ref 32 0),(3,.ref 48 0)],[bX 0 58 [dV A,dV B,kV .u64 C],bX 32 27 [nS,nS],bX 48 27 [.own 64,.own 80],aX 64 9 r.1.bq,tX 80 147 [none,some 3,some 3] D 80 none],112⟩) (fun vv Z=>?_) ?_))
         ·refine jaa (lp G Z (fun(T,v8,v9,E,m)=>⟨[(0,.ref 0 0),(2,.ref 32 0),(3,.ref 48 0),(6,dV T)],[bX 0 58 [dV v8,dV v9,kV .u64 E],bX 32 27 [nS,nS],bX 48 27 [.own 64,.own 80],aX 64 9 r.1.bq,tX 80 147 [none,some 3,some 3] m 80 none],112⟩) ?_);rintro⟨T,v8,v9,E,m⟩ r0 hb Z;rw[yg0]at Z;refine jab ?_;obtain⟨q,H,Z⟩:=jaf Z;refine jn Z (fun t=>⟨[(0,.ref 0 0),(2,.ref 32 0),(3,.ref 48 0),(6,dV T),(85,dV t)],[bX 0 58 [dV q.2.dH,dV q.2.at_,kV .u64 q.2.dL.v],bX 32 27 [nS,nS],bX 48 27 [.own 64,.own 80],aX 64 9 r.1.bq,tX 80 147 [none,some 3,some 3] m 80 none],112⟩) (fun t Z=>?_) ?_
          ·rcases bf Z with⟨w,Z⟩|⟨w,Z⟩
           ·refine de G [(4,[0])] (hN 2 m (hC 4 (yav H) (hO 7 (.b true) (hP w h0)))) ?_;exact wJ G Z
           ·refine de G [(4,[0])] (hN 2 m (hC 4 (yav H) (hO 7 (.b false) (hP w h0)))) ?_;exact wJ G Z
          rintro t Z;refine cd Z ?_ ?_<;>intro Z
          ·refine jae (thN (jab (jaa ?_)));obtain⟨aa,U,u3,V,ab,W,Z⟩:=ob3 Z;obtain⟨u4,X,Z⟩:=jaf Z;refine de G [(9,[0]),(10,[256,257]),(11,[80,272]),(13,[48,288])] (hC 4 (yij.c _ U) (hP (wI (ku V)) (hN 8 r.1.bq (hC 9 (ync.c (_,_,_) W) (hP (jbn (l:=[256,257]) rfl) (hA 11 64 X h0)))))) ?_;exact ibN (thN (rh G (wL G Z)))
          ·exact jag (thE (thE (ibE (wD G Z hb))))
         rintro⟨A,B,C,D⟩ Z s hw;refine thN (jah hw ?_);refine rg G ?_;have Z:=eR Z F;cases Z;exact rt [64] []
        ·exact jae (ibN (wFp Z (Wk.trans (Wk_S (.c 272 2) (Enc.e e) (.cons (jbo (f:=Enc.e) (l:=r.1.bG) (i:=a.1) k) .nil) (by kernel_rfl)) (Wk_J G.hL ⟨[(0,[]),(2,[]),(3,[]),(4,[]),(5,[])],[(0,0,[]),(32,16,[]),(48,64,[]),(64,272,[]),(80,48,[]),(96,49,[]),(112,560,[])],[],144⟩ (by kernel_rfl)))))
 rintro⟨v,Y,J,K,P,v5,L⟩ Z;obtain⟨e9,I,Z⟩:=jaf Z;refine rs G (hD 4 I (hS 5 I (⟨K,e9.bq,L⟩:bK) (hP (Eq.refl a.1.toNat) (hP (Eq.refl a.1.toNat) h0)))) ?_;refine rg G ?_;cases Z;exact rt [80] []
def yrd:MS bM (bA×bM):=⟨.b 58,zq95,fun y=>.aggv [.own 0,dV y.1.bC.bG,.own 1],fun y=>[arO 9 y.1.bC.bq,arO 106 y.1.bn],fun _ y=>[bxO 58 y.2]⟩
theorem yxk:FnOK Tryz.prog tJ 69 yrd.S:=by
 refine fm tt yrd [fo yv8,fo ya7,fo yk0,fo yxl] call69 func69 rfl results69 ntmps69 ?_;rintro c y cx G (Z:zq95 c=some y);unfold zq95 at Z;refine rg G ?_;obtain⟨r,h,Z⟩:=jaf Z;refine rs G (hC 1 (ym6.c _ h) h0) ?_;refine jab (rs G (hN 2 r.1.bn h0) ?_);refine cd Z ?_ ?_<;>intro Z
 ·refine rg G ?_;cases Z;exact rt [48,50] []
 ·refine jae (thN ?_);obtain⟨K,L,Z⟩:=jaf Z;refine rs G (hN 3 r.1.bn (hC 4 (yav L) h0)) ?_;obtain⟨e,A,Z⟩:=jaf Z;refine rs G (hD 3 A (hE 4 A h0)) ?_;refine jF Z (fun(v,B,C,D,o,q,t,E)=>⟨[(0,.ref 0 0),(2,.ref 32 0),(3,.ref 48 0),(4,dV K.1),(5,.ref 64 0)],[bX 0 58 [dV v,dV B,kV .u64 C],bX 32 30 [nS,nS,nS],bX 48 30 [.own 80,dV D,.own 96],bX 64 106 [dV o,dV q,dV t],aX 80 9 E,aX 96 106 r.1.bn],128⟩) (fun M p Z=>?_) ?_
  ·obtain⟨U,N,Z⟩:=jaf Z;refine rs G (hC 1 (yav N) h0) ?_;refine jaa (rg G (cd Z ?_ ?_))<;>intro Z
   ·obtain⟨V,O,Z⟩:=jaf Z;refine re G (hO 2 (.fz [448] [] []) (hC 2 (ycb.c (_,_) O) h0)) ?_;exact ibN (wF G Z)
   ·refine rg G (cd Z ?_ ?_)<;>intro Z
    ·obtain⟨W,Q,Z⟩:=jaf Z;refine re G (hC 1 (yav Q) h0) ?_;exact ibN (wF G Z)
    ·refine rg G (cd Z ?_ ?_)<;>intro Z
     ·obtain⟨X,R,Z⟩:=jaf Z;refine re G (hO 2 (.fz [512] [] []) (hC 2 (ycb.c (_,_) R) h0)) ?_;exact ibN (wF G Z)
     ·refine rg G (cd Z ?_ ?_)<;>intro Z
      ·obtain⟨Y,T,Z⟩:=jaf Z;refine re G (hC 1 (yre.c _ T) h0) ?_;exact ibN (wF G Z)
      ·refine rg G (cd Z ?_ ?_)<;>intro Z
       ·refine jab (rg G (tl Z (fun(g,i,j,k)=>⟨[(0,.ref 0 0),(2,.ref 32 0),(3,.ref 48 0)],[bX 0 58 [dV g,dV i,kV .u64 j],bX 32 30 [nS,nS,nS],bX 48 30 [.own 64,.own 80,.own 96],aX 64 9 r.1.bC.bq,aX 80 147 r.1.bC.bG,aX 96 106 k],128⟩) (fun vv Z=>?_) ?_))
        ·refine jaa (lp G Z (fun(w,H,l,m,a)=>⟨[(0,.ref 0 0),(2,.ref 32 0),(3,.ref 48 0),(6,dV w)],[bX 0 58 [dV H,dV l,kV .u64 m],bX 32 30 [nS,nS,nS],bX 48 30 [.own 64,.own 80,.own 96],aX 64 9 r.1.bC.bq,aX 80 147 r.1.bC.bG,aX 96 106 a],128⟩) ?_);rintro⟨w,H,l,m,a⟩ P hb Z;rw[ykz]at Z;refine jab ?_;obtain⟨x,I,Z⟩:=jaf Z;refine jn Z (fun d=>⟨[(0,.ref 0 0),(2,.ref 32 0),(3,.ref 48 0),(6,dV w),(61,dV d)],[bX 0 58 [dV x.2.dH,dV x.2.at_,kV .u64 x.2.dL.v],bX 32 30 [nS,nS,nS],bX 48 30 [.own 64,.own 80,.own 96],aX 64 9 r.1.bC.bq,aX 80 147 r.1.bC.bG,aX 96 106 a],128⟩) (fun d Z=>?_) ?_
         ·rcases bf Z with⟨f,Z⟩|⟨f,Z⟩
          ·refine de G [(4,[0])] (hN 2 a (hC 4 (yav I) (hO 7 (.b true) (hP f h0)))) ?_;exact wJ G Z
          ·refine de G [(4,[0])] (hN 2 a (hC 4 (yav I) (hO 7 (.b false) (hP f h0)))) ?_;exact wJ G Z
         rintro d Z;refine cd Z ?_ ?_<;>intro Z
         ·refine jae (thN (jab (jaa ?_)));obtain⟨u,z,Z⟩:=jaf Z;refine re G (hA 8 24 z h0) ?_;exact ibN (thN (rh G (wL G Z)))
         ·exact jag (thE (thE (ibE (wD G Z hb))))
        rintro⟨g,i,j,k⟩ Z s F;refine thN (jah F ?_);refine rg G ?_;have Z:=eR Z p;cases Z;exact rt [64,96] []
       ·exact jae (ibN (wF G Z))
  rintro⟨v,B,C,D,o,q,t,E⟩ Z;obtain⟨J,n,Z⟩:=jaf Z;refine rs G (hD 4 n (hS 5 n (⟨o,q,t⟩:cZ) h0)) ?_;refine rg G ?_;cases Z;exact rt [80,96] []
def yik:MS (Int×Int) Int:=mS yj1
theorem ys9{a b y}(Z:yj1 a b=some y):yik.C (a,b) y:=yik.c (a,b) Z
theorem yo9:FnOK Tryz.prog tJ 71 yik.S:=by
 refine fm tt yik [] call71 func71 rfl results71 ntmps71 ?_;rintro⟨a,b⟩ y cx G (Z:yj1 a b=some y);unfold yj1 at Z;refine rg G (jab (rg G (cd Z ?_ ?_)))<;>intro Z
 ·refine rg G ?_;cases Z;exact rt [] []
 ·refine jae (thN (rg G ?_));cases Z;exact rt [] []
def ym5:MS bM (bA×bM):=⟨.b 58,yj3,fun y=>.aggv [.own 0,dV y.1.bC.bG,.own 1],fun y=>[arO 9 y.1.bC.bq,arO 106 y.1.bn],fun _ y=>[bxO 58 y.2]⟩
theorem yv7:FnOK Tryz.prog tJ 33 ym5.S:=by
 refine fm tt ym5 [fo yb7,fo yxk,fo ypc,fo ya7,fo yo9] call33 func33 rfl results33 ntmps33 ?_;rintro c y cx G (Z:yj3 c=some y);unfold yj3 at Z;refine rg G (jab ?_);obtain⟨r,h,Z⟩:=jaf Z;refine rs G (hC 1 (yck h) h0) ?_;refine cd Z ?_ ?_<;>intro Z
 ·obtain⟨O,H,Z⟩:=jaf Z;refine rs G (hC 1 (yrd.c _ H) h0) ?_;cases Z;exact rt [80,81] []
 ·refine jae (thN ?_);obtain⟨a,I,Z⟩:=jaf Z;refine rs G (hC 1 (yiu.c _ I) h0) ?_;refine jab ?_;obtain⟨Q,K,Z⟩:=jaf Z;refine rs G (hC 1 (yav K) h0) ?_;refine tl Z (fun(g,j,l,C)=>⟨[(0,.ref 0 0),(2,.ref 32 0),(3,.ref 48 0)],[bX 0 58 [dV g,dV j,kV .u64 l],bX 32 30 [nS,nS,nS],bX 48 30 [.own 64,.own 80,.own 96],aX 64 9 a.1.bq,aX 80 147 a.1.bG,aX 96 106 C],128⟩) (fun F Z=>?_) ?_
  ·refine jaa (lpP Z (fun(i,v,D,E,m)=>⟨[(0,.ref 0 0),(2,.ref 32 0),(3,.ref 48 0),(4,dV i)],[bX 0 58 [dV v,dV D,kV .u64 E],bX 32 30 [nS,nS,nS],bX 48 30 [.own 64,.own 80,.own 96],aX 64 9 a.1.bq,aX 80 147 a.1.bG,aX 96 106 m],128⟩) (Wk_J G.hL ⟨[(0,[]),(2,[]),(3,[]),(4,[])],[(0,0,[]),(32,16,[]),(48,112,[.k,.k,.o 96]),(64,80,[]),(80,81,[])],[(96,106,3,[])],128⟩ (by kernel_rfl)) ?_);rintro⟨i,v,D,E,m⟩ L hb Z;rw[yio]at Z;refine jab (rg G (cd Z ?_ ?_))<;>intro Z
   ·refine jae (thN (jab (jaa ?_)));obtain⟨R,M,T,N,U,n,Z⟩:=ob3 Z;obtain⟨V,q,Z⟩:=jaf Z;refine de G [(11,[0]),(19,[0]),(21,[0]),(26,[96,560]),(28,[48,576])] (hN 4 m (hN 8 m (hC 11 (yav M) (hN 18 a.1.bG (hC 19 (yav N) (hC 21 (yav n) (hA 26 24 q h0))))))) ?_;exact ibN (thN (rh G (wL G Z)))
   ·exact jag (thE (thE (ibE (wD G Z hb))))
  rintro⟨g,j,l,C⟩ Z s p;refine thN (jah p ?_);refine jab (rg G (tl Z (fun t=>⟨[(0,.ref 0 0),(2,.ref 32 0),(3,.ref 48 0)],[bX 0 58 [dV g,dV j,kV .u64 l],bX 32 30 [nS,nS,nS],bX 48 30 [.own 64,.own 80,.own 96],aX 64 9 a.1.bq,aX 80 147 a.1.bG,aX 96 106 t],128⟩) (fun t Z=>?_) ?_))
  ·refine jaa (lp G Z (fun(x,u)=>⟨[(0,.ref 0 0),(2,.ref 32 0),(3,.ref 48 0),(5,dV x)],[bX 0 58 [dV g,dV j,kV .u64 l],bX 32 30 [nS,nS,nS],bX 48 30 [.own 64,.own 80,.own 96],aX 64 9 a.1.bq,aX 80 147 a.1.bG,aX 96 106 u],128⟩) ?_);rintro⟨x,u⟩ L w Z;rw[yin]at Z;refine jab (rs G (hN 3 u h0) ?_);refine cd Z ?_ ?_<;>intro Z
   ·refine jae (thN (jab (jaa ?_)));obtain⟨e,b,Z⟩:=jaf Z;refine rs G (hD 3 b (hE 4 b h0)) ?_;obtain⟨W,d,z,A,Z⟩:=ob2 Z;refine ds G [(12,[288])] (hD 6 d (hE 8 d (hC 10 (ys9 A) h0))) ?_;obtain⟨X,f,Z⟩:=jaf Z;refine re G (hD 4 f (hS 5 f (⟨z,e.bK,e.d9⟩:cZ) h0)) ?_;exact ibN (thN (rh G (wL G Z)))
   ·exact jag (thE (thE (ibE (wD G Z w))))
  rintro t Z Y B;refine thN (jah B ?_);refine rg G ?_;cases Z;exact rt [64,96] []
def yra:MS (bM×bC) (bL×bM):=⟨.x (.b 58) .r,fun x=>zq99 x.1 x.2,fun y=>dV y.1,fun _=>[],fun _ y=>[bxO 58 y.2]⟩
theorem yxg:FnOK Tryz.prog tJ 35 yra.S:=by
 refine fm tt yra [fo yrf,fo yo9,fo ya7] call35 func35 rfl results35 ntmps35 ?_;rintro⟨c,n⟩ y cx G (Z:zq99 c n=some y);unfold zq99 at Z;refine rg G ?_;obtain⟨r,h,Z⟩:=jaf Z;refine rs G (hC 2 (ygh.c (_,_) h) h0) ?_;refine jab (rg G (tl Z (fun(d,g,i,a)=>⟨[(0,.ref 0 0),(3,.ref 32 0),(4,.ref 48 0),(5,.ref 64 0)],[bX 0 58 [dV d,dV g,kV .u64 i],iT 32 n,bX 48 33 [nS,kV .i64 0],bX 64 33 [.own 80,dV r.1],tX 80 53 [some 3] a 80 none],112⟩) (fun Y Z=>?_) ?_))
 ·refine jaa (lpP Z (fun(k,v,N,O,D)=>⟨[(0,.ref 0 0),(3,.ref 32 0),(4,.ref 48 0),(5,.ref 64 0),(6,dV k)],[bX 0 58 [dV v,dV N,kV .u64 O],iT 32 n,bX 48 33 [nS,kV .i64 0],bX 64 33 [.own 80,dV r.1],tX 80 53 [some 3] D 80 none],112⟩) (Wk_J G.hL ⟨[(0,[]),(3,[]),(4,[]),(5,[]),(6,[])],[(0,0,[]),(32,16,[]),(48,32,[]),(64,112,[.o 80])],[(80,53,1,[some 3])],112⟩ (by kernel_rfl)) ?_);rintro⟨k,v,N,O,D⟩ r0 hb Z;rw[ykv]at Z;refine jab (rs G (hN 3 n.bq h0) ?_);refine cd Z ?_ ?_<;>intro Z
  ·refine jae (thN (jab (jaa (rg G (jab (rg G (tl Z (fun(Q,j,m,q)=>⟨[(0,.ref 0 0),(3,.ref 32 0),(4,.ref 48 0),(5,.ref 64 0),(6,dV k),(7,.own 80)],[bX 0 58 [dV Q,dV j,kV .u64 m],iT 32 n,bX 48 33 [nS,kV .i64 0],bX 64 33 [.own 96,dV r.1],aX 80 3 q,tX 96 53 [some 3] D 96 none],128⟩) (fun vv Z=>?_) ?_)))))))
   ·refine jaa (lp G Z (fun(R,T,U,V,W)=>⟨[(0,.ref 0 0),(3,.ref 32 0),(4,.ref 48 0),(5,.ref 64 0),(6,dV k),(7,.own 80),(8,dV R)],[bX 0 58 [dV T,dV U,kV .u64 V],iT 32 n,bX 48 33 [nS,kV .i64 0],bX 64 33 [.own 96,dV r.1],aX 80 3 W,tX 96 53 [some 3] D 96 none],128⟩) ?_);rintro⟨R,T,U,V,W⟩ r0 I Z;rw[ykw]at Z;refine jab (rs G (hN 3 n.bq h0) ?_);refine cd Z ?_ ?_<;>intro Z
    ·refine jae (thN (jab (jaa ?_)));obtain⟨r1,J,r2,P,u,h3,Z⟩:=ob3 Z;refine re G (hC 7 (ys9 J) (hC 9 (yav P) (hA 13 8 h3 h0))) ?_;exact ibN (thN (rh G (wL G Z)))
    ·exact jag (thE (thE (ibE (wD G Z I))))
   rintro⟨Q,j,m,q⟩ Z s hw;refine thN (jah hw ?_);obtain⟨u1,h4,Z⟩:=jaf Z;refine re G (hP (jbn (l:=[80]) rfl) (hA 4 24 h4 h0)) ?_;exact ibN (thN (rh G (wL G Z)))
  ·exact jag (thE (thE (ibE (wD G Z hb))))
 rintro⟨d,g,i,a⟩ Z s1 K;refine thN (jah K ?_);refine jn Z (fun(t,w,x,z,A)=>⟨[(0,.ref 0 0),(4,.ref 32 0),(5,.ref 48 0)],[bX 0 58 [dV t,dV w,kV .u64 x],bX 32 33 [nS,kV .i64 0],bX 48 33 [dV z,dV A]],80⟩) (fun aa Z=>?_) ?_
 ·obtain⟨r3,h5,Z⟩:=jaf Z;refine rs G (hC 1 (yav h5) h0) ?_;refine jaa (rg G (cd Z ?_ ?_))<;>intro Z
  ·obtain⟨r4,h6,Z⟩:=jaf Z;refine re G (hC 2 (ygh.c (_,_) h6) h0) ?_;exact ibN (wJ G Z)
  ·refine rg G (cd Z ?_ ?_)<;>intro Z
   ·obtain⟨e,E,p,X,Z⟩:=ob2 Z;refine re G (hD 2 E (hE 3 E (hE 4 E (hP (jkc (f:=Enc.e) X) (hO 5 (.sd2 (Enc.e e) (Enc.e p) (List.map Enc.e (e.set (0:Int).toNat 1)) (List.map Enc.e (a.set (0:Int).toNat (e.set (0:Int).toNat 1)))) (hP (jbo (f:=Enc.e) E) (hP (jbo (f:=Enc.e) X) (hP (je1 Enc.e e (0:Int).toNat 1) (hP (je1 Enc.e a (0:Int).toNat (e.set (0:Int).toNat 1)) h0))))))))) ?_;exact ibN (wJ G Z)
   ·refine rg G (cd Z ?_ ?_)<;>intro Z
    ·obtain⟨B,b,H,L,F,C,Z⟩:=ob3 Z;refine de G [(10,[0,384]),(12,[80])] (hD 2 b (hE 3 b (hN 6 n.bq (hC 10 (ygh.c (_,_) L) (hE 11 b (hP (jkc (f:=Enc.e) C) (hO 12 (.sd2 (Enc.e B) (Enc.e F) (List.map Enc.e (B.set (w64 ((n.bq.length:Int)-1)).toNat H.1)) (List.map Enc.e (a.set (0:Int).toNat (B.set (w64 ((n.bq.length:Int)-1)).toNat H.1)))) (hP (jbo (f:=Enc.e) b) (hP (jbo (f:=Enc.e) C) (hP (je1 Enc.e B (w64 ((n.bq.length:Int)-1)).toNat H.1) (hP (je1 Enc.e a (0:Int).toNat (B.set (w64 ((n.bq.length:Int)-1)).toNat H.1)) h0))))))))))) ?_;exact ibN (wJ G Z)
    ·refine rg G (cd Z ?_ ?_)<;>intro Z
     ·obtain⟨u2,M,Z⟩:=jaf Z;refine re G (hO 2 (.fz [80] [] []) (hV 2 M h0)) ?_;exact ibN (wJ G Z)
     ·exact jae (ibN (wJ G Z))
 rintro⟨t,w,x,z,A⟩ Z;refine rg G ?_;cases Z;exact rt [] []
def ym7:MS bM (cB×bM):=⟨.b 58,yqn,fun y=>dV y.1,fun _=>[],fun _ y=>[bxO 58 y.2]⟩
theorem yv9:FnOK Tryz.prog tJ 36 ym7.S:=by
 refine fm tt ym7 [fo ya7,fo yk0] call36 func36 rfl results36 ntmps36 ?_;rintro c y cx G (Z:yqn c=some y);unfold yqn at Z;refine rg G ?_;obtain⟨r,h,g,i,w,j,Z⟩:=ob3 Z;obtain⟨k,l,m,n,x,o,Z⟩:=ob3 Z;refine rs G (hC 1 (yav h) (hC 4 (yav i) (hO 8 (.fz [144] [] []) (hC 8 (ycb.c (_,_) j) (hO 11 (.fz [192] [] []) (hC 11 (ycb.c (_,_) l) (hO 14 (.fz [240] [] []) (hC 14 (ycb.c (_,_) n) (hO 17 (.fz [288] [] []) (hC 17 (ycb.c (_,_) o) h0)))))))))) ?_;refine jn Z (fun(v,a,b,d,e,f)=>⟨[(0,.ref 0 0),(2,.ref 32 0),(3,.ref 48 0)],[bX 0 58 [dV v,dV a,kV .u64 b],bX 32 35 [kV .i64 0,kV .i64 0,kV .i64 0,kV .i64 0,kV .i64 0,kV .i64 0],bX 48 35 [dV d,dV (w64 (g.1*5)),dV e,dV k.1,dV m.1,dV f]],80⟩) (fun p Z=>?_) ?_
 ·obtain⟨z,q,Z⟩:=jaf Z;refine rs G (hC 1 (yav q) h0) ?_;refine jaa (rg G (cd Z ?_ ?_))<;>intro Z
  ·obtain⟨A,s,Z⟩:=jaf Z;refine re G (hO 2 (.fz [448] [] []) (hC 2 (ycb.c (_,_) s) h0)) ?_;exact ibN (wJ G Z)
  ·refine rg G (cd Z ?_ ?_)<;>intro Z
   ·obtain⟨B,t,Z⟩:=jaf Z;refine re G (hO 2 (.fz [480] [] []) (hC 2 (ycb.c (_,_) t) h0)) ?_;exact ibN (wJ G Z)
   ·refine rg G (cd Z ?_ ?_)<;>intro Z
    ·obtain⟨C,u,Z⟩:=jaf Z;refine re G (hO 2 (.fz [512] [] []) (hC 2 (ycb.c (_,_) u) h0)) ?_;exact ibN (wJ G Z)
    ·exact jae (ibN (wJ G Z))
 rintro⟨v,a,b,d,e,f⟩ Z;refine rg G ?_;cases Z;exact rt [] []
def yim:MS (Int×Int×Int) Bool:=⟨.x .r (.x .r .r),fun x=>ybo x.1 x.2.1 x.2.2,fun y=>dV y,fun _=>[],fun _ _=>[]⟩
theorem ya3{x a b y}(Z:ybo x a b=some y):yim.C (x,a,b) y:=yim.c (x,a,b) Z
theorem ybn:FnOK Tryz.prog tJ 88 yim.S:=by
 refine fm tt yim [] call88 func88 rfl results88 ntmps88 ?_;rintro⟨x,a,b⟩ y cx G (Z:ybo x a b=some y);unfold ybo at Z;refine rg G (jn Z (fun v=>⟨[(6,dV v)],[],32⟩) (fun v Z=>?_) ?_)
 ·rcases bf Z with⟨hb,Z⟩|⟨hb,Z⟩
  ·refine re G (hO 3 (.b true) (hP hb h0)) ?_;exact wJ G Z
  ·refine re G (hO 3 (.b false) (hP hb h0)) ?_;exact wJ G Z
 rintro v Z;cases Z;exact rt [] []
def yc0:MS ByteArray Bool:=mR ymz
theorem yo1:FnOK Tryz.prog tJ 140 yc0.S:=by
 refine fm tt yc0 [fo ybn] call140 func140 rfl results140 ntmps140 ?_;rintro s y cx G (Z:ymz s=some y);unfold ymz at Z;refine rg G (jab ?_);obtain⟨r,h,Z⟩:=jaf Z;refine jn Z (fun v=>⟨[(0,dV s),(17,dV v)],[],32⟩) (fun v Z=>?_) ?_
 ·rcases bf Z with⟨hb,Z⟩|⟨hb,Z⟩
  ·refine re G (hC 2 (ya3 h) (hO 4 (.b true) (hP hb h0))) ?_;exact wJ G Z
  ·obtain⟨u,m,Z⟩:=jaf Z;rcases bf Z with⟨d,Z⟩|⟨d,Z⟩
   ·refine re G (hC 2 (ya3 h) (hO 4 (.b false) (hP hb (hK m (hO 9 (.b true) (hP d h0)))))) ?_;exact wJ G Z
   ·obtain⟨x,q,Z⟩:=jaf Z;refine re G (hC 2 (ya3 h) (hO 4 (.b false) (hP hb (hK m (hO 9 (.b false) (hP d (hK q h0))))))) ?_;exact wJ G Z
 rintro v Z;refine cd Z ?_ ?_<;>intro Z
 ·refine rg G ?_;cases Z;exact rt [] []
 ·refine jae (thN (jab (rg G (tF Z (fun _=>⟨[],[],32⟩) (fun z p Z=>?_) ?_))))
  ·refine jaa (lp G Z (fun j=>⟨[(0,dV s),(3,dV j)],[],32⟩) ?_);rintro j A g Z;rw[yc7]at Z;refine jab (rg G (cd Z ?_ ?_))<;>intro Z
   ·refine jae (thN (jab (jaa ?_)));obtain⟨B,i,Z⟩:=jaf Z;refine jn Z (fun k=>⟨[(0,dV s),(3,dV j),(45,dV k)],[],32⟩) (fun k Z=>?_) ?_
    ·rcases bf Z with⟨a,Z⟩|⟨a,Z⟩
     ·obtain⟨C,n,Z⟩:=jaf Z;rcases bf Z with⟨e,Z⟩|⟨e,Z⟩
      ·refine re G (hK i (hO 4 (.b true) (hP a (hK n (hO 15 (.b true) (hP e h0)))))) ?_;exact wJ G Z
      ·obtain⟨D,t,Z⟩:=jaf Z;refine re G (hK i (hO 4 (.b true) (hP a (hK n (hO 15 (.b false) (hP e (hK t h0))))))) ?_;exact wJ G Z
     ·obtain⟨E,l,Z⟩:=jaf Z;rcases bf Z with⟨c,Z⟩|⟨c,Z⟩
      ·obtain⟨H,o,Z⟩:=jaf Z;rcases bf Z with⟨f,Z⟩|⟨f,Z⟩
       ·refine re G (hK i (hO 4 (.b false) (hP a (hK l (hO 10 (.b true) (hP c (hK o (hO 15 (.b true) (hP f h0))))))))) ?_;exact wJ G Z
       ·obtain⟨I,w,Z⟩:=jaf Z;refine re G (hK i (hO 4 (.b false) (hP a (hK l (hO 10 (.b true) (hP c (hK o (hO 15 (.b false) (hP f (hK w h0)))))))))) ?_;exact wJ G Z
      ·refine re G (hK i (hO 4 (.b false) (hP a (hK l (hO 10 (.b false) (hP c h0)))))) ?_;exact wJ G Z
    rintro k Z;refine cd Z ?_ ?_<;>intro Z
    ·refine rg G ?_;have Z:=eL Z g p;cases Z;exact rt [] []
    ·exact jae (ibN (thN (rh G (wL G Z))))
   ·exact jag (thE (thE (ibE (wE G Z g))))
  rintro⟨⟩ Z K F;refine thN (jah F ?_);refine rg G ?_;cases Z;exact rt [] []
def ym2:MS ((List ByteArray)×ByteArray) Int:=mS yqj
theorem yv5:FnOK Tryz.prog tJ 141 ym2.S:=by
 refine fm tt ym2 [] call141 func141 rfl results141 ntmps141 ?_;rintro⟨c,d⟩ y cx G (Z:yqj c d=some y);unfold yqj at Z;refine rg G (jab (rg G (tF Z (fun _=>⟨[],[],32⟩) (fun a f Z=>?_) ?_)))
 ·refine jaa (lp G Z (fun v=>⟨[(0,dV c),(1,dV d),(5,dV v)],[],32⟩) ?_);rintro v b hb Z;rw[ye0]at Z;refine jab (rs G (hN 2 c h0) ?_);refine cd Z ?_ ?_<;>intro Z
  ·refine jae (thN (jab (jaa ?_)));obtain⟨e,h,Z⟩:=jaf Z;refine rs G (hD 2 h h0) ?_;refine cd Z ?_ ?_<;>intro Z
   ·refine rg G ?_;have Z:=eL Z hb f;cases Z;exact rt [] []
   ·exact jae (ibN (thN (rh G (wL G Z))))
  ·exact jag (thE (thE (ibE (wE G Z hb))))
 rintro⟨⟩ Z s g;refine thN (jah g ?_);refine rg G ?_;cases Z;exact rt [] []
def yib:MS (bK×Int) Bool:=mS yqi
theorem yv4:FnOK Tryz.prog tJ 142 yib.S:=by
 refine fm tt yib [fo yo1,fo ybn,fo yh9] call142 func142 rfl results142 ntmps142 ?_;rintro⟨x,p⟩ y cx G (Z:yqi x p=some y);unfold yqi at Z;refine rg G (jab ?_);obtain⟨r,h,Z⟩:=jaf Z;refine jn Z (fun v=>⟨[(1,dV p),(2,.ref 16 0),(27,dV v)],[oh 16 x],48⟩) (fun v Z=>?_) ?_
 ·rcases bf Z with⟨hb,Z⟩|⟨hb,Z⟩
  ·refine re G (hC 2 (yc0.c _ h) (hO 4 (.b true) (hP hb h0))) ?_;exact wJ G Z
  ·obtain⟨A,n,Z⟩:=jaf Z;rcases bf Z with⟨a,Z⟩|⟨a,Z⟩
   ·refine re G (hC 2 (yc0.c _ h) (hO 4 (.b false) (hP hb (hN 7 x.bq (hC 8 (ya3 n) (hO 11 (.b true) (hP a h0))))))) ?_;exact wJ G Z
   ·refine re G (hC 2 (yc0.c _ h) (hO 4 (.b false) (hP hb (hN 7 x.bq (hC 8 (ya3 n) (hO 11 (.b false) (hP a (hN 14 x.bY (hN 17 x.bq h0))))))))) ?_;exact wJ G Z
 rintro v Z;refine cd Z ?_ ?_<;>intro Z
 ·refine rg G ?_;cases Z;exact rt [] []
 ·refine jae (thN (jab (rg G (tF Z (fun _=>⟨[(2,.ref 16 0)],[oh 16 x],48⟩) (fun B F Z=>?_) ?_))))
  ·refine jaa (lp G Z (fun g=>⟨[(1,dV p),(2,.ref 16 0),(5,dV g)],[oh 16 x],48⟩) ?_);rintro g u e Z;rw[yex]at Z;refine jab (rs G (hN 3 x.bq h0) ?_);refine cd Z ?_ ?_<;>intro Z
   ·refine jae (thN (jab (jaa ?_)));obtain⟨C,o,D,q,Z⟩:=ob2 Z;refine jn Z (fun i=>⟨[(1,dV p),(2,.ref 16 0),(5,dV g),(54,dV i)],[oh 16 x],48⟩) (fun i Z=>?_) ?_
    ·rcases bf Z with⟨d,Z⟩|⟨d,Z⟩
     ·refine de G [] (hD 3 o (hC 7 (ya3 q) (hO 9 (.b true) (hP d h0)))) ?_;exact wJ G Z
     ·obtain⟨E,w,H,z,Z⟩:=ob2 Z;refine de G [] (hD 3 o (hC 7 (ya3 q) (hO 9 (.b false) (hP d (hD 14 w (hC 16 (yfu.c (_,_) z) h0)))))) ?_;exact wJ G Z
    rintro i Z;refine cd Z ?_ ?_<;>intro Z
    ·refine rg G ?_;have Z:=eL Z e F;cases Z;exact rt [] []
    ·exact jae (ibN (thN (rh G (wL G Z))))
   ·exact jag (thE (thE (ibE (wE G Z e))))
  rintro⟨⟩ Z s J;refine thN (jah J ?_);refine jab (rg G (tF Z (fun _=>⟨[],[],32⟩) (fun I j Z=>?_) ?_))
  ·refine jaa (lp G Z (fun t=>⟨[(2,.ref 16 0),(6,dV t)],[oh 16 x],48⟩) ?_);rintro t u f Z;rw[yew]at Z;refine jab (rs G (hN 3 x.bY h0) ?_);refine cd Z ?_ ?_<;>intro Z
   ·refine jae (thN (jab (jaa ?_)));obtain⟨K,k,L,l,Z⟩:=ob2 Z;refine rs G (hD 3 k (hC 5 (ya3 l) h0)) ?_;refine cd Z ?_ ?_<;>intro Z
    ·refine rg G ?_;have Z:=eL Z f j;cases Z;exact rt [] []
    ·exact jae (ibN (thN (rh G (wL G Z))))
   ·exact jag (thE (thE (ibE (wE G Z f))))
  rintro⟨⟩ Z M m;refine thN (jah m ?_);refine rg G ?_;cases Z;exact rt [] []
def yia:MS (bC×ByteArray) Int:=mS ym0
theorem Ko{n name y}(Z:ym0 n name=some y):yia.C (n,name) y:=yia.c (n,name) Z
theorem yv3:FnOK Tryz.prog tJ 143 yia.S:=by
 refine fm tt yia [] call143 func143 rfl results143 ntmps143 ?_;rintro⟨n,c⟩ y cx G (Z:ym0 n c=some y);unfold ym0 at Z;refine rg G (jab (rg G (tF Z (fun _=>⟨[],[],32⟩) (fun a d Z=>?_) ?_)))
 ·refine jaa (lp G Z (fun v=>⟨[(1,dV c),(2,.ref 16 0),(5,dV v)],[iT 16 n],48⟩) ?_);rintro v b hb Z;rw[yev]at Z;refine jab (rs G (hN 3 n.bG h0) ?_);refine cd Z ?_ ?_<;>intro Z
  ·refine jae (thN (jab (jaa ?_)));obtain⟨e,h,Z⟩:=jaf Z;refine rs G (hD 3 h h0) ?_;refine cd Z ?_ ?_<;>intro Z
   ·refine rg G ?_;have Z:=eL Z hb d;cases Z;exact rt [] []
   ·exact jae (ibN (thN (rh G (wL G Z))))
  ·exact jag (thE (thE (ibE (wE G Z hb))))
 rintro⟨⟩ Z s f;refine thN (jah f ?_);refine rg G ?_;cases Z;exact rt [] []
def yc1:MS bC Bool:=mR ym1
theorem yo2:FnOK Tryz.prog tJ 121 yc1.S:=by
 refine fm tt yc1 [fo ybn,fo yo1,fo yv5,fo yv4,fo yv3] call121 func121 rfl results121 ntmps121 ?_;rintro n y cx G (Z:ym1 n=some y);unfold ym1 at Z;refine rg G (jab ?_);obtain⟨r,h,Z⟩:=jaf Z;refine jn Z (fun v=>⟨[(1,.ref 16 0),(16,dV v)],[iT 16 n],48⟩) (fun v Z=>?_) ?_
 ·rcases bf Z with⟨hb,Z⟩|⟨hb,Z⟩
  ·refine re G (hN 2 n.bq (hC 3 (ya3 h) (hO 5 (.b true) (hP hb h0)))) ?_;exact wJ G Z
  ·obtain⟨E,z,Z⟩:=jaf Z;refine re G (hN 2 n.bq (hC 3 (ya3 h) (hO 5 (.b false) (hP hb (hN 8 n.bG (hC 9 (ya3 z) h0)))))) ?_;exact wJ G Z
 rintro v Z;refine cd Z ?_ ?_<;>intro Z
 ·refine rg G ?_;cases Z;exact rt [] []
 ·refine jae (thN (jab (rg G (tF Z (fun _=>⟨[(1,.ref 16 0)],[iT 16 n],48⟩) (fun H p Z=>?_) ?_))))
  ·refine jaa (lp G Z (fun i=>⟨[(1,.ref 16 0),(3,dV i)],[iT 16 n],48⟩) ?_);rintro i A e Z;rw[yez]at Z;refine jab (rs G (hN 3 n.bq h0) ?_);refine cd Z ?_ ?_<;>intro Z
   ·refine jae (thN (jab (jaa ?_)));obtain⟨I,w,K,x,Z⟩:=ob2 Z;refine jn Z (fun k=>⟨[(1,.ref 16 0),(3,dV i),(42,dV k)],[iT 16 n],48⟩) (fun k Z=>?_) ?_
    ·rcases bf Z with⟨a,Z⟩|⟨a,Z⟩
     ·refine de G [] (hD 3 w (hC 5 (yc0.c _ x) (hO 7 (.b true) (hP a h0)))) ?_;exact wJ G Z
     ·obtain⟨L,B,M,C,Z⟩:=ob2 Z;refine de G [] (hD 3 w (hC 5 (yc0.c _ x) (hO 7 (.b false) (hP a (hD 13 B (hC 15 (ym2.c (_,_) C) h0)))))) ?_;exact wJ G Z
    rintro k Z;refine cd Z ?_ ?_<;>intro Z
    ·refine rg G ?_;have Z:=eL Z e p;cases Z;exact rt [] []
    ·exact jae (ibN (thN (rh G (wL G Z))))
   ·exact jag (thE (thE (ibE (wE G Z e))))
  rintro⟨⟩ Z s F;refine thN (jah F ?_);refine jab (rg G (tF Z (fun _=>⟨[],[],32⟩) (fun N l Z=>?_) ?_))
  ·refine jaa (lp G Z (fun m=>⟨[(1,.ref 16 0),(4,dV m)],[iT 16 n],48⟩) ?_);rintro m A f Z;rw[yey]at Z;refine jab (rs G (hN 3 n.bG h0) ?_);refine cd Z ?_ ?_<;>intro Z
   ·refine jae (thN (jab (jaa ?_)));obtain⟨O,g,Q,j,Z⟩:=ob2 Z;refine jn Z (fun o=>⟨[(1,.ref 16 0),(4,dV m),(71,dV o)],[iT 16 n],48⟩) (fun o Z=>?_) ?_
    ·rcases bf Z with⟨d,Z⟩|⟨d,Z⟩
     ·refine de G [] (hD 3 g (hN 7 n.bq (hC 8 (yib.c (_,_) j) (hO 10 (.b true) (hP d h0))))) ?_;exact wJ G Z
     ·obtain⟨R,q,D,t,Z⟩:=ob2 Z;refine de G [] (hD 3 g (hN 7 n.bq (hC 8 (yib.c (_,_) j) (hO 10 (.b false) (hP d (hD 15 q (hC 18 (Ko t) h0))))))) ?_;exact wJ G Z
    rintro o Z;refine cd Z ?_ ?_<;>intro Z
    ·refine rg G ?_;have Z:=eL Z f l;cases Z;exact rt [] []
    ·exact jae (ibN (thN (rh G (wL G Z))))
   ·exact jag (thE (thE (ibE (wE G Z f))))
  rintro⟨⟩ Z T u;refine thN (jah u ?_);refine rg G ?_;cases Z;exact rt [] []
def yh6:MS Int Bool:=mR yge
theorem ycz{t y}(Z:yge t=some y):yh6.C t y:=yh6.c t Z
theorem yvz:FnOK Tryz.prog tJ 122 yh6.S:=by
 refine fm tt yh6 [fo ybn] call122 func122 rfl results122 ntmps122 ?_;rintro t y cx G (Z:yge t=some y);unfold yge at Z;refine rg G ?_;obtain⟨r,h,Z⟩:=jaf Z;refine rs G (hC 1 (ya3 h) h0) ?_;cases Z;exact rt [] []
def yh3:MS (bA×Int) bK:=mS yms
theorem yoy:FnOK Tryz.prog tJ 145 yh3.S:=by
 refine fm tt yh3 [] call145 func145 rfl results145 ntmps145 ?_;rintro⟨t,i⟩ y cx G (Z:yms t i=some y);unfold yms at Z;refine rg G ?_;obtain⟨c,a,d,b,Z⟩:=ob2 Z;refine ds G [(11,[32])] (hD 6 a (hD 9 b h0)) ?_;cases Z;exact rt [] []
def yfr:MS (bA×Int) (List Int):=mS yjw
theorem yox:FnOK Tryz.prog tJ 125 yfr.S:=by
 refine fm tt yfr [fo yoy] call125 func125 rfl results125 ntmps125 ?_;rintro⟨t,i⟩ y cx G (Z:yjw t i=some y);unfold yjw at Z;refine rg G ?_;obtain⟨r,h,Z⟩:=jaf Z;refine rs G (hC 2 (yh3.c (_,_) h) h0) ?_;cases Z;exact rt [] []
def yh7:MS (bK×Int×Int) Int:=⟨.x .r (.x .r .r),fun x=>yjx x.1 x.2.1 x.2.2,fun y=>dV y,fun _=>[],fun _ _=>[]⟩
theorem Kr{x from_ to_ y}(Z:yjx x from_ to_=some y):yh7.C (x,from_,to_) y:=yh7.c (x,from_,to_) Z
theorem yv0:FnOK Tryz.prog tJ 171 yh7.S:=by
 refine fm tt yh7 [] call171 func171 rfl results171 ntmps171 ?_;rintro⟨x,d,f⟩ y cx G (Z:yjx x d f=some y);unfold yjx at Z;refine rg G (rg G (jab (rg G (tl Z (fun a=>⟨[(7,dV a)],[],32⟩) (fun a Z=>?_) ?_))))
 ·refine jaa (lp G Z (fun(v,b)=>⟨[(2,dV f),(3,.ref 16 0),(7,dV v),(8,dV b)],[oh 16 x],48⟩) ?_);rintro⟨v,b⟩ c hb Z;rw[yh8]at Z;refine jab (rg G (cd Z ?_ ?_))<;>intro Z
  ·refine jae (thN (jab (jaa ?_)));obtain⟨e,h,Z⟩:=jaf Z;refine re G (hD 4 h h0) ?_;exact ibN (thN (rh G (wL G Z)))
  ·exact jag (thE (thE (ibE (wD G Z hb))))
 rintro a Z s g;refine thN (jah g ?_);refine rg G ?_;cases Z;exact rt [] []
def ymu:MS (bA×Int×Int) Int:=⟨.x .r (.x .r .r),fun x=>yqh x.1 x.2.1 x.2.2,fun y=>dV y,fun _=>[],fun _ _=>[]⟩
theorem yvy:FnOK Tryz.prog tJ 144 ymu.S:=by
 refine fm tt ymu [fo yoy,fo yv0] call144 func144 rfl results144 ntmps144 ?_;rintro⟨t,i,k⟩ y cx G (Z:yqh t i k=some y);unfold yqh at Z;refine rg G ?_;obtain⟨e,a,f,b,g,d,Z⟩:=ob3 Z;refine ds G [] (hD 3 a (hC 8 (yh3.c (_,_) b) (hC 10 (Kr d) h0))) ?_;cases Z;exact rt [] []
def ycy:MS (bA×Int) Int:=mS yft
theorem yh5:FnOK Tryz.prog tJ 123 ycy.S:=by
 refine fm tt ycy [fo yox,fo yvy] call123 func123 rfl results123 ntmps123 ?_;rintro⟨t,i⟩ y cx G (Z:yft t i=some y);unfold yft at Z;refine rg G ?_;obtain⟨a,b,e,d,Z⟩:=ob2 Z;refine ds G [] (hC 4 (yfr.c (_,_) b) (hN 5 a (hC 7 (ymu.c (_,_,_) d) h0))) ?_;cases Z;exact rt [] []
def yfs:MS bA Bool:=mR ymt
theorem yoz:FnOK Tryz.prog tJ 73 yfs.S:=by
 refine fm tt yfs [fo yo2,fo ybn,fo yvz,fo yh5] call73 func73 rfl results73 ntmps73 ?_;rintro t y cx G (Z:ymt t=some y);unfold ymt at Z;refine rg G (jab ?_);obtain⟨r,h,Z⟩:=jaf Z;refine jn Z (fun v=>⟨[(1,.ref 16 0),(14,dV v)],[cu 16 t],48⟩) (fun v Z=>?_) ?_
 ·rcases bf Z with⟨hb,Z⟩|⟨hb,Z⟩
  ·refine re G (hC 2 (yc1.c _ h) (hO 4 (.b true) (hP hb h0))) ?_;exact wJ G Z
  ·refine re G (hC 2 (yc1.c _ h) (hO 4 (.b false) (hP hb (hN 7 t.bn h0)))) ?_;exact wJ G Z
 rintro v Z;refine cd Z ?_ ?_<;>intro Z
 ·refine rg G ?_;cases Z;exact rt [] []
 ·refine jae (thN (jab (rg G (tF Z (fun _=>⟨[],[],32⟩) (fun A p Z=>?_) ?_))))
  ·refine jaa (lp G Z (fun x=>⟨[(1,.ref 16 0),(3,dV x)],[cu 16 t],48⟩) ?_);rintro x B n Z;rw[yh4]at Z;refine jab (rs G (hN 3 t.bn h0) ?_);refine cd Z ?_ ?_<;>intro Z
   ·refine jae (thN (jab (jaa ?_)));obtain⟨e,w,Z⟩:=jaf Z;refine rs G (hD 3 w h0) ?_;obtain⟨C,m,Z⟩:=jaf Z;refine jn Z (fun q=>⟨[(1,.ref 16 0),(3,dV x),(70,dV q)],[cu 16 t],48⟩) (fun q Z=>?_) ?_
    ·rcases bf Z with⟨a,Z⟩|⟨a,Z⟩
     ·refine de G [] (hC 2 (ya3 m) (hO 4 (.b true) (hP a h0))) ?_;exact wJ G Z
     ·obtain⟨D,o,Z⟩:=jaf Z;rcases bf Z with⟨d,Z⟩|⟨d,Z⟩
      ·refine de G [] (hC 2 (ya3 m) (hO 4 (.b false) (hP a (hN 10 t.bC.bG (hC 12 (ya3 o) (hO 15 (.b true) (hP d h0))))))) ?_;exact wJ G Z
      ·obtain⟨E,g,Z⟩:=jaf Z;rcases bf Z with⟨f,Z⟩|⟨f,Z⟩
       ·refine de G [] (hC 2 (ya3 m) (hO 4 (.b false) (hP a (hN 10 t.bC.bG (hC 12 (ya3 o) (hO 15 (.b false) (hP d (hC 18 (ycz g) (hO 21 (.b true) (hP f h0)))))))))) ?_;exact wJ G Z
       ·obtain⟨H,j,z,k,Z⟩:=ob2 Z;rcases bf Z with⟨i,Z⟩|⟨i,Z⟩
        ·refine de G [] (hC 2 (ya3 m) (hO 4 (.b false) (hP a (hN 10 t.bC.bG (hC 12 (ya3 o) (hO 15 (.b false) (hP d (hC 18 (ycz g) (hO 21 (.b false) (hP f (hC 24 (ycy.c (_,_) j) (hC 25 (ycz k) (hO 28 (.b true) (hP i h0)))))))))))))) ?_;exact wJ G Z
        ·rcases bf Z with⟨l,Z⟩|⟨l,Z⟩
         ·obtain⟨I,u,Z⟩:=jaf Z;refine de G [] (hC 2 (ya3 m) (hO 4 (.b false) (hP a (hN 10 t.bC.bG (hC 12 (ya3 o) (hO 15 (.b false) (hP d (hC 18 (ycz g) (hO 21 (.b false) (hP f (hC 24 (ycy.c (_,_) j) (hC 25 (ycz k) (hO 28 (.b false) (hP i (hO 31 (.b true) (hP l (hD 36 u h0))))))))))))))))) ?_;exact wJ G Z
         ·refine de G [] (hC 2 (ya3 m) (hO 4 (.b false) (hP a (hN 10 t.bC.bG (hC 12 (ya3 o) (hO 15 (.b false) (hP d (hC 18 (ycz g) (hO 21 (.b false) (hP f (hC 24 (ycy.c (_,_) j) (hC 25 (ycz k) (hO 28 (.b false) (hP i (hO 31 (.b false) (hP l h0)))))))))))))))) ?_;exact wJ G Z
    rintro q Z;refine cd Z ?_ ?_<;>intro Z
    ·refine rg G ?_;have Z:=eL Z n p;cases Z;exact rt [] []
    ·exact jae (ibN (thN (rh G (wL G Z))))
   ·exact jag (thE (thE (ibE (wE G Z n))))
  rintro⟨⟩ Z s F;refine thN (jah F ?_);refine rg G ?_;cases Z;exact rt [] []
def yrz:MS (bC×bL) Bool:=mS zq65
theorem yx4:FnOK Tryz.prog tJ 74 yrz.S:=by
 refine fm tt yrz [fo yo2,fo ybn] call74 func74 rfl results74 ntmps74 ?_;rintro⟨n,f⟩ y cx G (Z:zq65 n f=some y);unfold zq65 at Z;refine rg G (jab ?_);obtain⟨r,h,Z⟩:=jaf Z;refine jn Z (fun v=>⟨[(2,.ref 16 0),(3,.ref 32 0),(24,dV v)],[iT 16 n,dI 32 f],64⟩) (fun v Z=>?_) ?_
 ·rcases bf Z with⟨hb,Z⟩|⟨hb,Z⟩
  ·refine re G (hC 1 (yc1.c _ h) (hO 3 (.b true) (hP hb h0))) ?_;exact wJ G Z
  ·rcases bf Z with⟨a,Z⟩|⟨a,Z⟩
   ·refine re G (hC 1 (yc1.c _ h) (hO 3 (.b false) (hP hb (hN 6 f.dR (hN 9 n.bq (hO 12 (.b true) (hP a h0))))))) ?_;exact wJ G Z
   ·obtain⟨E,w,Z⟩:=jaf Z;refine re G (hC 1 (yc1.c _ h) (hO 3 (.b false) (hP hb (hN 6 f.dR (hN 9 n.bq (hO 12 (.b false) (hP a (hC 15 (ya3 w) h0)))))))) ?_;exact wJ G Z
 rintro v Z;refine cd Z ?_ ?_<;>intro Z
 ·refine rg G ?_;cases Z;exact rt [] []
 ·refine jae (thN (jab (rg G (tF Z (fun _=>⟨[],[],32⟩) (fun H p Z=>?_) ?_))))
  ·refine jaa (lp G Z (fun g=>⟨[(2,.ref 16 0),(3,.ref 32 0),(5,dV g)],[iT 16 n,dI 32 f],64⟩) ?_);rintro g x d Z;rw[ylg]at Z;refine jab (rs G (hN 3 f.dR h0) ?_);refine cd Z ?_ ?_<;>intro Z
   ·refine jae (thN (jab (jaa (jab ?_))));obtain⟨q,t,Z⟩:=jaf Z;refine jn Z (fun j=>⟨[(2,.ref 16 0),(3,.ref 32 0),(5,dV g),(52,dV j)],[iT 16 n,dI 32 f],64⟩) (fun j Z=>?_) ?_
    ·rcases bf Z with⟨e,Z⟩|⟨e,Z⟩
     ·refine de G [] (hD 3 t (hN 5 q (hN 8 n.bq (hO 10 (.b true) (hP e h0))))) ?_;exact wJ G Z
     ·obtain⟨I,z,K,A,Z⟩:=ob2 Z;refine de G [] (hD 3 t (hN 5 q (hN 8 n.bq (hO 10 (.b false) (hP e (hD 14 z (hD 17 A h0))))))) ?_;exact wJ G Z
    rintro j Z;refine cd Z ?_ ?_<;>intro Z
    ·refine rg G ?_;have Z:=eL Z d p;cases Z;exact rt [] []
    ·refine jae (thN (rg G (tF Z (fun _=>⟨[(2,.ref 16 0),(3,.ref 32 0),(5,dV g)],[iT 16 n,dI 32 f],64⟩) (fun L k Z=>?_) ?_)))
     ·refine jaa (lp G Z (fun u=>⟨[(2,.ref 16 0),(3,.ref 32 0),(5,dV g),(6,dV u)],[iT 16 n,dI 32 f],64⟩) ?_);rintro u x i Z;rw[yhb]at Z;refine jab ?_;obtain⟨B,C,Z⟩:=jaf Z;refine rs G (hD 4 C (hN 6 B h0)) ?_;refine cd Z ?_ ?_<;>intro Z
      ·refine jae (thN (jab (jaa ?_)));obtain⟨M,D,N,l,O,m,Z⟩:=ob3 Z;refine rs G (hD 3 D (hD 6 l (hC 8 (ya3 m) h0))) ?_;refine cd Z ?_ ?_<;>intro Z
       ·refine rg G ?_;have Z:=eL Z i k;have Z:=eL Z d p;cases Z;exact rt [] []
       ·exact jae (ibN (thN (rh G (wL G Z))))
      ·exact jag (thE (thE (ibE (wE G Z i))))
     rintro⟨⟩ Z s F;refine ibN (thN (jah F ?_));exact rh G (wL G Z)
   ·exact jag (thE (thE (ibE (wE G Z d))))
  rintro⟨⟩ Z Q o;refine thN (jah o ?_);refine rg G ?_;cases Z;exact rt [] []
def ygl:MS (bA×bL) Bool:=mS zq60
theorem yr3:FnOK Tryz.prog tJ 37 ygl.S:=by
 refine fm tt ygl [fo yoz,fo yx4] call37 func37 rfl results37 ntmps37 ?_;rintro⟨t,f⟩ y cx G (Z:zq60 t f=some y);unfold zq60 at Z;refine rg G ?_;obtain⟨r,h,Z⟩:=jaf Z;refine jn Z (fun v=>⟨[(4,dV v)],[],32⟩) (fun v Z=>?_) ?_
 ·rcases bf Z with⟨hb,Z⟩|⟨hb,Z⟩
  ·obtain⟨d,a,Z⟩:=jaf Z;refine re G (hC 1 (yfs.c _ h) (hO 2 (.b true) (hP hb (hC 6 (yrz.c (_,_) a) h0)))) ?_;exact wJ G Z
  ·refine re G (hC 1 (yfs.c _ h) (hO 2 (.b false) (hP hb h0))) ?_;exact wJ G Z
 rintro v Z;cases Z;exact rt [] []
def yn9:MS (bA×bL×Int×Int) Int:=⟨.x .r (.x .r (.x .r .r)),fun x=>zq64 x.1 x.2.1 x.2.2.1 x.2.2.2,fun y=>dV y,fun _=>[],fun _ _=>[]⟩
theorem yn8{t f a b y}(Z:zq64 t f a b=some y):yn9.C (t,f,a,b) y:=yn9.c (t,f,a,b) Z
theorem yhc:FnOK Tryz.prog tJ 77 yn9.S:=by
 refine fm tt yn9 [fo yox] call77 func77 rfl results77 ntmps77 ?_;rintro⟨t,f,a,b⟩ y cx G (Z:zq64 t f a b=some y);unfold zq64 at Z;refine rg G ?_;obtain⟨g,h,l,i,Z⟩:=ob2 Z;refine ds G [] (hC 2 (yfr.c (_,_) h) (hC 5 (yfr.c (_,_) i) h0)) ?_;obtain⟨m,j,n,k,o,d,Z⟩:=ob3 Z;obtain⟨q,e,Z⟩:=jaf Z;refine ds G [] (hN 4 g (hD 6 j (hD 8 k (hD 11 d (hD 13 e h0))))) ?_;cases Z;exact rt [] []
def yn7:MS (bA×bL×Int×Int) Bool:=⟨.x .r (.x .r (.x .r .r)),fun x=>zq66 x.1 x.2.1 x.2.2.1 x.2.2.2,fun y=>dV y,fun _=>[],fun _ _=>[]⟩
theorem yn6{t f a b y}(Z:zq66 t f a b=some y):yn7.C (t,f,a,b) y:=yn7.c (t,f,a,b) Z
theorem ylf:FnOK Tryz.prog tJ 76 yn7.S:=by
 refine fm tt yn7 [fo yh5,fo yhc] call76 func76 rfl results76 ntmps76 ?_;rintro⟨t,f,a,b⟩ y cx G (Z:zq66 t f a b=some y);unfold zq66 at Z;refine rg G (jn Z (fun v=>⟨[(8,dV v)],[],32⟩) (fun v Z=>?_) ?_)
 ·rcases bf Z with⟨hb,Z⟩|⟨hb,Z⟩
  ·obtain⟨h,d,i,e,j,g,Z⟩:=ob3 Z;refine de G [] (hO 3 (.b true) (hP hb (hD 7 d (hC 12 (ycy.c (_,_) e) (hC 20 (yn8 g) h0))))) ?_;exact wJ G Z
  ·refine de G [] (hO 3 (.b false) (hP hb h0)) ?_;exact wJ G Z
 rintro v Z;cases Z;exact rt [] []
def yil:MS (Int×Int) Int:=mS yj2
theorem ypa:FnOK Tryz.prog tJ 124 yil.S:=by
 refine fm tt yil [] call124 func124 rfl results124 ntmps124 ?_;rintro⟨a,b⟩ y cx G (Z:yj2 a b=some y);unfold yj2 at Z;refine rg G (jab (rg G (cd Z ?_ ?_)))<;>intro Z
 ·refine rg G ?_;cases Z;exact rt [] []
 ·refine jae (thN (rg G ?_));cases Z;exact rt [] []
def ycw(a:kr->Int->Int->Option (Int×(List (List Int)))):MS (kr×Int×Int) (Int×(List (List Int))):=⟨⟨[.bo 1,.rd,.rd],fun x=>[.sc undef,Enc.e x.2.1,Enc.e x.2.2],fun x=>[.box 119 [dV x.1.t_.bC.bq,dV x.1.t_.bC.bG,dV x.1.t_.bn,dV x.1.f_.dR,dV x.1.f_.gV,.own 1],taO 53 [some 3] x.1.iG],2,2,fun _=>rfl,fun _=>rfl,rfl,(by
  rintro⟨b,c,d⟩ ⟨b0,f,g⟩ h hO;have i:b=b0:=Enc.inj _ _ (congrArg D.agg (jbc (congrArg (fun l=>obC l 0 0) hO) (jbc (congrArg (fun l=>obC l 0 1) hO) (jbc (congrArg (fun l=>obC l 0 2) hO) (jbc (congrArg (fun l=>obC l 0 3) hO) (jbc (congrArg (fun l=>obC l 0 4) hO) (jbc (congrArg (fun l=>D.sl 1 (obL l 1)) hO) rfl)))))));have q1:c=f:=qI 1 h;have j:d=g:=qI 2 h;subst i;subst q1;subst j;rfl)⟩,fun x=>a x.1 x.2.1 x.2.2,fun y=>dV y.1,fun _=>[],fun x y=>[.box 119 [dV x.1.t_.bC.bq,dV x.1.t_.bC.bG,dV x.1.t_.bn,dV x.1.f_.dR,dV x.1.f_.gV,.own 1],taO 53 [some 3] y.2]⟩
def yn5:MS (kr×Int×Int) (Int×(List (List Int))):=ycw zq68
theorem yrx{a:kr->Int->Int->Option (Int×(List (List Int)))}{x i used y}(Z:a x i used=some y):(ycw a).C (x,i,used) y:=(ycw a).c (x,i,used) Z
theorem yu1{F:kr->Int->Int->Option (Int×(List (List Int)))}(J:FnOK Tryz.prog tJ 75 (ycw F).S):FnOK Tryz.prog tJ 75 (ycw (yfg F)).S:=by
 refine fm tt (ycw (yfg F)) [foK J [0] (fun _ _=>rfl) (fun _ _=>rfl),fo ylf,fo yhc,fo ypa] call75 func75 rfl results75 ntmps75 ?_;rintro⟨x,i,p⟩ y cx G (Z:yfg F x i p=some y);unfold yfg at Z;refine rg G (rs G (hN 5 x.t_.bn h0) ?_);refine jab (rg G (cd Z ?_ ?_))<;>intro Z
 ·refine rg G ?_;cases Z;exact rt [] []
 ·refine jae (thN (jab ?_));obtain⟨e,h,E,z,Z⟩:=ob2 Z;refine rs G (hD 5 h (hE 6 h (hE 8 h (hP (jkc (f:=Enc.e) z) (hO 9 (.d2 (Enc.e e) (Enc.e E)) (hP (jbo (f:=Enc.e) h) (hP (jbo (f:=Enc.e) z) h0))))))) ?_;refine cd Z ?_ ?_<;>intro Z
  ·obtain⟨O,H,I,A,Z⟩:=ob2 Z;refine rs G (hD 5 H (hE 6 h (hE 8 h (hP (jkc (f:=Enc.e) A) (hO 9 (.d2 (Enc.e e) (Enc.e I)) (hP (jbo (f:=Enc.e) h) (hP (jbo (f:=Enc.e) A) h0))))))) ?_;cases Z;exact rt [] []
  ·refine jae (thN ?_);obtain⟨r,K,Z⟩:=jaf Z;refine rs G (hC 4 (yrx K) h0) ?_;refine jab (rg G (tl Z (fun(g,l)=>⟨[(0,.ref 0 0),(1,dV i),(2,dV p),(8,dV g)],[bX 0 119 [dV x.t_.bC.bq,dV x.t_.bC.bG,dV x.t_.bn,dV x.f_.dR,dV x.f_.gV,.own 1],tX 1 53 [some 3] l 1 none],48⟩) (fun L Z=>?_) ?_))
   ·refine jaa (lp G Z (fun(v,m,n)=>⟨[(0,.ref 0 0),(1,dV i),(2,dV p),(7,dV (x.t_.bn.length:Int)),(8,dV v),(9,dV m)],[bX 0 119 [dV x.t_.bC.bq,dV x.t_.bC.bG,dV x.t_.bn,dV x.f_.dR,dV x.f_.gV,.own 1],tX 1 53 [some 3] n 1 none],48⟩) ?_);rintro⟨v,m,n⟩ Q hb Z;rw[yle]at Z;refine jab (rg G (cd Z ?_ ?_))<;>intro Z
    ·refine jae (thN (jn Z (fun(B,C)=>⟨[(0,.ref 0 0),(1,dV i),(2,dV p),(7,dV (x.t_.bn.length:Int)),(8,dV B),(9,dV m)],[bX 0 119 [dV x.t_.bC.bq,dV x.t_.bC.bG,dV x.t_.bn,dV x.f_.dR,dV x.f_.gV,.own 1],tX 1 53 [some 3] C 1 none],48⟩) (fun Y Z=>?_) ?_))
     ·refine jaa ?_;obtain⟨R,D,Z⟩:=jaf Z;refine jn Z (fun o=>⟨[(0,.ref 0 0),(1,dV i),(2,dV p),(7,dV (x.t_.bn.length:Int)),(8,dV v),(9,dV m),(69,dV o)],[bX 0 119 [dV x.t_.bC.bq,dV x.t_.bC.bG,dV x.t_.bn,dV x.f_.dR,dV x.f_.gV,.own 1],tX 1 53 [some 3] n 1 none],48⟩) (fun o Z=>?_) ?_
      ·rcases bf Z with⟨d,Z⟩|⟨d,Z⟩
       ·obtain⟨T,M,Z⟩:=jaf Z;refine de G [] (hK D (hO 6 (.b true) (hP d (hC 17 (yn6 M) h0)))) ?_;exact wJ G Z
       ·refine de G [] (hK D (hO 6 (.b false) (hP d h0))) ?_;exact wJ G Z
      rintro o Z;refine cd Z ?_ ?_<;>intro Z
      ·obtain⟨U,q,V,t,W,u,Z⟩:=ob3 Z;obtain⟨X,w,Z⟩:=jaf Z;refine de G [(20,[1])] (hC 11 (yn8 q) (hK t (hC 20 (yrx u) (hC 22 (yil.c (_,_) w) h0)))) ?_;exact ibN (wJ G Z)
      ·exact jae (ibN (wJ G Z))
     rintro⟨B,C⟩ Z;exact rh G (wL G Z)
    ·exact jag (thE (thE (ibE (wD G Z hb))))
   rintro⟨g,l⟩ Z s P;refine thN (jah P ?_);obtain⟨j,a,N,k,Z⟩:=ob2 Z;refine rs G (hD 5 a (hE 6 a (hE 9 a (hP (jkc (f:=Enc.e) k) (hO 10 (.sd2 (Enc.e j) (Enc.e N) (List.map Enc.e (j.set p.toNat g)) (List.map Enc.e (l.set i.toNat (j.set p.toNat g)))) (hP (jbo (f:=Enc.e) a) (hP (jbo (f:=Enc.e) k) (hP (je1 Enc.e j p.toNat g) (hP (je1 Enc.e l i.toNat (j.set p.toNat g)) h0))))))))) ?_;refine rg G ?_;cases Z;exact rt [] []
theorem yn4:∀k,FnOK Tryz.prog tJ 75 (ycw (yjp k)).S
 |0=>⟨fun args w=>call75 args w,fun vs w F ds obs κ a=>by obtain⟨x,y,_,_,h⟩:=a;cases h⟩
 |k+1=>yu1 (yn4 k)
theorem yx2:FnOK Tryz.prog tJ 75 yn5.S:=yn4 4294967296
def yr2:MS (bA×bL) (List Int):=⟨.x .r .r,fun x=>zq61 x.1 x.2,fun _=>.own 0,fun y=>[arO 3 y],fun _ _=>[]⟩
theorem yx7:FnOK Tryz.prog tJ 39 yr2.S:=by
 refine fm tt yr2 [fo yx2,fo ylf,fo yhc] call39 func39 rfl results39 ntmps39 ?_;rintro⟨t,f⟩ y cx G (Z:zq61 t f=some y);unfold zq61 at Z;refine rg G (rs G (hN 2 t.bn h0) ?_);refine rg G (jab (rg G (tl Z (fun A=>⟨[(2,.ref 16 0),(3,.ref 32 0),(5,dV (t.bn.length:Int)),(6,.ref 48 0)],[cu 16 t,dI 32 f,bX 48 119 [dV t.bC.bq,dV t.bC.bG,dV t.bn,dV f.dR,dV f.gV,.own 64],tX 64 53 [some 3] A 64 none],96⟩) (fun A Z=>?_) ?_)))
 ·refine jaa (lpP Z (fun(k,v)=>⟨[(2,.ref 16 0),(3,.ref 32 0),(5,dV (t.bn.length:Int)),(6,.ref 48 0),(7,dV k)],[cu 16 t,dI 32 f,bX 48 119 [dV t.bC.bq,dV t.bC.bG,dV t.bn,dV f.dR,dV f.gV,.own 64],tX 64 53 [some 3] v 64 none],96⟩) (Wk_J G.hL ⟨[(2,[]),(3,[]),(5,[]),(6,[]),(7,[])],[(16,16,[]),(32,32,[]),(48,176,[.k,.k,.k,.k,.k,.o 64])],[(64,53,1,[some 3])],96⟩ (by kernel_rfl)) ?_);rintro⟨k,v⟩ B hb Z;rw[ylk]at Z;refine jab (rg G (cd Z ?_ ?_))<;>intro Z
  ·refine jae (thN (jab (jaa ?_)));obtain⟨u,h,u1,h1,Z⟩:=ob2 Z;refine rs G (hK h (hO 3 (.l (List.map Enc.e (List.replicate (w64 (1*2^(min ((IntKind.u64.wrap ((t.bn.length:Int))):Int).toNat (IntKind.i64).bits))).toNat (0:Int)))) (hP (mk_p (b:=8) (ku h1) rfl) (hP (jma Enc.e (w64 (1*2^(min ((IntKind.u64.wrap ((t.bn.length:Int))):Int).toNat (IntKind.i64).bits))).toNat (0:Int)) h0)))) ?_;refine jab (rg G (tl Z (fun J=>⟨[(2,.ref 16 0),(3,.ref 32 0),(5,dV (t.bn.length:Int)),(6,.ref 48 0),(7,dV k),(8,.own 64)],[cu 16 t,dI 32 f,bX 48 119 [dV t.bC.bq,dV t.bC.bG,dV t.bn,dV f.dR,dV f.gV,.own 80],aX 64 3 J,tX 80 53 [some 3] v 80 none],112⟩) (fun J Z=>?_) ?_))
   ·refine jaa (lp G Z (fun(aa,out)=>⟨[(2,.ref 16 0),(3,.ref 32 0),(5,dV (t.bn.length:Int)),(6,.ref 48 0),(7,dV k),(8,.own 64),(9,dV aa)],[cu 16 t,dI 32 f,bX 48 119 [dV t.bC.bq,dV t.bC.bG,dV t.bn,dV f.dR,dV f.gV,.own 80],aX 64 3 out,tX 80 53 [some 3] v 80 none],112⟩) ?_);rintro⟨aa,out⟩ B C Z;rw[yll]at Z;refine jab (rs G (hN 2 out h0) ?_);refine cd Z ?_ ?_<;>intro Z
    ·refine jae (thN (jab (jaa ?_)));obtain⟨e,U,Z⟩:=jaf Z;refine re G (hD 2 U (hS 3 U (-1) h0)) ?_;exact ibN (thN (rh G (wL G Z)))
    ·exact jag (thE (thE (ibE (wD G Z C))))
   rintro J Z s hw;refine thN (jah hw ?_);obtain⟨u2,h3,Z⟩:=jaf Z;refine re G (hP (jbn (l:=[64]) rfl) (hA 7 24 h3 h0)) ?_;exact ibN (thN (rh G (wL G Z)))
  ·exact jag (thE (thE (ibE (wD G Z hb))))
 rintro A Z s1 D;refine thN (jah D ?_);refine rg G (rg G (jab (rg G (tl Z (fun E=>⟨[(10,.own 16)],[aX 16 3 E],48⟩) (fun E Z=>?_) ?_))))
 ·refine jaa (lp G Z (fun(F,p,i,V)=>⟨[(2,.ref 16 0),(3,.ref 32 0),(5,dV (t.bn.length:Int)),(6,.ref 48 0),(10,.own 64),(11,dV F),(12,dV p)],[cu 16 t,dI 32 f,bX 48 119 [dV t.bC.bq,dV t.bC.bG,dV t.bn,dV f.dR,dV f.gV,.own 80],aX 64 3 i,tX 80 53 [some 3] V 80 none],112⟩) ?_);rintro⟨F,p,i,V⟩ B H Z;rw[yli]at Z;refine jab (rg G (cd Z ?_ ?_))<;>intro Z
  ·refine jae (thN (jab (jaa ?_)));obtain⟨r,h4,Z⟩:=jaf Z;refine rs G (hC 3 (yn5.c (_,_,_) h4) h0) ?_;refine rg G (jn Z (fun(P,W,X)=>⟨[(2,.ref 16 0),(3,.ref 32 0),(5,dV (t.bn.length:Int)),(6,.ref 48 0),(10,.own 64),(11,dV P),(12,dV p),(14,dV W)],[cu 16 t,dI 32 f,bX 48 119 [dV t.bC.bq,dV t.bC.bG,dV t.bn,dV f.dR,dV f.gV,.own 80],aX 64 3 i,tX 80 53 [some 3] X 80 none],112⟩) (fun ad Z=>?_) ?_)
   ·obtain⟨r1,h5,Z⟩:=jaf Z;refine rs G (hC 4 (yn5.c (_,_,_) h5) h0) ?_;refine cd Z ?_ ?_<;>intro Z
    ·refine jab (rg G (tl Z (fun(j,m)=>⟨[(2,.ref 16 0),(3,.ref 32 0),(5,dV (t.bn.length:Int)),(6,.ref 48 0),(10,.own 64),(11,dV F),(12,dV p),(14,dV j)],[cu 16 t,dI 32 f,bX 48 119 [dV t.bC.bq,dV t.bC.bG,dV t.bn,dV f.dR,dV f.gV,.own 80],aX 64 3 i,tX 80 53 [some 3] m 80 none],112⟩) (fun ac Z=>?_) ?_))
     ·refine jaa (lp G Z (fun(z,n,I)=>⟨[(2,.ref 16 0),(3,.ref 32 0),(5,dV (t.bn.length:Int)),(6,.ref 48 0),(10,.own 64),(11,dV F),(12,dV p),(13,dV r.1),(14,dV z),(15,dV n)],[cu 16 t,dI 32 f,bX 48 119 [dV t.bC.bq,dV t.bC.bG,dV t.bn,dV f.dR,dV f.gV,.own 80],aX 64 3 i,tX 80 53 [some 3] I 80 none],112⟩) ?_);rintro⟨z,n,I⟩ B K Z;rw[ylj]at Z;refine jab (jn Z (fun L=>⟨[(2,.ref 16 0),(3,.ref 32 0),(5,dV (t.bn.length:Int)),(6,.ref 48 0),(10,.own 64),(11,dV F),(12,dV p),(13,dV r.1),(14,dV z),(15,dV n),(75,dV L)],[cu 16 t,dI 32 f,bX 48 119 [dV t.bC.bq,dV t.bC.bG,dV t.bn,dV f.dR,dV f.gV,.own 80],aX 64 3 i,tX 80 53 [some 3] I 80 none],112⟩) (fun L Z=>?_) ?_)
      ·rcases bf Z with⟨d,Z⟩|⟨d,Z⟩
       ·refine re G (hO 3 (.b true) (hP d h0)) ?_;exact wJ G Z
       ·refine re G (hO 3 (.b false) (hP d h0)) ?_;exact wJ G Z
      rintro L Z;refine cd Z ?_ ?_<;>intro Z
      ·refine jae (thN (jn Z (fun(Y,q)=>⟨[(2,.ref 16 0),(3,.ref 32 0),(5,dV (t.bn.length:Int)),(6,.ref 48 0),(10,.own 64),(11,dV F),(12,dV p),(13,dV r.1),(14,dV Y),(15,dV n)],[cu 16 t,dI 32 f,bX 48 119 [dV t.bC.bq,dV t.bC.bG,dV t.bn,dV f.dR,dV f.gV,.own 80],aX 64 3 i,tX 80 53 [some 3] q 80 none],112⟩) (fun ab Z=>?_) ?_))
       ·refine jaa ?_;obtain⟨u3,M,Z⟩:=jaf Z;refine jn Z (fun(w,x)=>⟨[(2,.ref 16 0),(3,.ref 32 0),(5,dV (t.bn.length:Int)),(6,.ref 48 0),(10,.own 64),(11,dV F),(12,dV p),(13,dV r.1),(14,dV z),(15,dV n),(109,dV w)],[cu 16 t,dI 32 f,bX 48 119 [dV t.bC.bq,dV t.bC.bG,dV t.bn,dV f.dR,dV f.gV,.own 80],aX 64 3 i,tX 80 53 [some 3] x 80 none],112⟩) (fun vv Z=>?_) ?_
        ·rcases bf Z with⟨a,Z⟩|⟨a,Z⟩
         ·obtain⟨r2,h7,Z⟩:=jaf Z;rcases bf Z with⟨g,Z⟩|⟨g,Z⟩
          ·obtain⟨r3,h8,u4,h9,r4,N,Z⟩:=ob3 Z;refine re G (hK M (hO 6 (.b true) (hP a (hC 11 (yn6 h7) (hO 13 (.b true) (hP g (hC 18 (yn8 h8) (hK h9 (hC 27 (yn5.c (_,_,_) N) h0))))))))) ?_;exact wJ G Z
          ·refine re G (hK M (hO 6 (.b true) (hP a (hC 11 (yn6 h7) (hO 13 (.b false) (hP g h0)))))) ?_;exact wJ G Z
         ·refine re G (hK M (hO 6 (.b false) (hP a h0))) ?_;exact wJ G Z
        rintro⟨w,x⟩ Z;refine cd Z ?_ ?_<;>intro Z
        ·exact rh G (ibN (wJ G Z))
        ·exact jae (ibN (wJ G Z))
       rintro⟨Y,q⟩ Z;exact rh G (wL G Z)
      ·exact jag (thE (thE (ibE (wD G Z K))))
     rintro⟨j,m⟩ Z s2 O;refine thN (jah O ?_);obtain⟨u5,Q,Z⟩:=jaf Z;refine re G (hK Q h0) ?_;exact wJ G Z
    ·exact jae (wJ G Z)
   rintro⟨P,W,X⟩ Z;obtain⟨u6,R,Z⟩:=jaf Z;refine re G (hA 3 8 R h0) ?_;exact ibN (thN (rh G (wL G Z)))
  ·exact jag (thE (thE (ibE (wD G Z H))))
 rintro E Z s3 T;refine thN (jah T ?_);refine rg G ?_;cases Z;exact rt [16] []
def yr0:MS (bA×(List Int)) ((List (List Int))):=⟨.x .r (.s 3),fun x=>zq63 x.1 x.2,fun _=>.own 0,fun y=>[arO 53 y],fun x _=>[arO 3 x.2]⟩
theorem yx5:FnOK Tryz.prog tJ 38 yr0.S:=by
 refine fm tt yr0 [] call38 func38 rfl results38 ntmps38 ?_;rintro⟨t,p⟩ y cx G (Z:zq63 t p=some y);unfold zq63 at Z;refine rg G (rg G (jab (rg G (tl Z (fun B=>⟨[(1,.own 0),(5,.own 32)],[aX 0 3 p,aX 32 53 B],64⟩) (fun B Z=>?_) ?_))))
 ·refine jaa (lp G Z (fun(at_,block)=>⟨[(1,.own 0),(2,.ref 32 0),(5,.own 48),(6,dV at_)],[aX 0 3 p,cu 32 t,aX 48 53 block],80⟩) ?_);rintro⟨at_,block⟩ l hb Z;rw[ylh]at Z;refine jab (rs G (hN 2 p h0) ?_);refine cd Z ?_ ?_<;>intro Z
  ·refine jae (thN (jn Z (fun A=>⟨[(1,.own 0),(2,.ref 32 0),(5,.own 48),(6,dV at_)],[aX 0 3 p,cu 32 t,aX 48 53 A],80⟩) (fun A Z=>?_) ?_))
   ·refine jaa (jab ?_);obtain⟨e,h,Z⟩:=jaf Z;refine rs G (hD 2 h (hE 3 h h0)) ?_;refine cd Z ?_ ?_<;>intro Z
    ·exact jag (thE (ibE (wJ G Z)))
    ·refine jae (thN (rg G (jab (rg G (tl Z (fun C=>⟨[(1,.own 0),(2,.ref 32 0),(5,.own 48),(6,dV at_),(7,.own 64)],[aX 0 3 p,cu 32 t,aX 48 53 block,aX 64 3 C],96⟩) (fun C Z=>?_) ?_)))))
     ·refine jaa (lp G Z (fun(k,next)=>⟨[(1,.own 0),(2,.ref 32 0),(5,.own 48),(6,dV at_),(7,.own 64),(8,dV k)],[aX 0 3 p,cu 32 t,aX 48 53 block,aX 64 3 next],96⟩) ?_);rintro⟨k,next⟩ l a Z;rw[yhd]at Z;refine jab (rg G (cd Z ?_ ?_))<;>intro Z
      ·refine jae (thN (jaa ?_));obtain⟨b,n,u,o,Z⟩:=ob2 Z;refine rs G (hD 4 n (hA 8 8 o h0)) ?_;refine rg G (jab (rg G (tl Z (fun c=>⟨[(1,.own 0),(2,.ref 32 0),(5,.own 48),(6,dV at_),(7,.own 64),(9,dV c)],[aX 0 3 p,cu 32 t,aX 48 53 block,aX 64 3 (next++([b.Id]:List Int))],96⟩) (fun c Z=>?_) ?_)))
       ·refine jaa (lp G Z (fun(v,d)=>⟨[(1,.own 0),(2,.ref 32 0),(5,.own 48),(6,dV at_),(7,.own 64),(8,dV k),(9,dV v),(10,dV d)],[aX 0 3 p,cu 32 t,aX 48 53 block,aX 64 3 (next++([b.Id]:List Int))],96⟩) ?_);rintro⟨v,d⟩ l f Z;rw[yhe]at Z;refine jab (rs G (hN 2 p h0) ?_);refine cd Z ?_ ?_<;>intro Z
        ·refine jae (thN (jn Z (fun g=>⟨[(1,.own 0),(2,.ref 32 0),(5,.own 48),(6,dV at_),(7,.own 64),(8,dV k),(9,dV g),(10,dV d)],[aX 0 3 p,cu 32 t,aX 48 53 block,aX 64 3 (next++([b.Id]:List Int))],96⟩) (fun g Z=>?_) ?_))
         ·refine jaa ?_;obtain⟨r,m,Z⟩:=jaf Z;refine rs G (hD 2 m (hE 3 m h0)) ?_;refine cd Z ?_ ?_<;>intro Z
          ·exact rh G (ibN (wJ G Z))
          ·exact jae (ibN (wJ G Z))
         rintro g Z;exact rh G (wL G Z)
        ·exact jag (thE (thE (ibE (wD G Z f))))
       rintro c Z s D;refine thN (jah D ?_);exact rh G (ibN (wL G Z))
      ·exact jag (thE (thE (ibE (wD G Z a))))
     rintro C Z w i;refine thN (jah i ?_);obtain⟨x,q,Z⟩:=jaf Z;refine re G (hO 2 (.fz [64] [] []) (hA 3 24 q h0)) ?_;exact ibN (wJ G Z)
   rintro A Z;exact rh G (wL G Z)
  ·exact jag (thE (thE (ibE (wD G Z hb))))
 rintro B Z z j;refine thN (jah j ?_);refine rg G ?_;cases Z;exact rt [32] []
def yrb:MS bM (bA×bL×(List (List Int))×cB×bM):=⟨.b 58,zq97,fun y=>.tup [dV y.1,dV y.2.1,dV y.2.2.1,dV y.2.2.2.1],fun _=>[],fun _ y=>[bxO 58 y.2.2.2.2]⟩
theorem yxi:FnOK Tryz.prog tJ 17 yrb.S:=by
 refine fm tt yrb [fo yv7,fo yb7,fo yxg,fo yv9,fo yr3,fo yx7,fo yx5] call17 func17 rfl results17 ntmps17 ?_;rintro c y cx G (Z:zq97 c=some y);unfold zq97 at Z;refine rg G ?_;obtain⟨r,h,Z⟩:=jaf Z;refine rs G (hC 1 (ym5.c _ h) h0) ?_;refine jn Z (fun(v,g,i,e)=>⟨[(0,.ref 0 0),(2,.ref 32 0),(3,.ref 48 0),(5,.ref 64 0),(6,.ref 80 0)],[bX 0 58 [dV v,dV g,kV .u64 i],bX 32 30 [nS,nS,nS],bX 48 33 [nS,kV .i64 0],bX 64 35 [kV .i64 0,kV .i64 0,kV .i64 0,kV .i64 0,kV .i64 0,kV .i64 0],bX 80 30 [.own 96,dV r.1.bC.bG,dV e],aX 96 9 r.1.bC.bq],128⟩) (fun q Z=>?_) ?_
 ·refine jn Z (fun(j,k,l,m)=>⟨[(0,.ref 0 0),(2,.ref 32 0),(3,.ref 48 0),(5,.ref 64 0),(6,.ref 80 0),(19,dV j)],[bX 0 58 [dV k,dV l,kV .u64 m],bX 32 30 [nS,nS,nS],bX 48 33 [nS,kV .i64 0],bX 64 35 [kV .i64 0,kV .i64 0,kV .i64 0,kV .i64 0,kV .i64 0,kV .i64 0],bX 80 30 [.own 96,dV r.1.bC.bG,.own 112],aX 96 9 r.1.bC.bq,aX 112 106 r.1.bn],144⟩) (fun p Z=>?_) ?_
  ·rcases bf Z with⟨hb,Z⟩|⟨hb,Z⟩
   ·obtain⟨B,s,Z⟩:=jaf Z;refine re G (hN 2 r.1.bn (hO 4 (.b true) (hP hb (hC 6 (yck s) h0)))) ?_;exact wJ G Z
   ·refine re G (hN 2 r.1.bn (hO 4 (.b false) (hP hb h0))) ?_;exact wJ G Z
  rintro⟨j,k,l,m⟩ Z;refine cd Z ?_ ?_<;>intro Z
  ·obtain⟨u,t,Z⟩:=jaf Z;refine re G (hO 2 (.fz [112] [] []) (hU 2 t h0)) ?_;exact wJ G Z
  ·exact jae (wJ G Z)
 rintro⟨v,g,i,e⟩ Z;obtain⟨n,w,Z⟩:=jaf Z;refine rs G (hO 3 (.fz [96] [] []) (hC 3 (yra.c (_,_) w) h0)) ?_;obtain⟨a,x,Z⟩:=jaf Z;refine rs G (hC 1 (ym7.c _ x) h0) ?_;refine jab ?_;obtain⟨C,o,Z⟩:=jaf Z;refine jn Z (fun f=>⟨[(0,.ref 0 0),(2,.ref 32 0),(3,.ref 48 0),(5,.ref 64 0),(6,.ref 80 0),(7,.ref 96 0),(8,.ref 112 0),(39,dV f)],[bX 0 58 [dV a.2.dH,dV a.2.at_,kV .u64 a.2.dL.v],bX 32 30 [nS,nS,nS],bX 48 33 [nS,kV .i64 0],bX 64 35 [kV .i64 0,kV .i64 0,kV .i64 0,kV .i64 0,kV .i64 0,kV .i64 0],bX 80 30 [dV r.1.bC.bq,dV r.1.bC.bG,dV e],dI 96 n.1,eu 112 a.1],144⟩) (fun f Z=>?_) ?_
 ·rcases bf Z with⟨d,Z⟩|⟨d,Z⟩
  ·refine re G (hC 2 (ygl.c (_,_) o) (hO 4 (.b true) (hP d h0))) ?_;exact wJ G Z
  ·refine re G (hC 2 (ygl.c (_,_) o) (hO 4 (.b false) (hP d (hN 7 e h0)))) ?_;exact wJ G Z
 rintro f Z;refine cd Z ?_ ?_<;>intro Z
 ·refine ds G [(2,[]),(4,[32]),(5,[48]),(7,[64])] h0 ?_;cases Z;exact rt [] []
 ·refine jae (thN ?_);obtain⟨D,z,E,A,Z⟩:=ob2 Z;refine ds G [(6,[224]),(8,[32]),(9,[48]),(11,[64])] (hC 5 (yr2.c (_,_) z) (hC 6 (yr0.c (_,_) A) h0)) ?_;cases Z;exact rt [] []
def ybc:MS (bA×Int) Int:=mS ycs
theorem yb5:FnOK Tryz.prog tJ 89 ybc.S:=by
 refine fm tt ybc [] call89 func89 rfl results89 ntmps89 ?_;rintro⟨t,id⟩ y cx G (Z:ycs t id=some y);unfold ycs at Z;refine rg G (jab (rg G (tF Z (fun _=>⟨[],[],32⟩) (fun a c Z=>?_) ?_)))
 ·refine jaa (lp G Z (fun v=>⟨[(1,dV id),(2,.ref 16 0),(5,dV v)],[cu 16 t],48⟩) ?_);rintro v b hb Z;rw[yes]at Z;refine jab (rs G (hN 3 t.bn h0) ?_);refine cd Z ?_ ?_<;>intro Z
  ·refine jae (thN (jab (jaa ?_)));obtain⟨e,h,Z⟩:=jaf Z;refine rs G (hD 3 h h0) ?_;refine cd Z ?_ ?_<;>intro Z
   ·refine rg G ?_;have Z:=eL Z hb c;cases Z;exact rt [] []
   ·exact jae (ibN (thN (rh G (wL G Z))))
  ·exact jag (thE (thE (ibE (wE G Z hb))))
 rintro⟨⟩ Z s d;refine thN (jah d ?_);refine rg G ?_;cases Z;exact rt [] []
def ycj:MS ((List Int)×Int) Bool:=mS yfw
theorem ye2:FnOK Tryz.prog tJ 53 ycj.S:=by
 refine fm tt ycj [] call53 func53 rfl results53 ntmps53 ?_;rintro⟨l,n⟩ y cx G (Z:yfw l n=some y);unfold yfw at Z;refine rg G (jab (rg G (tF Z (fun _=>⟨[],[],32⟩) (fun a c Z=>?_) ?_)))
 ·refine jaa (lp G Z (fun v=>⟨[(0,dV l),(1,dV n),(5,dV v)],[],32⟩) ?_);rintro v b hb Z;rw[ye3]at Z;refine jab (rs G (hN 2 l h0) ?_);refine cd Z ?_ ?_<;>intro Z
  ·refine jae (thN (jab (jaa ?_)));obtain⟨e,h,Z⟩:=jaf Z;refine rs G (hD 2 h h0) ?_;refine cd Z ?_ ?_<;>intro Z
   ·refine rg G ?_;have Z:=eL Z hb c;cases Z;exact rt [] []
   ·exact jae (ibN (thN (rh G (wL G Z))))
  ·exact jag (thE (thE (ibE (wE G Z hb))))
 rintro⟨⟩ Z s d;refine thN (jah d ?_);refine rg G ?_;cases Z;exact rt [] []
def yr1:MS (bA×bL×(List (List Int))) Bool:=⟨.x .r (.x .r .r),fun x=>zq62 x.1 x.2.1 x.2.2,fun y=>dV y,fun _=>[],fun _ _=>[]⟩
theorem yx6:FnOK Tryz.prog tJ 86 yr1.S:=by
 refine fm tt yr1 [fo yb5,fo ye2,fo ylf] call86 func86 rfl results86 ntmps86 ?_;rintro⟨t,f,p⟩ y cx G (Z:zq62 t f p=some y);unfold zq62 at Z;refine rg G (rg G (jab (rg G (tF Z (fun J=>⟨[(3,.ref 16 0),(7,.own 32)],[cu 16 t,aX 32 3 J],64⟩) (fun W hr Z=>?_) ?_))))
 ·refine jaa (lp G Z (fun(v,at_)=>⟨[(2,dV p),(3,.ref 16 0),(4,.ref 32 0),(7,.own 48),(8,dV v)],[cu 16 t,dI 32 f,aX 48 3 at_],80⟩) ?_);rintro⟨v,at_⟩ K hb Z;rw[ybi]at Z;refine jab (rs G (hN 2 p h0) ?_);refine cd Z ?_ ?_<;>intro Z
  ·refine jae (thN (jab (jaa (jab ?_))));obtain⟨k,l,Z⟩:=jaf Z;refine jn Z (fun m=>⟨[(2,dV p),(3,.ref 16 0),(4,.ref 32 0),(7,.own 48),(8,dV v),(43,dV m)],[cu 16 t,dI 32 f,aX 48 3 at_],80⟩) (fun m Z=>?_) ?_
   ·rcases bf Z with⟨d,Z⟩|⟨d,Z⟩
    ·refine de G [] (hD 2 l (hN 4 k (hO 6 (.b true) (hP d h0)))) ?_;exact wJ G Z
    ·rcases bf Z with⟨g,Z⟩|⟨g,Z⟩
     ·obtain⟨X,L,Y,M,e8,N,Z⟩:=ob3 Z;obtain⟨e9,O,Z⟩:=jaf Z;refine de G [] (hD 2 l (hN 4 k (hO 6 (.b false) (hP d (hO 9 (.b true) (hP g (hD 13 L (hD 15 M (hD 19 N (hD 21 O h0)))))))))) ?_;exact wJ G Z
     ·refine de G [] (hD 2 l (hN 4 k (hO 6 (.b false) (hP d (hO 9 (.b false) (hP g h0)))))) ?_;exact wJ G Z
   rintro m Z;refine cd Z ?_ ?_<;>intro Z
   ·refine rg G ?_;have Z:=eL Z hb hr;cases Z;exact rt [] []
   ·refine jae (thN (rg G (tF Z (fun P=>⟨[(2,dV p),(3,.ref 16 0),(4,.ref 32 0),(7,.own 48),(8,dV v)],[cu 16 t,dI 32 f,aX 48 3 P],80⟩) (fun v4 n Z=>?_) ?_)))
    ·refine jaa (lp G Z (fun(o,F)=>⟨[(2,dV p),(3,.ref 16 0),(4,.ref 32 0),(7,.own 48),(8,dV v),(9,dV o)],[cu 16 t,dI 32 f,aX 48 3 F],80⟩) ?_);rintro⟨o,F⟩ K j Z;rw[ybj]at Z;refine jab ?_;obtain⟨q,r,Z⟩:=jaf Z;refine rs G (hD 3 r (hN 5 q h0)) ?_;refine cd Z ?_ ?_<;>intro Z
     ·refine jae (thN (jab (jaa ?_)));obtain⟨Q,w,R,x,T,z,Z⟩:=ob3 Z;refine ds G [] (hD 3 w (hD 6 x (hC 8 (ybc.c (_,_) z) h0))) ?_;refine jab (jn Z (fun A=>⟨[(2,dV p),(3,.ref 16 0),(4,.ref 32 0),(7,.own 48),(8,dV v),(9,dV o),(10,dV T),(89,dV A)],[cu 16 t,dI 32 f,aX 48 3 F],80⟩) (fun A Z=>?_) ?_)
      ·rcases bf Z with⟨a,Z⟩|⟨a,Z⟩
       ·refine de G [] (hO 2 (.b true) (hP a h0)) ?_;exact wJ G Z
       ·obtain⟨r6,h,Z⟩:=jaf Z;rcases bf Z with⟨e,Z⟩|⟨e,Z⟩
        ·refine de G [] (hO 2 (.b false) (hP a (hC 5 (ycj.c (_,_) h) (hO 7 (.b true) (hP e h0))))) ?_;exact wJ G Z
        ·rcases bf Z with⟨i,Z⟩|⟨i,Z⟩
         ·obtain⟨U,B,V,C,r7,D,Z⟩:=ob3 Z;obtain⟨r8,E,Z⟩:=jaf Z;refine de G [] (hO 2 (.b false) (hP a (hC 5 (ycj.c (_,_) h) (hO 7 (.b false) (hP e (hO 10 (.b true) (hP i (hD 16 B (hD 20 C (hC 22 (ybc.c (_,_) D) (hC 24 (yn6 E) h0))))))))))) ?_;exact wJ G Z
         ·refine de G [] (hO 2 (.b false) (hP a (hC 5 (ycj.c (_,_) h) (hO 7 (.b false) (hP e (hO 10 (.b false) (hP i h0))))))) ?_;exact wJ G Z
      rintro A Z;refine cd Z ?_ ?_<;>intro Z
      ·refine rg G ?_;have Z:=eL Z j n;have Z:=eL Z hb hr;cases Z;exact rt [] []
      ·refine jae (thN ?_);obtain⟨u,H,Z⟩:=jaf Z;refine re G (hA 3 8 H h0) ?_;exact ibN (thN (rh G (wL G Z)))
     ·exact jag (thE (thE (ibE (wE G Z j))))
    rintro P Z s hw;refine ibN (thN (jah hw ?_));exact rh G (wL G Z)
  ·exact jag (thE (thE (ibE (wE G Z hb))))
 rintro J Z s1 I;refine thN (jah I ?_);refine rs G (hN 1 J (hN 4 t.bn h0)) ?_;cases Z;exact rt [] []
def yn3:MS (bA×bL×(List (List Int))) Bool:=⟨.x .r (.x .r .r),fun x=>zq70 x.1 x.2.1 x.2.2,fun y=>dV y,fun _=>[],fun _ _=>[]⟩
theorem yx0:FnOK Tryz.prog tJ 45 yn3.S:=by
 refine fm tt yn3 [fo yr3,fo yx6] call45 func45 rfl results45 ntmps45 ?_;rintro⟨t,f,e⟩ y cx G (Z:zq70 t f e=some y);unfold zq70 at Z;refine rg G ?_;obtain⟨r,h,Z⟩:=jaf Z;refine jn Z (fun v=>⟨[(6,dV v)],[],32⟩) (fun v Z=>?_) ?_
 ·rcases bf Z with⟨hb,Z⟩|⟨hb,Z⟩
  ·obtain⟨d,a,Z⟩:=jaf Z;refine re G (hC 2 (ygl.c (_,_) h) (hO 3 (.b true) (hP hb (hC 7 (yr1.c (_,_,_) a) h0)))) ?_;exact wJ G Z
  ·refine re G (hC 2 (ygl.c (_,_) h) (hO 3 (.b false) (hP hb h0))) ?_;exact wJ G Z
 rintro v Z;cases Z;exact rt [] []
def yba:MS Int Bool:=mR zq75
theorem yxy:FnOK Tryz.prog tJ 87 yba.S:=by
 refine fm tt yba [fo ybn] call87 func87 rfl results87 ntmps87 ?_;rintro x y cx G (Z:zq75 x=some y);unfold zq75 at Z;refine rg G ?_;obtain⟨r,h,Z⟩:=jaf Z;refine rs G (hC 1 (ya3 h) h0) ?_;cases Z;exact rt [] []
def yrp:MS cB Bool:=mR zq79
theorem yxv:FnOK Tryz.prog tJ 46 yrp.S:=by
 refine fm tt yrp [fo yxy] call46 func46 rfl results46 ntmps46 ?_;rintro r y cx G (Z:zq79 r=some y);unfold zq79 at Z;refine rg G ?_;obtain⟨m,h,Z⟩:=jaf Z;refine jn Z (fun v=>⟨[(2,dV v)],[],32⟩) (fun v Z=>?_) ?_
 ·rcases bf Z with⟨hb,Z⟩|⟨hb,Z⟩
  ·obtain⟨n,g,Z⟩:=jaf Z;rcases bf Z with⟨a,Z⟩|⟨a,Z⟩
   ·obtain⟨o,i,Z⟩:=jaf Z;rcases bf Z with⟨d,Z⟩|⟨d,Z⟩
    ·obtain⟨q,j,Z⟩:=jaf Z;rcases bf Z with⟨e,Z⟩|⟨e,Z⟩
     ·obtain⟨s,k,Z⟩:=jaf Z;rcases bf Z with⟨f,Z⟩|⟨f,Z⟩
      ·obtain⟨t,l,Z⟩:=jaf Z;refine re G (hC 2 (yba.c _ h) (hO 3 (.b true) (hP hb (hC 6 (yba.c _ g) (hO 8 (.b true) (hP a (hC 11 (yba.c _ i) (hO 13 (.b true) (hP d (hC 16 (yba.c _ j) (hO 18 (.b true) (hP e (hC 21 (yba.c _ k) (hO 23 (.b true) (hP f (hC 26 (yba.c _ l) h0)))))))))))))))) ?_;exact wJ G Z
      ·refine re G (hC 2 (yba.c _ h) (hO 3 (.b true) (hP hb (hC 6 (yba.c _ g) (hO 8 (.b true) (hP a (hC 11 (yba.c _ i) (hO 13 (.b true) (hP d (hC 16 (yba.c _ j) (hO 18 (.b true) (hP e (hC 21 (yba.c _ k) (hO 23 (.b false) (hP f h0))))))))))))))) ?_;exact wJ G Z
     ·refine re G (hC 2 (yba.c _ h) (hO 3 (.b true) (hP hb (hC 6 (yba.c _ g) (hO 8 (.b true) (hP a (hC 11 (yba.c _ i) (hO 13 (.b true) (hP d (hC 16 (yba.c _ j) (hO 18 (.b false) (hP e h0)))))))))))) ?_;exact wJ G Z
    ·refine re G (hC 2 (yba.c _ h) (hO 3 (.b true) (hP hb (hC 6 (yba.c _ g) (hO 8 (.b true) (hP a (hC 11 (yba.c _ i) (hO 13 (.b false) (hP d h0))))))))) ?_;exact wJ G Z
   ·refine re G (hC 2 (yba.c _ h) (hO 3 (.b true) (hP hb (hC 6 (yba.c _ g) (hO 8 (.b false) (hP a h0)))))) ?_;exact wJ G Z
  ·refine re G (hC 2 (yba.c _ h) (hO 3 (.b false) (hP hb h0))) ?_;exact wJ G Z
 rintro v Z;cases Z;exact rt [] []
def yjo:MS (bA×bL×(List (List Int))×cB) Bool:=⟨.x .r (.x .r (.x .r .r)),fun x=>zq69 x.1 x.2.1 x.2.2.1 x.2.2.2,fun y=>dV y,fun _=>[],fun _ _=>[]⟩
theorem yrw:FnOK Tryz.prog tJ 20 yjo.S:=by
 refine fm tt yjo [fo yx0,fo yxv] call20 func20 rfl results20 ntmps20 ?_;rintro⟨t,f,g,r⟩ y cx G (Z:zq69 t f g r=some y);unfold zq69 at Z;refine rg G ?_;obtain⟨d,h,Z⟩:=jaf Z;refine jn Z (fun v=>⟨[(8,dV v)],[],32⟩) (fun v Z=>?_) ?_
 ·rcases bf Z with⟨hb,Z⟩|⟨hb,Z⟩
  ·obtain⟨e,a,Z⟩:=jaf Z;refine re G (hC 3 (yn3.c (_,_,_) h) (hO 4 (.b true) (hP hb (hC 6 (yrp.c _ a) h0)))) ?_;exact wJ G Z
  ·refine re G (hC 3 (yn3.c (_,_,_) h) (hO 4 (.b false) (hP hb h0))) ?_;exact wJ G Z
 rintro v Z;cases Z;exact rt [] []
def ym8:MS (bM×(List (List Int))) ((List Int)×bM):=⟨.x (.b 58) .r,fun x=>yqo x.1 x.2,fun y=>dV y.1,fun _=>[],fun _ y=>[bxO 58 y.2]⟩
theorem ywa:FnOK Tryz.prog tJ 106 ym8.S:=by
 refine fm tt ym8 [fo ya7,fo yo7,fo yb7] call106 func106 rfl results106 ntmps106 ?_;rintro⟨c,p⟩ y cx G (Z:yqo c p=some y);unfold yqo at Z;refine rg G (jab (rs G (hN 1 p h0) ?_));refine cd Z ?_ ?_<;>intro Z
 ·refine rg G ?_;cases Z;exact rt [] []
 ·refine jae (thN ?_);obtain⟨r,h,e,f,Z⟩:=ob2 Z;refine rs G (hN 3 p (hC 4 (yav h) (hD 5 f h0))) ?_;refine jab (rs G (hN 1 e h0) ?_);refine cd Z ?_ ?_<;>intro Z
  ·refine rg G ?_;cases Z;exact rt [] []
  ·refine jae (thN ?_);obtain⟨o,g,Z⟩:=jaf Z;refine rs G (hN 2 e (hC 3 (yav g) h0)) ?_;obtain⟨q,i,u,j,s,k,Z⟩:=ob3 Z;refine rs G (hN 6 e (hC 9 (yav i) (hU 11 j (hC 12 (ym4 k) h0)))) ?_;refine jn Z (fun(v,a,b,d)=>⟨[(0,.ref 0 0),(7,.own 32)],[bX 0 58 [dV v,dV a,kV .u64 b],aX 32 3 d],64⟩) (fun z Z=>?_) ?_
   ·obtain⟨t,l,Z⟩:=jaf Z;refine rs G (hC 1 (yck l) h0) ?_;refine cd Z ?_ ?_<;>intro Z
    ·obtain⟨w,m,x,n,Z⟩:=ob2 Z;refine re G (hC 2 (yav m) (hA 4 8 n h0)) ?_;exact wJ G Z
    ·exact jae (wJ G Z)
   rintro⟨v,a,b,d⟩ Z;refine rg G ?_;cases Z;exact rt [] []
def yry:MS ((List (List Int))×Int) (Int×Int):=⟨.x .r .r,fun x=>zq67 x.1 x.2,fun y=>.tup [dV y.1,dV y.2],fun _=>[],fun _ _=>[]⟩
theorem yx3:FnOK Tryz.prog tJ 136 yry.S:=by
 refine fm tt yry [] call136 func136 rfl results136 ntmps136 ?_;rintro⟨o,id⟩ y cx G (Z:zq67 o id=some y);unfold zq67 at Z;refine rg G (jab (rg G (tF Z (fun _=>⟨[],[],32⟩) (fun j p Z=>?_) ?_)))
 ·refine jaa (lp G Z (fun v=>⟨[(0,dV o),(1,dV id),(6,dV v)],[],32⟩) ?_);rintro v f hb Z;rw[yg9]at Z;refine jab (rs G (hN 2 o h0) ?_);refine cd Z ?_ ?_<;>intro Z
  ·refine jae (thN (jab (jaa (rg G (tF Z (fun _=>⟨[(0,dV o),(1,dV id),(6,dV v)],[],32⟩) (fun k b Z=>?_) ?_)))))
   ·refine jaa (lp G Z (fun d=>⟨[(0,dV o),(1,dV id),(6,dV v),(7,dV d)],[],32⟩) ?_);rintro d f a Z;rw[yha]at Z;refine jab ?_;obtain⟨e,h,Z⟩:=jaf Z;refine rs G (hD 3 h (hN 5 e h0)) ?_;refine cd Z ?_ ?_<;>intro Z
    ·refine jae (thN (jab (jaa ?_)));obtain⟨l,g,m,i,Z⟩:=ob2 Z;refine rs G (hD 2 g (hD 5 i h0)) ?_;refine cd Z ?_ ?_<;>intro Z
     ·refine rg G ?_;have Z:=eL Z a b;have Z:=eL Z hb p;cases Z;exact rt [] []
     ·exact jae (ibN (thN (rh G (wL G Z))))
    ·exact jag (thE (thE (ibE (wE G Z a))))
   rintro⟨⟩ Z s q;refine ibN (thN (jah q ?_));exact rh G (wL G Z)
  ·exact jag (thE (thE (ibE (wE G Z hb))))
 rintro⟨⟩ Z n c;refine thN (jah c ?_);refine rg G ?_;cases Z;exact rt [] []
def ym3:MS ((List Int)×(List Int)) Bool:=mS yqk
theorem yv6:FnOK Tryz.prog tJ 137 ym3.S:=by
 refine fm tt ym3 [] call137 func137 rfl results137 ntmps137 ?_;rintro⟨a,b⟩ y cx G (Z:yqk a b=some y);unfold yqk at Z;refine rg G (jab (rs G (hN 1 a (hN 3 b h0)) ?_));refine cd Z ?_ ?_<;>intro Z
 ·refine rg G ?_;cases Z;exact rt [] []
 ·refine jae (thN (jab (rg G (tF Z (fun _=>⟨[],[],32⟩) (fun e i Z=>?_) ?_))))
  ·refine jaa (lp G Z (fun v=>⟨[(0,dV a),(1,dV b),(5,dV v)],[],32⟩) ?_);rintro v f hb Z;rw[yc8]at Z;refine jab (rs G (hN 2 a h0) ?_);refine cd Z ?_ ?_<;>intro Z
   ·refine jae (thN (jab (jaa ?_)));obtain⟨g,c,h,d,Z⟩:=ob2 Z;refine ds G [] (hD 2 c (hD 6 d h0)) ?_;refine cd Z ?_ ?_<;>intro Z
    ·refine rg G ?_;have Z:=eL Z hb i;cases Z;exact rt [] []
    ·exact jae (ibN (thN (rh G (wL G Z))))
   ·exact jag (thE (thE (ibE (wE G Z hb))))
  rintro⟨⟩ Z s j;refine thN (jah j ?_);refine rg G ?_;cases Z;exact rt [] []
def ycc:MS ((List (List Int))×(List Int)) Bool:=mS zq77
theorem yrr:FnOK Tryz.prog tJ 107 ycc.S:=by
 refine fm tt ycc [fo yx3,fo yv6] call107 func107 rfl results107 ntmps107 ?_;rintro⟨n,m⟩ y cx G (Z:zq77 n m=some y);unfold zq77 at Z;refine rg G (jab (rs G (hN 1 m h0) ?_));refine cd Z ?_ ?_<;>intro Z
 ·refine rg G ?_;cases Z;exact rt [] []
 ·refine jae (thN ?_);obtain⟨e,h,r,a,Z⟩:=ob2 Z;refine rs G (hD 2 h (hC 4 (yry.c (_,_) a) h0)) ?_;refine jab (jn Z (fun v=>⟨[(0,dV n),(1,dV m),(5,dV r.1),(6,dV r.2),(31,dV v)],[],32⟩) (fun v Z=>?_) ?_)
  ·rcases bf Z with⟨hb,Z⟩|⟨hb,Z⟩
   ·refine re G (hO 2 (.b true) (hP hb h0)) ?_;exact wJ G Z
   ·obtain⟨d,f,Z⟩:=jaf Z;refine re G (hO 2 (.b false) (hP hb (hN 5 m (hD 9 f (hN 11 d h0))))) ?_;exact wJ G Z
  rintro v Z;refine cd Z ?_ ?_<;>intro Z
  ·refine rg G ?_;cases Z;exact rt [] []
  ·refine jae (thN ?_);obtain⟨k,g,u,i,l,j,Z⟩:=ob3 Z;refine rs G (hD 2 g (hN 7 m (hU 9 i (hC 11 (ym3.c (_,_) j) h0)))) ?_;cases Z;exact rt [] []
def yd0:MS (bA×(List Int)) Int:=mS zq80
theorem yff:FnOK Tryz.prog tJ 108 yd0.S:=by
 refine fm tt yd0 [fo yb5] call108 func108 rfl results108 ntmps108 ?_;rintro⟨t,h⟩ y cx G (Z:zq80 t h=some y);unfold zq80 at Z;refine rg G ?_;obtain⟨e,a,f,b,g,d,Z⟩:=ob3 Z;refine ds G [] (hD 4 a (hC 6 (ybc.c (_,_) b) (hD 7 d h0))) ?_;cases Z;exact rt [] []
def ynv:MS (bM×bA×(List (List Int))) (bB×bM):=⟨.x (.b 58) (.x .r .r),fun x=>zq98 x.1 x.2.1 x.2.2,fun _=>.aggv [.own 0],fun y=>[arO 53 y.1.bE],fun _ y=>[bxO 58 y.2]⟩
theorem yxh:FnOK Tryz.prog tJ 63 ynv.S:=by
 refine fm tt ynv [fo yk0,fo ywa,fo yoz,fo yrr,fo yb5,fo yff,fo yb7] call63 func63 rfl results63 ntmps63 ?_;rintro⟨c,t,p⟩ y cx G (Z:zq98 c t p=some y);unfold zq98 at Z;refine rg G (rg G (jab ?_));obtain⟨r,h,Z⟩:=jaf Z;refine rs G (hO 2 (.fz [112] [] []) (hC 2 (ycb.c (_,_) h) h0)) ?_;refine tl Z (fun(i,j,k,U)=>⟨[(0,.ref 0 0),(2,dV p),(4,.ref 32 0),(6,.ref 48 0),(7,.ref 64 0)],[bX 0 58 [dV i,dV j,kV .u64 k],cu 32 t,bX 48 50 [nS],bX 64 50 [.own 80],aX 80 53 U],112⟩) (fun ai Z=>?_) ?_
 ·refine jaa (lpP Z (fun(b,v,V,W,X)=>⟨[(0,.ref 0 0),(2,dV p),(4,.ref 32 0),(6,.ref 48 0),(7,.ref 64 0),(8,dV b)],[bX 0 58 [dV v,dV V,kV .u64 W],cu 32 t,bX 48 50 [nS],bX 64 50 [.own 80],aX 80 53 X],112⟩) (Wk_J G.hL ⟨[(0,[]),(2,[]),(4,[]),(6,[]),(7,[]),(8,[])],[(0,0,[]),(32,16,[]),(48,32,[]),(64,64,[.o 80])],[(80,53,1,[])],112⟩ (by kernel_rfl)) ?_);rintro⟨b,v,V,W,X⟩ r0 hb Z;rw[yky]at Z;refine jab (rg G (cd Z ?_ ?_))<;>intro Z
  ·refine jae (thN (jab (jaa ?_)));obtain⟨r2,h3,u1,h4,Z⟩:=ob2 Z;refine de G [(4,[0]),(5,[]),(6,[80,224]),(8,[64,240])] (hC 4 (ym8.c (_,_) h3) (hA 6 24 h4 h0)) ?_;exact ibN (thN (rh G (wL G Z)))
  ·exact jag (thE (thE (ibE (wD G Z hb))))
 rintro⟨i,j,k,U⟩ Z s hw;refine thN (jah hw ?_);refine jab (rg G (tl Z (fun l=>⟨[(0,.ref 0 0),(6,.ref 32 0),(7,.ref 48 0)],[bX 0 58 [dV i,dV j,kV .u64 k],bX 32 50 [nS],bX 48 50 [.own 64],aX 64 53 l],96⟩) (fun l Z=>?_) ?_))
 ·refine jaa (lp G Z (fun(B,A)=>⟨[(0,.ref 0 0),(2,dV p),(4,.ref 32 0),(6,.ref 48 0),(7,.ref 64 0),(9,dV B)],[bX 0 58 [dV i,dV j,kV .u64 k],cu 32 t,bX 48 50 [nS],bX 64 50 [.own 80],aX 80 53 A],112⟩) ?_);rintro⟨B,A⟩ r0 N Z;rw[ykx]at Z;refine jab (jn Z (fun m=>⟨[(0,.ref 0 0),(2,dV p),(4,.ref 32 0),(6,.ref 48 0),(7,.ref 64 0),(9,dV B),(36,dV m)],[bX 0 58 [dV i,dV j,kV .u64 k],cu 32 t,bX 48 50 [nS],bX 64 50 [.own 80],aX 80 53 A],112⟩) (fun m Z=>?_) ?_)
  ·rcases bf Z with⟨n,Z⟩|⟨n,Z⟩
   ·obtain⟨r3,h5,Z⟩:=jaf Z;refine re G (hN 3 A (hO 5 (.b true) (hP n (hC 7 (yfs.c _ h5) h0)))) ?_;exact wJ G Z
   ·refine re G (hN 3 A (hO 5 (.b false) (hP n h0))) ?_;exact wJ G Z
  rintro m Z;refine cd Z ?_ ?_<;>intro Z
  ·refine jae (thN (jn Z (fun q=>⟨[(0,.ref 0 0),(2,dV p),(4,.ref 32 0),(6,.ref 48 0),(7,.ref 64 0),(9,dV B)],[bX 0 58 [dV i,dV j,kV .u64 k],cu 32 t,bX 48 50 [nS],bX 64 50 [.own 80],aX 80 53 q],112⟩) (fun q Z=>?_) ?_))
   ·refine jaa ?_;obtain⟨Y,J,F,P,Z⟩:=ob2 Z;refine ds G [] (hD 4 J (hE 5 J (hD 9 P (hE 10 P h0)))) ?_;obtain⟨aa,d,Z⟩:=jaf Z;refine jn Z (fun u=>⟨[(0,.ref 0 0),(2,dV p),(4,.ref 32 0),(6,.ref 48 0),(7,.ref 64 0),(9,dV B),(10,dV Y),(11,dV F),(82,dV u)],[bX 0 58 [dV i,dV j,kV .u64 k],cu 32 t,bX 48 50 [nS],bX 64 50 [.own 80],aX 80 53 A],112⟩) (fun u Z=>?_) ?_
    ·rcases bf Z with⟨a,Z⟩|⟨a,Z⟩
     ·obtain⟨ab,f,Z⟩:=jaf Z;rcases bf Z with⟨e,Z⟩|⟨e,Z⟩
      ·obtain⟨e6,w,ac,x,Z⟩:=ob2 Z;rcases bf Z with⟨g,Z⟩|⟨g,Z⟩
       ·obtain⟨e7,C,ad,D,Z⟩:=ob2 Z;rcases bf Z with⟨z,Z⟩|⟨z,Z⟩
        ·obtain⟨ae,O,af,Q,Z⟩:=ob2 Z;refine de G [] (hC 2 (ycc.c (_,_) d) (hO 3 (.b true) (hP a (hC 6 (ycc.c (_,_) f) (hO 8 (.b true) (hP e (hD 11 w (hC 13 (ybc.c (_,_) x) (hO 16 (.b true) (hP g (hD 19 C (hC 21 (ybc.c (_,_) D) (hO 24 (.b true) (hP z (hC 27 (yd0.c (_,_) O) (hC 30 (yd0.c (_,_) Q) h0)))))))))))))))) ?_;exact wJ G Z
        ·refine de G [] (hC 2 (ycc.c (_,_) d) (hO 3 (.b true) (hP a (hC 6 (ycc.c (_,_) f) (hO 8 (.b true) (hP e (hD 11 w (hC 13 (ybc.c (_,_) x) (hO 16 (.b true) (hP g (hD 19 C (hC 21 (ybc.c (_,_) D) (hO 24 (.b false) (hP z h0)))))))))))))) ?_;exact wJ G Z
       ·refine de G [] (hC 2 (ycc.c (_,_) d) (hO 3 (.b true) (hP a (hC 6 (ycc.c (_,_) f) (hO 8 (.b true) (hP e (hD 11 w (hC 13 (ybc.c (_,_) x) (hO 16 (.b false) (hP g h0)))))))))) ?_;exact wJ G Z
      ·refine de G [] (hC 2 (ycc.c (_,_) d) (hO 3 (.b true) (hP a (hC 6 (ycc.c (_,_) f) (hO 8 (.b false) (hP e h0)))))) ?_;exact wJ G Z
     ·refine de G [] (hC 2 (ycc.c (_,_) d) (hO 3 (.b false) (hP a h0))) ?_;exact wJ G Z
    rintro u Z;refine cd Z ?_ ?_<;>intro Z
    ·obtain⟨e8,E,Z⟩:=jaf Z;refine rs G (hD 5 E (hS 6 E F h0)) ?_;obtain⟨e9,H,Z⟩:=jaf Z;refine re G (hD 4 H (hS 5 H Y h0)) ?_;exact ibN (wJ G Z)
    ·exact jae (ibN (wJ G Z))
   rintro q Z;exact rh G (wL G Z)
  ·exact jag (thE (thE (ibE (wD G Z N))))
 rintro l Z s1 R;refine thN (jah R ?_);refine jn Z (fun(I,K,L,M)=>⟨[(0,.ref 0 0),(6,.ref 32 0),(7,.ref 48 0)],[bX 0 58 [dV I,dV K,kV .u64 L],bX 32 50 [nS],bX 48 50 [.own 64],aX 64 53 M],96⟩) (fun vv Z=>?_) ?_
 ·obtain⟨ah,T,Z⟩:=jaf Z;refine rs G (hC 1 (yck T) h0) ?_;refine cd Z ?_ ?_<;>intro Z
  ·exact rh G (wJ G Z)
  ·exact jae (wJ G Z)
 rintro⟨I,K,L,M⟩ Z;refine rg G ?_;cases Z;exact rt [64] []
def yrm:MS (bA×(List (List Int))×Int) Bool:=⟨.x .r (.x .r .r),fun x=>zq83 x.1 x.2.1 x.2.2,fun y=>dV y,fun _=>[],fun _ _=>[]⟩
theorem yxs:FnOK Tryz.prog tJ 47 yrm.S:=by
 refine fm tt yrm [fo ybn,fo yb5] call47 func47 rfl results47 ntmps47 ?_;rintro⟨t,p,cut⟩ y cx G (Z:zq83 t p cut=some y);unfold zq83 at Z;refine rg G (jab ?_);obtain⟨u,h,r,b,Z⟩:=ob2 Z;refine rs G (hN 3 t.bn (hK h (hC 7 (ya3 b) h0))) ?_;refine cd Z ?_ ?_<;>intro Z
 ·refine rg G ?_;cases Z;exact rt [] []
 ·refine jae (thN (jab (rg G (tF Z (fun _=>⟨[],[],32⟩) (fun j q Z=>?_) ?_))))
  ·refine jaa (lp G Z (fun v=>⟨[(1,dV p),(2,dV cut),(3,.ref 16 0),(7,dV v)],[cu 16 t],48⟩) ?_);rintro v k hb Z;rw[yg2]at Z;refine jab (rs G (hN 2 p h0) ?_);refine cd Z ?_ ?_<;>intro Z
   ·refine jae (thN (jab (jaa ?_)));obtain⟨l,d,e,f,m,g,Z⟩:=ob3 Z;obtain⟨n,i,Z⟩:=jaf Z;refine ds G [] (hD 3 d (hD 7 f (hN 9 e (hD 11 g (hC 13 (ybc.c (_,_) i) h0))))) ?_;obtain⟨o,a,Z⟩:=jaf Z;refine rs G (hK a h0) ?_;refine cd Z ?_ ?_<;>intro Z
    ·refine rg G ?_;have Z:=eL Z hb q;cases Z;exact rt [] []
    ·exact jae (ibN (thN (rh G (wL G Z))))
   ·exact jag (thE (thE (ibE (wE G Z hb))))
  rintro⟨⟩ Z s w;refine thN (jah w ?_);refine rg G ?_;cases Z;exact rt [] []
def yrl:MS (bA×(List (List Int))×Int) ((List (List Int))):=⟨.x .r (.x .r .r),fun x=>zq86 x.1 x.2.1 x.2.2,fun _=>.own 0,fun y=>[arO 53 y],fun _ _=>[]⟩
theorem yxp:FnOK Tryz.prog tJ 90 yrl.S:=by
 refine fm tt yrl [fo yb5] call90 func90 rfl results90 ntmps90 ?_;rintro⟨t,p,cut⟩ y cx G (Z:zq86 t p cut=some y);unfold zq86 at Z;refine rg G (rg G (jab (rg G (tl Z (fun f=>⟨[(7,.own 16)],[aX 16 53 f],48⟩) (fun f Z=>?_) ?_))))
 ·refine jaa (lp G Z (fun(v,k)=>⟨[(1,dV p),(2,dV cut),(3,.ref 16 0),(7,.own 32),(8,dV v)],[cu 16 t,aX 32 53 k],64⟩) ?_);rintro⟨v,k⟩ D hb Z;rw[yla]at Z;refine jab (rs G (hN 2 p h0) ?_);refine cd Z ?_ ?_<;>intro Z
  ·refine jae (thN (jab (jaa (rg G (rg G (tl Z (fun g=>⟨[(1,dV p),(2,dV cut),(3,.ref 16 0),(7,.own 32),(8,dV v)],[cu 16 t,aX 32 53 g],64⟩) (fun g Z=>?_) ?_))))))
   ·refine jaa (lp G Z (fun(d,i,j)=>⟨[(1,dV p),(2,dV cut),(3,.ref 16 0),(7,.own 32),(8,dV v),(9,.own 48),(10,dV d)],[cu 16 t,aX 32 53 i,aX 48 3 j],80⟩) ?_);rintro⟨d,i,j⟩ D l Z;rw[yg1]at Z;refine jab ?_;obtain⟨e,h,Z⟩:=jaf Z;refine rs G (hD 3 h (hN 5 e h0)) ?_;refine cd Z ?_ ?_<;>intro Z
    ·refine jae (thN (jn Z (fun(z,A)=>⟨[(1,dV p),(2,dV cut),(3,.ref 16 0),(7,.own 32),(8,dV v),(9,.own 48),(10,dV d)],[cu 16 t,aX 32 53 z,aX 48 3 A],80⟩) (fun J Z=>?_) ?_))
     ·refine jaa ?_;obtain⟨L,E,H,I,u,K,Z⟩:=ob3 Z;refine rs G (hD 3 E (hD 6 I (hA 9 8 K h0))) ?_;obtain⟨B,C,Z⟩:=jaf Z;refine jn Z (fun m=>⟨[(1,dV p),(2,dV cut),(3,.ref 16 0),(7,.own 32),(8,dV v),(9,.own 48),(10,dV d),(61,dV m)],[cu 16 t,aX 32 53 i,aX 48 3 (j++([H]:List Int))],80⟩) (fun m Z=>?_) ?_
      ·rcases bf Z with⟨a,Z⟩|⟨a,Z⟩
       ·refine de G [] (hD 3 C (hN 5 B (hO 8 (.b true) (hP a h0)))) ?_;exact wJ G Z
       ·obtain⟨M,n,N,o,O,q,Z⟩:=ob3 Z;obtain⟨Q,r,Z⟩:=jaf Z;refine de G [] (hD 3 C (hN 5 B (hO 8 (.b false) (hP a (hD 13 n (hD 16 o (hC 18 (ybc.c (_,_) q) (hK r h0)))))))) ?_;exact wJ G Z
      rintro m Z;refine cd Z ?_ ?_<;>intro Z
      ·obtain⟨R,w,Z⟩:=jaf Z;refine rs G (hO 2 (.fz [48] [] []) (hA 3 24 w h0)) ?_;exact rh G (ibN (wJ G Z))
      ·exact jae (ibN (wJ G Z))
     rintro⟨z,A⟩ Z;exact rh G (wL G Z)
    ·exact jag (thE (thE (ibE (wD G Z l))))
   rintro g Z s F;refine ibN (thN (jah F ?_));exact rh G (wL G Z)
  ·exact jag (thE (thE (ibE (wD G Z hb))))
 rintro f Z T x;refine thN (jah x ?_);refine rg G ?_;cases Z;exact rt [16] []
def yrq:MS ((List (List Int))×bB) Bool:=mS zq78
theorem yxw:FnOK Tryz.prog tJ 110 yrq.S:=by
 refine fm tt yrq [fo yrr,fo ye2,fo ybn] call110 func110 rfl results110 ntmps110 ?_;rintro⟨p,d⟩ y cx G (Z:zq78 p d=some y);unfold zq78 at Z;refine rg G (rg G (jab (rg G (tF Z (fun _=>⟨[(3,.ref 16 0)],[jT 16 d],48⟩) (fun C F Z=>?_) ?_))))
 ·refine jaa (lp G Z (fun(v,k)=>⟨[(0,dV p),(3,.ref 16 0),(5,.own 32),(6,dV v)],[jT 16 d,aX 32 3 k],64⟩) ?_);rintro⟨v,k⟩ l hb Z;rw[yg6]at Z;refine jab (rs G (hN 3 d.bE h0) ?_);refine cd Z ?_ ?_<;>intro Z
  ·refine jae (thN (jab (jaa (jab ?_))));obtain⟨e,h,r,m,Z⟩:=ob2 Z;refine rs G (hD 4 h (hC 6 (ycc.c (_,_) m) h0)) ?_;refine cd Z ?_ ?_<;>intro Z
   ·refine rg G ?_;have Z:=eL Z hb F;cases Z;exact rt [] []
   ·refine jae (thN (rg G (tF Z (fun g=>⟨[(0,dV p),(3,.ref 16 0),(5,.own 32),(6,dV v)],[jT 16 d,aX 32 3 g],64⟩) (fun D b Z=>?_) ?_)))
    ·refine jaa (lp G Z (fun(i,j)=>⟨[(0,dV p),(3,.ref 16 0),(5,.own 32),(6,dV v),(7,dV i)],[jT 16 d,aX 32 3 j],64⟩) ?_);rintro⟨i,j⟩ l a Z;rw[yg7]at Z;refine jab ?_;obtain⟨n,o,Z⟩:=jaf Z;refine rs G (hD 4 o (hN 6 n h0)) ?_;refine cd Z ?_ ?_<;>intro Z
     ·refine jae (thN (jab (jaa (jab ?_))));obtain⟨E,q,H,t,I,w,Z⟩:=ob3 Z;refine rs G (hD 4 q (hD 7 t (hC 9 (ycj.c (_,_) w) h0))) ?_;refine cd Z ?_ ?_<;>intro Z
      ·refine rg G ?_;have Z:=eL Z a b;have Z:=eL Z hb F;cases Z;exact rt [] []
      ·refine jae (thN ?_);obtain⟨K,x,L,z,u,A,Z⟩:=ob3 Z;refine re G (hD 4 x (hD 7 z (hA 10 8 A h0))) ?_;exact ibN (thN (rh G (wL G Z)))
     ·exact jag (thE (thE (ibE (wE G Z a))))
    rintro g Z s J;refine ibN (thN (jah J ?_));exact rh G (wL G Z)
  ·exact jag (thE (thE (ibE (wE G Z hb))))
 rintro⟨⟩ Z M f;refine thN (jah f ?_);obtain⟨N,B,Z⟩:=jaf Z;refine rs G (hN 2 d.bE (hC 3 (ya3 B) h0)) ?_;cases Z;exact rt [] []
def ygj:MS (bA×(List Int)) Int:=mS zq72
theorem yg8:FnOK Tryz.prog tJ 111 ygj.S:=by
 refine fm tt ygj [fo yb5,fo yh5] call111 func111 rfl results111 ntmps111 ?_;rintro⟨t,h⟩ y cx G (Z:zq72 t h=some y);unfold zq72 at Z;refine rg G ?_;obtain⟨e,a,f,b,g,d,Z⟩:=ob3 Z;refine ds G [] (hN 4 h (hD 6 a (hC 8 (ybc.c (_,_) b) (hC 9 (ycy.c (_,_) d) h0)))) ?_;cases Z;exact rt [] []
def yn2:MS (bA×bL×(List Int)×(List Int)) Int:=⟨.x .r (.x .r (.x .r .r)),fun x=>zq73 x.1 x.2.1 x.2.2.1 x.2.2.2,fun y=>dV y,fun _=>[],fun _ _=>[]⟩
theorem yru:FnOK Tryz.prog tJ 112 yn2.S:=by
 refine fm tt yn2 [fo yff,fo yg8,fo yb5,fo yhc] call112 func112 rfl results112 ntmps112 ?_;rintro⟨t,f,a,b⟩ y cx G (Z:zq73 t f a b=some y);unfold zq73 at Z;refine rg G ?_;obtain⟨l,i,m,j,n,k,Z⟩:=ob3 Z;obtain⟨o,d,q,e,r,g,Z⟩:=ob3 Z;obtain⟨s,h,Z⟩:=jaf Z;refine ds G [] (hC 2 (yd0.c (_,_) i) (hC 5 (ygj.c (_,_) j) (hN 12 a (hD 14 k (hC 16 (ybc.c (_,_) d) (hD 19 e (hC 21 (ybc.c (_,_) g) (hC 22 (yn8 h) h0)))))))) ?_;cases Z;exact rt [] []
def yrt:MS (bA×cB×bB) Int:=⟨.x .r (.x .r .r),fun x=>zq74 x.1 x.2.1 x.2.2,fun y=>dV y,fun _=>[],fun _ _=>[]⟩
theorem yxz:FnOK Tryz.prog tJ 113 yrt.S:=by
 refine fm tt yrt [fo yg8,fo yff] call113 func113 rfl results113 ntmps113 ?_;rintro⟨t,r,d⟩ y cx G (Z:zq74 t r d=some y);unfold zq74 at Z;refine rg G ?_;obtain⟨g,a,h,b,i,e,Z⟩:=ob3 Z;obtain⟨j,f,Z⟩:=jaf Z;refine ds G [] (hN 7 d.bE (hD 9 a (hC 11 (ygj.c (_,_) b) (hD 16 e (hC 18 (yd0.c (_,_) f) h0))))) ?_;cases Z;exact rt [] []
def ygk:MS (bA×bL×(List (List Int))×cB×bB) Int:=⟨.x .r (.x .r (.x .r (.x .r .r))),fun x=>zq71 x.1 x.2.1 x.2.2.1 x.2.2.2.1 x.2.2.2.2,fun y=>dV y,fun _=>[],fun _ _=>[]⟩
theorem yrv:FnOK Tryz.prog tJ 65 ygk.S:=by
 refine fm tt ygk [fo yxw,fo yg8,fo yff,fo yru,fo yxz] call65 func65 rfl results65 ntmps65 ?_;rintro⟨t,f,p,r,d⟩ y cx G (Z:zq71 t f p r d=some y);unfold zq71 at Z;refine rg G (jab ?_);obtain⟨x,h,Z⟩:=jaf Z;refine rs G (hC 2 (yrq.c (_,_) h) h0) ?_;refine cd Z ?_ ?_<;>intro Z
 ·refine rg G ?_;cases Z;exact rt [] []
 ·refine jae (thN (jab (rg G (tF Z (fun _=>⟨[(5,.ref 16 0),(6,.ref 32 0),(8,.ref 48 0),(9,.ref 64 0)],[cu 16 t,dI 32 f,eu 48 r,jT 64 d],96⟩) (fun z F Z=>?_) ?_))))
  ·refine jaa (lp G Z (fun v=>⟨[(5,.ref 16 0),(6,.ref 32 0),(8,.ref 48 0),(9,.ref 64 0),(11,dV v)],[cu 16 t,dI 32 f,eu 48 r,jT 64 d],96⟩) ?_);rintro v m hb Z;rw[ydm]at Z;refine jab (rs G (hN 3 d.bE h0) ?_);refine cd Z ?_ ?_<;>intro Z
   ·refine jae (thN (jab (jaa ?_)));obtain⟨A,n,B,o,C,q,Z⟩:=ob3 Z;obtain⟨D,u,Z⟩:=jaf Z;refine ds G [] (hD 4 n (hC 6 (ygj.c (_,_) o) (hD 11 q (hC 13 (yd0.c (_,_) u) h0)))) ?_;refine cd Z ?_ ?_<;>intro Z
    ·refine rg G ?_;have Z:=eL Z hb F;cases Z;exact rt [] []
    ·exact jae (ibN (thN (rh G (wL G Z))))
   ·exact jag (thE (thE (ibE (wE G Z hb))))
  rintro⟨⟩ Z s J;refine thN (jah J ?_);refine jab (rg G (tF Z (fun _=>⟨[(5,.ref 16 0),(8,.ref 32 0),(9,.ref 48 0)],[cu 16 t,eu 32 r,jT 48 d],80⟩) (fun E b Z=>?_) ?_))
  ·refine jaa (lp G Z (fun l=>⟨[(5,.ref 16 0),(6,.ref 32 0),(8,.ref 48 0),(9,.ref 64 0),(12,dV l)],[cu 16 t,dI 32 f,eu 48 r,jT 64 d],96⟩) ?_);rintro l m a Z;rw[ydl]at Z;refine jab (rs G (hN 3 d.bE h0) ?_);refine cd Z ?_ ?_<;>intro Z
   ·refine jae (thN (jab (jaa ?_)));obtain⟨H,e,I,g,K,i,Z⟩:=ob3 Z;refine ds G [] (hD 6 e (hD 11 g (hC 13 (yn2.c (_,_,_,_) i) h0))) ?_;refine cd Z ?_ ?_<;>intro Z
    ·refine rg G ?_;have Z:=eL Z a b;cases Z;exact rt [] []
    ·exact jae (ibN (thN (rh G (wL G Z))))
   ·exact jag (thE (thE (ibE (wE G Z a))))
  rintro⟨⟩ Z L j;refine thN (jah j ?_);refine jab ?_;obtain⟨w,k,Z⟩:=jaf Z;refine ds G [] (hC 3 (yrt.c (_,_,_) k) h0) ?_;refine cd Z ?_ ?_<;>intro Z
  ·refine rg G ?_;cases Z;exact rt [] []
  ·refine jae (thN (rg G ?_));cases Z;exact rt [] []
def yrs:MS (bA×bL×cB×bB) Int:=⟨.x .r (.x .r (.x .r .r)),fun x=>zq76 x.1 x.2.1 x.2.2.1 x.2.2.2,fun y=>dV y,fun _=>[],fun _ _=>[]⟩
theorem yxx:FnOK Tryz.prog tJ 129 yrs.S:=by
 refine fm tt yrs [fo yg8,fo yff,fo yru,fo ypa] call129 func129 rfl results129 ntmps129 ?_;rintro⟨t,f,r,d⟩ y cx G (Z:zq76 t f r d=some y);unfold zq76 at Z;refine rg G (rg G (jab (rg G (tl Z (fun a=>⟨[(9,dV a)],[],32⟩) (fun a Z=>?_) ?_))))
 ·refine jaa (lp G Z (fun(v,b)=>⟨[(4,.ref 16 0),(5,.ref 32 0),(6,.ref 48 0),(7,.ref 64 0),(9,dV v),(10,dV b)],[cu 16 t,dI 32 f,eu 48 r,jT 64 d],96⟩) ?_);rintro⟨v,b⟩ o hb Z;rw[yld]at Z;refine jab (rs G (hN 3 d.bE h0) ?_);refine cd Z ?_ ?_<;>intro Z
  ·refine jae (thN (jn Z (fun e=>⟨[(4,.ref 16 0),(5,.ref 32 0),(6,.ref 48 0),(7,.ref 64 0),(9,dV e),(10,dV b)],[cu 16 t,dI 32 f,eu 48 r,jT 64 d],96⟩) (fun e Z=>?_) ?_))
   ·refine jaa ?_;obtain⟨q,k,u,l,w,m,Z⟩:=ob3 Z;obtain⟨x,n,Z⟩:=jaf Z;refine ds G [] (hD 5 k (hC 7 (ygj.c (_,_) l) (hD 13 m (hC 15 (yd0.c (_,_) n) h0)))) ?_;refine rg G (cd Z ?_ ?_)<;>intro Z
    ·obtain⟨z,g,A,h,B,i,Z⟩:=ob3 Z;obtain⟨C,j,Z⟩:=jaf Z;refine de G [] (hD 7 g (hD 12 h (hC 14 (yn2.c (_,_,_,_) i) (hC 17 (yil.c (_,_) j) h0)))) ?_;exact ibN (wJ G Z)
    ·exact jae (ibN (wJ G Z))
   rintro e Z;exact rh G (wL G Z)
  ·exact jag (thE (thE (ibE (wD G Z hb))))
 rintro a Z s p;refine thN (jah p ?_);refine rg G ?_;cases Z;exact rt [] []
def yn0:MS (bA×bL×(List (List Int))×cB×bB) Int:=⟨.x .r (.x .r (.x .r (.x .r .r))),fun x=>zq85 x.1 x.2.1 x.2.2.1 x.2.2.2.1 x.2.2.2.2,fun y=>dV y,fun _=>[],fun _ _=>[]⟩
theorem yxq:FnOK Tryz.prog tJ 91 yn0.S:=by
 refine fm tt yn0 [fo yrv,fo yxx] call91 func91 rfl results91 ntmps91 ?_;rintro⟨t,f,g,r,d⟩ y cx G (Z:zq85 t f g r d=some y);unfold zq85 at Z;refine rg G (jab ?_);obtain⟨b,h,Z⟩:=jaf Z;refine rs G (hC 5 (ygk.c (_,_,_,_,_) h) h0) ?_;refine cd Z ?_ ?_<;>intro Z
 ·refine rg G ?_;cases Z;exact rt [] []
 ·refine jae (thN ?_);obtain⟨e,a,Z⟩:=jaf Z;refine rs G (hC 4 (yrs.c (_,_,_,_) a) h0) ?_;cases Z;exact rt [] []
def ynx:MS (eZ×Int) eZ:=⟨.x (.b 95) .r,fun x=>zq90 x.1 x.2,fun _=>.tup [],fun y=>[arO 3 y.iG],fun _ y=>[.box 95 [dV y.bP,dV y.gQ,dV y.dF,dV y.iB,.own 1]]⟩
theorem yrh{x forbid y}(Z:zq90 x forbid=some y):ynx.C (x,forbid) y:=ynx.c (x,forbid) Z
theorem yrg:FnOK Tryz.prog tJ 92 ynx.S:=by
 refine fm tt ynx [] call92 func92 rfl results92 ntmps92 ?_;rintro⟨x,i⟩ y cx G (Z:zq90 x i=some y);unfold zq90 at Z;refine rg G ?_;obtain⟨u,h,f,d,Z⟩:=ob2 Z;refine rs G (hN 5 x.bP (hK h (hO 8 (.l (List.map Enc.e (List.replicate (w64 (1*2^(min ((IntKind.u64.wrap ((x.bP.length:Int))):Int).toNat (IntKind.i64).bits))).toNat (0:Int)))) (hP (mk_p (b:=8) (ku d) rfl) (hP (jma Enc.e (w64 (1*2^(min ((IntKind.u64.wrap ((x.bP.length:Int))):Int).toNat (IntKind.i64).bits))).toNat (0:Int)) h0))))) ?_;refine rg G (jaa (lp G Z (fun(v,a)=>⟨[(0,.ref 0 0),(4,dV v)],[bX 0 95 [dV x.bP,dV x.gQ,dV x.dF,dV i,.own 32],aX 32 3 a],64⟩) ?_));rintro⟨v,a⟩ g hb Z;rw[yk2]at Z;refine jab (rs G (hN 5 a h0) ?_);refine cd Z ?_ ?_<;>intro Z
 ·refine jae (thN (jab (jaa ?_)));obtain⟨e,c,Z⟩:=jaf Z;refine re G (hD 5 c (hS 6 c (-2) h0)) ?_;exact ibN (thN (rh G (wL G Z)))
 ·have Z:=eD Z hb;refine jag (thE (thE (ibE ?_)));cases Z;exact fN [32] []
def yn1:MS (bA×bL×(List (List Int))×cB×Int) eZ:=⟨.x .r (.x .r (.x .r (.x .r .r))),fun x=>zq84 x.1 x.2.1 x.2.2.1 x.2.2.2.1 x.2.2.2.2,fun _=>.ref 0 0,fun y=>[.box 95 [dV y.bP,dV y.gQ,dV y.dF,dV y.iB,.own 1],arO 3 y.iG],fun _ _=>[]⟩
theorem yxr:FnOK Tryz.prog tJ 48 yn1.S:=by
 refine fm tt yn1 [fo yxp,fo yxq,fo yrg] call48 func48 rfl results48 ntmps48 ?_;rintro⟨t,f,p,r,cut⟩ y cx G (Z:zq84 t f p r cut=some y);unfold zq84 at Z;refine rg G ?_;obtain⟨a,h,Z⟩:=jaf Z;refine rs G (hC 3 (yrl.c (_,_,_) h) h0) ?_;refine jab (rg G (tl Z (fun(C,D)=>⟨[(11,.ref 16 0)],[bX 16 95 [.own 32,.own 48,.own 64,kV .i64 0,nS],aX 32 53 a,aX 48 3 C,aX 64 53 D],96⟩) (fun J Z=>?_) ?_))
 ·refine jaa (lpP Z (fun(v,b,d)=>⟨[(2,dV p),(5,.ref 16 0),(6,.ref 32 0),(8,.ref 48 0),(11,.ref 64 0),(12,dV v)],[cu 16 t,dI 32 f,eu 48 r,bX 64 95 [.own 80,.own 96,.own 112,kV .i64 0,nS],aX 80 53 a,aX 96 3 b,aX 112 53 d],144⟩) (Wk_J G.hL ⟨[(2,[]),(5,[]),(6,[]),(8,[]),(11,[]),(12,[])],[(16,16,[]),(32,32,[]),(48,48,[]),(64,160,[.k,.o 96,.o 112]),(80,128,[])],[(96,3,1,[]),(112,53,1,[])],144⟩ (by kernel_rfl)) ?_);rintro⟨v,b,d⟩ H hb Z;rw[ylb]at Z;refine jab (rs G (hN 5 a h0) ?_);refine cd Z ?_ ?_<;>intro Z
  ·refine jae (thN (jab (jaa ?_)));obtain⟨L,E,i,I,M,K,Z⟩:=ob3 Z;refine ds G [(16,[]),(20,[96,560]),(23,[64,576])] (hD 14 E (hE 15 E (hC 18 (yn0.c (_,_,_,_,_) I) (hA 20 8 K h0)))) ?_;refine rg G (jab (rg G (tl Z (fun j=>⟨[(2,dV p),(5,.ref 16 0),(6,.ref 32 0),(8,.ref 48 0),(11,.ref 64 0),(12,dV v),(13,.own 80)],[cu 16 t,dI 32 f,eu 48 r,bX 64 95 [.own 96,.own 112,.own 128,kV .i64 0,nS],aX 80 3 j,aX 96 53 a,aX 112 3 (b++([i]:List Int)),aX 128 53 d],160⟩) (fun j Z=>?_) ?_)))
   ·refine jaa (lp G Z (fun(l,m)=>⟨[(2,dV p),(5,.ref 16 0),(6,.ref 32 0),(8,.ref 48 0),(11,.ref 64 0),(12,dV v),(13,.own 80),(14,dV l)],[cu 16 t,dI 32 f,eu 48 r,bX 64 95 [.own 96,.own 112,.own 128,kV .i64 0,nS],aX 80 3 m,aX 96 53 a,aX 112 3 (b++([i]:List Int)),aX 128 53 d],160⟩) ?_);rintro⟨l,m⟩ H n Z;rw[ylc]at Z;refine jab (rs G (hN 5 a h0) ?_);refine cd Z ?_ ?_<;>intro Z
    ·refine jae (thN (jab (jaa (rg G (jn Z (fun q=>⟨[(2,dV p),(5,.ref 16 0),(6,.ref 32 0),(8,.ref 48 0),(11,.ref 64 0),(12,dV v),(13,.own 80),(14,dV l),(15,dV q)],[cu 16 t,dI 32 f,eu 48 r,bX 64 95 [.own 96,.own 112,.own 128,kV .i64 0,nS],aX 80 3 m,aX 96 53 a,aX 112 3 (b++([i]:List Int)),aX 128 53 d],160⟩) (fun q Z=>?_) ?_)))))
     ·refine rg G (cd Z ?_ ?_)<;>intro Z
      ·obtain⟨N,e,O,g,Q,u,Z⟩:=ob3 Z;refine de G [(18,[])] (hD 9 e (hE 10 e (hD 16 g (hE 17 g (hC 20 (yn0.c (_,_,_,_,_) u) h0))))) ?_;exact wJ G Z
      ·exact jae (wJ G Z)
     rintro q Z;obtain⟨R,w,Z⟩:=jaf Z;refine re G (hA 3 8 w h0) ?_;exact ibN (thN (rh G (wL G Z)))
    ·exact jag (thE (thE (ibE (wD G Z n))))
   rintro j Z s F;refine thN (jah F ?_);obtain⟨T,x,Z⟩:=jaf Z;refine re G (hO 6 (.fz [80] [] []) (hA 7 24 x h0)) ?_;exact ibN (thN (rh G (wL G Z)))
  ·exact jag (thE (thE (ibE (wD G Z hb))))
 rintro⟨C,D⟩ Z U A;refine thN (jah A ?_);obtain⟨V,B,Z⟩:=jaf Z;refine rs G (hO 1 (.fz [32,48,64] [] [(16,[.k,.k,.k,.k,.z 1])]) (hC 1 (yrh B) h0)) ?_;refine rg G ?_;cases Z;exact rt [16,112] []
def ycf(a:eZ->Int->Option (Int×(List Int))):MS (eZ×Int) (Int×(List Int)):=⟨⟨[.bo 1,.rd],fun x=>[.sc undef,Enc.e x.2],fun x=>[.box 95 [dV x.1.bP,dV x.1.gQ,dV x.1.dF,dV x.1.iB,.own 1],arO 3 x.1.iG],2,2,fun _=>rfl,fun _=>rfl,rfl,(by
  rintro⟨b,c⟩ ⟨b0,d⟩ h hO;have f:b=b0:=Enc.inj _ _ (congrArg D.agg (jbc (congrArg (fun l=>obC l 0 0) hO) (jbc (congrArg (fun l=>obC l 0 1) hO) (jbc (congrArg (fun l=>obC l 0 2) hO) (jbc (congrArg (fun l=>obC l 0 3) hO) (jbc (congrArg (fun l=>D.sl 1 (obL l 1)) hO) rfl))))));have q1:c=d:=qI 1 h;subst f;subst q1;rfl)⟩,fun x=>a x.1 x.2,fun y=>dV y.1,fun _=>[],fun x y=>[.box 95 [dV x.1.bP,dV x.1.gQ,dV x.1.dF,dV x.1.iB,.own 1],arO 3 y.2]⟩
def yrj:MS (eZ×Int) (Int×(List Int)):=ycf zq89
theorem yw5{x done y}(Z:zq89 x done=some y):yrj.C (x,done) y:=yrj.c (x,done) Z
theorem yri{a:eZ->Int->Option (Int×(List Int))}{x done y}(Z:a x done=some y):(ycf a).C (x,done) y:=(ycf a).c (x,done) Z
def yfd(a:eZ->Int->Option (Int×(List Int))):MS (eZ×Int×Int×Int) (Int×(List Int)):=⟨⟨[.bo 1,.rd,.rd,.rd],fun x=>[.sc undef,Enc.e x.2.1,Enc.e x.2.2.1,Enc.e x.2.2.2],fun x=>[.box 95 [dV x.1.bP,dV x.1.gQ,dV x.1.dF,dV x.1.iB,.own 1],arO 3 x.1.iG],2,2,fun _=>rfl,fun _=>rfl,rfl,(by
  rintro⟨b,c,d,f⟩ ⟨b0,g,i,j⟩ h hO;have k:b=b0:=Enc.inj _ _ (congrArg D.agg (jbc (congrArg (fun l=>obC l 0 0) hO) (jbc (congrArg (fun l=>obC l 0 1) hO) (jbc (congrArg (fun l=>obC l 0 2) hO) (jbc (congrArg (fun l=>obC l 0 3) hO) (jbc (congrArg (fun l=>D.sl 1 (obL l 1)) hO) rfl))))));have q1:c=g:=qI 1 h;have m:d=i:=qI 2 h;have n:f=j:=qI 3 h;subst k;subst q1;subst m;subst n;rfl)⟩,fun x=>zq88 a x.1 x.2.1 x.2.2.1 x.2.2.2,fun y=>dV y.1,fun _=>[],fun x y=>[.box 95 [dV x.1.bP,dV x.1.gQ,dV x.1.dF,dV x.1.iB,.own 1],arO 3 y.2]⟩
theorem yk6{a:eZ->Int->Option (Int×(List Int))}{x done i k y}(Z:zq88 a x done i k=some y):(yfd a).C (x,done,i,k) y:=(yfd a).c (x,done,i,k) Z
theorem ybl{p:eZ->Int->Option (Int×(List Int))}(t:FnOK Tryz.prog tJ 49 (ycf p).S):FnOK Tryz.prog tJ 93 (yfd p).S:=by
 refine fm tt (yfd p) [fo t] call93 func93 rfl results93 ntmps93 ?_;rintro⟨x,done,i,k⟩ y cx G (Z:zq88 p x done i k=some y);unfold zq88 at Z;refine rg G (jab ?_);obtain⟨u,h,Z⟩:=jaf Z;refine jn Z (fun v=>⟨[(0,.ref 0 0),(1,dV done),(2,dV i),(3,dV k),(31,dV v)],[bX 0 95 [dV x.bP,dV x.gQ,dV x.dF,dV x.iB,.own 1],aX 1 3 x.iG],48⟩) (fun v Z=>?_) ?_
 ·rcases bf Z with⟨hb,Z⟩|⟨hb,Z⟩
  ·refine re G (hK h (hO 9 (.b true) (hP hb h0))) ?_;exact wJ G Z
  ·obtain⟨e,a,m,c,Z⟩:=ob2 Z;refine re G (hK h (hO 9 (.b false) (hP hb (hD 15 a (hD 18 c h0))))) ?_;exact wJ G Z
 rintro v Z;refine cd Z ?_ ?_<;>intro Z
 ·refine rg G ?_;cases Z;exact rt [] []
 ·refine jae (thN ?_);obtain⟨n,d,o,f,r,g,Z⟩:=ob3 Z;refine rs G (hK d (hK f (hC 10 (yri g) h0))) ?_;refine jab (rg G (cd Z ?_ ?_))<;>intro Z
  ·refine rg G ?_;cases Z;exact rt [] []
  ·refine jae (thN ?_);obtain⟨q,j,s,l,Z⟩:=ob2 Z;refine rs G (hD 5 j (hD 8 l h0)) ?_;cases Z;exact rt [] []
theorem yuz{F:eZ->Int->Option (Int×(List Int))}(P:FnOK Tryz.prog tJ 49 (ycf F).S):FnOK Tryz.prog tJ 49 (ycf (yfc F)).S:=by
 refine fm tt (ycf (yfc F)) [fo P,fo (ybl P)] call49 func49 rfl results49 ntmps49 ?_;rintro⟨x,done⟩ y cx G (Z:yfc F x done=some y);unfold yfc at Z;refine rg G (rs G (hN 4 x.bP h0) ?_);refine jab ?_;obtain⟨u,h,Z⟩:=jaf Z;refine rs G (hK h h0) ?_;refine cd Z ?_ ?_<;>intro Z
 ·refine rg G ?_;cases Z;exact rt [] []
 ·refine jae (thN (jab ?_));obtain⟨e,t,Z⟩:=jaf Z;refine rs G (hD 5 t (hE 6 t h0)) ?_;refine cd Z ?_ ?_<;>intro Z
  ·obtain⟨W,w,Z⟩:=jaf Z;refine rs G (hD 5 w (hE 6 w h0)) ?_;cases Z;exact rt [] []
  ·refine jae (thN (rg G (jn Z (fun p=>⟨[(0,.ref 0 0),(1,dV done),(5,dV (x.bP.length:Int)),(6,dV p)],[bX 0 95 [dV x.bP,dV x.gQ,dV x.dF,dV x.iB,.own 1],aX 1 3 x.iG],48⟩) (fun p Z=>?_) ?_)))
   ·refine jaa (lp G Z (fun aa=>⟨[(0,.ref 0 0),(1,dV done),(5,dV (x.bP.length:Int)),(6,dV aa)],[bX 0 95 [dV x.bP,dV x.gQ,dV x.dF,dV x.iB,.own 1],aX 1 3 x.iG],48⟩) ?_);rintro aa I hb Z;rw[yk5]at Z;refine jab ?_;obtain⟨X,K,Z⟩:=jaf Z;refine rs G (hK K h0) ?_;refine cd Z ?_ ?_<;>intro Z
    ·exact jae (thN (jaa (rh G (ibN (wL G Z)))))
    ·exact jag (thE (thE (ibE (wD G Z hb))))
   rintro p Z;refine rg G (jn Z (fun(k,v)=>⟨[(0,.ref 0 0),(1,dV done),(5,dV (x.bP.length:Int)),(6,dV p),(7,dV k)],[bX 0 95 [dV x.bP,dV x.gQ,dV x.dF,dV x.iB,.own 1],aX 1 3 v],48⟩) (fun L Z=>?_) ?_)
   ·obtain⟨Y,M,Z⟩:=jaf Z;refine rs G (hD 5 M h0) ?_;refine cd Z ?_ ?_<;>intro Z
    ·obtain⟨u2,N,r,O,Z⟩:=ob2 Z;refine rs G (hK N (hC 6 (yri O) h0)) ?_;refine rg G (cd Z ?_ ?_)<;>intro Z
     ·obtain⟨e3,Q,Z⟩:=jaf Z;refine re G (hD 5 Q h0) ?_;exact wJ G Z
     ·exact jae (wJ G Z)
    ·exact jae (wJ G Z)
   rintro⟨k,v⟩ Z;refine jab (rg G (tl Z (fun(i,z)=>⟨[(0,.ref 0 0),(1,dV done),(7,dV i)],[bX 0 95 [dV x.bP,dV x.gQ,dV x.dF,dV x.iB,.own 1],aX 1 3 z],48⟩) (fun R Z=>?_) ?_))
   ·refine jaa (lp G Z (fun(j,J,A)=>⟨[(0,.ref 0 0),(1,dV done),(5,dV (x.bP.length:Int)),(6,dV p),(7,dV j),(9,dV J)],[bX 0 95 [dV x.bP,dV x.gQ,dV x.dF,dV x.iB,.own 1],aX 1 3 A],48⟩) ?_);rintro⟨j,J,A⟩ I l Z;rw[yk4]at Z;refine jab (rg G (cd Z ?_ ?_))<;>intro Z
    ·refine jae (thN (jn Z (fun(B,C)=>⟨[(0,.ref 0 0),(1,dV done),(5,dV (x.bP.length:Int)),(6,dV p),(7,dV B),(9,dV J)],[bX 0 95 [dV x.bP,dV x.gQ,dV x.dF,dV x.iB,.own 1],aX 1 3 C],48⟩) (fun T Z=>?_) ?_))
     ·refine jaa (jab ?_);obtain⟨u3,U,Z⟩:=jaf Z;refine rs G (hK U h0) ?_;refine cd Z ?_ ?_<;>intro Z
      ·exact jag (thE (ibE (wJ G Z)))
      ·refine jae (thN (jn Z (fun(m,D)=>⟨[(0,.ref 0 0),(1,dV done),(5,dV (x.bP.length:Int)),(6,dV p),(7,dV m),(9,dV J)],[bX 0 95 [dV x.bP,dV x.gQ,dV x.dF,dV x.iB,.own 1],aX 1 3 D],48⟩) (fun vv Z=>?_) ?_))
       ·obtain⟨E,V,Z⟩:=jaf Z;refine rs G (hC 4 (yk6 V) h0) ?_;refine jn Z (fun n=>⟨[(0,.ref 0 0),(1,dV done),(5,dV (x.bP.length:Int)),(6,dV p),(7,dV j),(9,dV J),(10,dV E.1),(101,dV n)],[bX 0 95 [dV x.bP,dV x.gQ,dV x.dF,dV x.iB,.own 1],aX 1 3 E.2],48⟩) (fun n Z=>?_) ?_
        ·rcases bf Z with⟨a,Z⟩|⟨a,Z⟩
         ·rcases bf Z with⟨d,Z⟩|⟨d,Z⟩
          ·refine re G (hO 2 (.b true) (hP a (hO 5 (.b true) (hP d h0)))) ?_;exact wJ G Z
          ·refine re G (hO 2 (.b true) (hP a (hO 5 (.b false) (hP d h0)))) ?_;exact wJ G Z
         ·refine re G (hO 2 (.b false) (hP a h0)) ?_;exact wJ G Z
        rintro n Z;refine cd Z ?_ ?_<;>intro Z
        ·exact rh G (wJ G Z)
        ·exact jae (wJ G Z)
       rintro⟨m,D⟩ Z;obtain⟨H,o,Z⟩:=jaf Z;refine rs G (hC 4 (yk6 o) h0) ?_;refine jn Z (fun q=>⟨[(0,.ref 0 0),(1,dV done),(5,dV (x.bP.length:Int)),(6,dV p),(7,dV m),(9,dV J),(11,dV H.1),(118,dV q)],[bX 0 95 [dV x.bP,dV x.gQ,dV x.dF,dV x.iB,.own 1],aX 1 3 H.2],48⟩) (fun q Z=>?_) ?_
       ·rcases bf Z with⟨c,Z⟩|⟨c,Z⟩
        ·rcases bf Z with⟨f,Z⟩|⟨f,Z⟩
         ·refine re G (hO 2 (.b true) (hP c (hO 5 (.b true) (hP f h0)))) ?_;exact wJ G Z
         ·refine re G (hO 2 (.b true) (hP c (hO 5 (.b false) (hP f h0)))) ?_;exact wJ G Z
        ·refine re G (hO 2 (.b false) (hP c h0)) ?_;exact wJ G Z
       rintro q Z;refine cd Z ?_ ?_<;>intro Z
       ·exact rh G (ibN (wJ G Z))
       ·exact jae (ibN (wJ G Z))
     rintro⟨B,C⟩ Z;exact rh G (wL G Z)
    ·exact jag (thE (thE (ibE (wD G Z l))))
   rintro⟨i,z⟩ Z s hw;refine thN (jah hw ?_);obtain⟨e4,g,Z⟩:=jaf Z;refine rs G (hD 6 g (hS 7 g i h0)) ?_;refine rg G ?_;cases Z;exact rt [] []
theorem ynz:∀k,FnOK Tryz.prog tJ 49 (ycf (ygi k)).S
 |0=>⟨fun args w=>call49 args w,fun vs w F ds obs κ a=>by obtain⟨x,y,_,_,h⟩:=a;cases h⟩
 |k+1=>yuz (ynz k)
theorem yk3:FnOK Tryz.prog tJ 49 yrj.S:=ynz 4294967296
theorem yxn:FnOK Tryz.prog tJ 93 (yfd zq89).S:=ybl yk3
def yrk:MS eZ ((List Int)×eZ):=⟨.b 95,zq87,fun _=>.own 0,fun y=>[arO 3 y.1,arO 3 y.2.iG],fun _ y=>[.box 95 [dV y.2.bP,dV y.2.gQ,dV y.2.dF,dV y.2.iB,.own 2]]⟩
theorem yxo:FnOK Tryz.prog tJ 50 yrk.S:=by
 refine fm tt yrk [fo yrg,fo yk3,fo yxn] call50 func50 rfl results50 ntmps50 ?_;rintro x y cx G (Z:zq87 x=some y);unfold zq87 at Z;refine rg G (rs G (hN 4 x.bP h0) ?_);obtain⟨u,h,Z⟩:=jaf Z;refine rs G (hO 1 (.l (List.map Enc.e (List.replicate (x.bP.length:Int).toNat (0:Int)))) (hP (mk_p (b:=8) (ku h) rfl) (hP (jma Enc.e (x.bP.length:Int).toNat (0:Int)) h0))) ?_;refine rg G ?_;obtain⟨r,h1,Z⟩:=jaf Z;refine rs G (hC 1 (yrh h1) h0) ?_;obtain⟨I,h2,Z⟩:=jaf Z;refine rs G (hC 1 (yw5 h2) h0) ?_;refine jab (rg G (tl Z (fun P=>⟨[(0,.ref 0 0),(3,dV (x.bP.length:Int)),(4,.own 32),(5,kV .i64 0),(6,kV .i64 0),(7,dV I.1)],[bX 0 95 [dV r.bP,dV r.gQ,dV r.dF,dV r.iB,.own 48],aX 32 3 P,aX 48 3 I.2],80⟩) (fun P Z=>?_) ?_))
 ·refine jaa (lp G Z (fun(i,done)=>⟨[(0,.ref 0 0),(3,dV (x.bP.length:Int)),(4,.own 32),(5,kV .i64 0),(6,kV .i64 0),(7,dV I.1),(8,dV i)],[bX 0 95 [dV r.bP,dV r.gQ,dV r.dF,dV r.iB,.own 48],aX 32 3 done,aX 48 3 I.2],80⟩) ?_);rintro⟨i,done⟩ W hb Z;rw[yk9]at Z;refine jab (rg G (cd Z ?_ ?_))<;>intro Z
  ·refine jae (thN (jab (jaa ?_)));obtain⟨e,X,Z⟩:=jaf Z;refine re G (hD 3 X (hS 4 X (x.bP.length:Int) h0)) ?_;exact ibN (thN (rh G (wL G Z)))
  ·exact jag (thE (thE (ibE (wD G Z hb))))
 rintro P Z s hw;refine thN (jah hw ?_);refine jab (rg G (tl Z (fun(t,w,z,A,ae,B)=>⟨[(0,.ref 0 0),(4,.own 32)],[bX 0 95 [dV t,dV w,dV z,dV A,.own 48],aX 32 3 ae,aX 48 3 B],80⟩) (fun ak Z=>?_) ?_))
 ·refine jaa (lp G Z (fun(p,left,d,k,v,f,g,j,aa,Y)=>⟨[(0,.ref 0 0),(3,dV (x.bP.length:Int)),(4,.own 32),(5,dV p),(6,dV left),(7,dV d),(9,dV k)],[bX 0 95 [dV v,dV f,dV g,dV j,.own 48],aX 32 3 aa,aX 48 3 Y],80⟩) ?_);rintro⟨p,left,d,k,v,f,g,j,aa,Y⟩ W K Z;rw[yk7]at Z;refine jab (rg G (cd Z ?_ ?_))<;>intro Z
  ·refine jae (thN (jn Z (fun(J,af,i2,v5,v6,v7,v8,ab,v9)=>⟨[(0,.ref 0 0),(3,dV (x.bP.length:Int)),(4,.own 32),(5,dV J),(6,dV af),(7,dV i2),(9,dV k)],[bX 0 95 [dV v5,dV v6,dV v7,dV v8,.own 48],aX 32 3 ab,aX 48 3 v9],80⟩) (fun aj Z=>?_) ?_))
   ·refine jaa (jab ?_);obtain⟨u1,h4,Z⟩:=jaf Z;refine rs G (hK h4 h0) ?_;refine cd Z ?_ ?_<;>intro Z
    ·exact jag (thE (ibE (wJ G Z)))
    ·refine jae (thN (jab (rg G (tl Z (fun(ad,C)=>⟨[(0,.ref 0 0),(3,dV (x.bP.length:Int)),(4,.own 32),(5,dV p),(6,dV left),(7,dV d),(9,dV k)],[bX 0 95 [dV v,dV f,dV g,dV j,.own 48],aX 32 3 ad,aX 48 3 C],80⟩) (fun ai Z=>?_) ?_))))
     ·refine jaa (lp G Z (fun(a,F,c)=>⟨[(0,.ref 0 0),(3,dV (x.bP.length:Int)),(4,.own 32),(5,dV p),(6,dV left),(7,dV d),(9,dV k),(10,dV a)],[bX 0 95 [dV v,dV f,dV g,dV j,.own 48],aX 32 3 F,aX 48 3 c],80⟩) ?_);rintro⟨a,F,c⟩ W L Z;rw[yk8]at Z;refine jab (jn Z (fun m=>⟨[(0,.ref 0 0),(3,dV (x.bP.length:Int)),(4,.own 32),(5,dV p),(6,dV left),(7,dV d),(9,dV k),(10,dV a),(52,dV m)],[bX 0 95 [dV v,dV f,dV g,dV j,.own 48],aX 32 3 F,aX 48 3 c],80⟩) (fun m Z=>?_) ?_)
      ·rcases bf Z with⟨n,Z⟩|⟨n,Z⟩
       ·obtain⟨e1,h5,Z⟩:=jaf Z;refine re G (hO 3 (.b true) (hP n (hD 6 h5 (hE 7 h5 h0)))) ?_;exact wJ G Z
       ·refine re G (hO 3 (.b false) (hP n h0)) ?_;exact wJ G Z
      rintro m Z;refine cd Z ?_ ?_<;>intro Z
      ·refine jae (thN (jn Z (fun(ac,D)=>⟨[(0,.ref 0 0),(3,dV (x.bP.length:Int)),(4,.own 32),(5,dV p),(6,dV left),(7,dV d),(9,dV k),(10,dV a)],[bX 0 95 [dV v,dV f,dV g,dV j,.own 48],aX 32 3 ac,aX 48 3 D],80⟩) (fun vv Z=>?_) ?_))
       ·refine jaa (jab (jn Z (fun o=>⟨[(0,.ref 0 0),(3,dV (x.bP.length:Int)),(4,.own 32),(5,dV p),(6,dV left),(7,dV d),(9,dV k),(10,dV a),(65,dV o)],[bX 0 95 [dV v,dV f,dV g,dV j,.own 48],aX 32 3 F,aX 48 3 c],80⟩) (fun o Z=>?_) ?_))
        ·rcases bf Z with⟨q,Z⟩|⟨q,Z⟩
         ·refine re G (hO 3 (.b true) (hP q h0)) ?_;exact wJ G Z
         ·obtain⟨u2,h6,Z⟩:=jaf Z;refine re G (hO 3 (.b false) (hP q (hK h6 h0))) ?_;exact wJ G Z
        rintro o Z;refine cd Z ?_ ?_<;>intro Z
        ·exact jag (thE (ibE (wJ G Z)))
        ·refine jae (thN ?_);obtain⟨r2,h7,Z⟩:=jaf Z;refine rs G (hC 4 (yk6 h7) h0) ?_;refine cd Z ?_ ?_<;>intro Z
         ·obtain⟨e2,h8,Z⟩:=jaf Z;refine re G (hD 3 h8 (hS 4 h8 a h0)) ?_;exact ibN (wJ G Z)
         ·exact jae (ibN (wJ G Z))
       rintro⟨ac,D⟩ Z;exact rh G (wL G Z)
      ·exact jag (thE (thE (ibE (wD G Z L))))
     rintro⟨ad,C⟩ Z s1 M;refine thN (jah M ?_);refine jab ?_;obtain⟨e3,h9,Z⟩:=jaf Z;refine rs G (hD 2 h9 (hE 3 h9 h0)) ?_;refine cd Z ?_ ?_<;>intro Z
     ·obtain⟨e7,N,e8,E,e9,O,Z⟩:=ob3 Z;refine ds G [] (hD 7 N (hD 11 E (hE 12 E (hD 13 O h0)))) ?_;obtain⟨u3,Q,ah,H,u4,R,Z⟩:=ob3 Z;refine rs G (hK Q (hD 7 H (hE 8 H (hK R h0)))) ?_;exact jag (thE (ibE (wJ G Z)))
     ·refine jae (thN ?_);obtain⟨u5,T,Z⟩:=jaf Z;refine rs G (hK T h0) ?_;obtain⟨r3,U,Z⟩:=jaf Z;refine re G (hO 2 (.fz [48] [] []) (hC 2 (yrh U) h0)) ?_;exact ibN (wJ G Z)
   rintro⟨J,af,i2,v5,v6,v7,v8,ab,v9⟩ Z;exact rh G (wL G Z)
  ·exact jag (thE (thE (ibE (wD G Z K))))
 rintro⟨t,w,z,A,ae,B⟩ Z s2 V;refine thN (jah V ?_);refine rg G ?_;cases Z;exact rt [32,48] []
end
end Go.Proofs.YtimecodbnhcnoaaGreat
