/- Each function computes what its model says. Made by program (dec.py). -/
import Derived.Test.YtimecodbnhcnoaaGreatTy
import Derived.Test.YtimecodbnhcnoaaGreatAbArr
import Derived.Test.YtimecodbnhcnoaaGreatCtM
import Derived.Test.YtimecodbnhcnoaaGreatAbLd
namespace Go.Proofs.YtimecodbnhcnoaaGreat
open Go Go.Ab Tryz
set_option maxRecDepth 100000
set_option maxHeartbeats 4000000
set_option linter.unusedVariables false
set_option linter.unusedSimpArgs false
noncomputable section
abbrev nS:AV:=.dat (.sc (.slice none 0 0))
abbrev mR{α β:Type}[Enc α][Enc β](m:α->Option β):MS α β:=⟨.r,m,fun y=>dV y,fun _=>[],fun _ _=>[]⟩
abbrev mS{α γ β:Type}[Enc α][Enc γ][Enc β](m:α->γ->Option β):MS (α×γ) β:=⟨.x .r .r,fun x=>m x.1 x.2,fun y=>dV y,fun _=>[],fun _ _=>[]⟩
theorem tt:TT Tryz.prog ty:=⟨by kernel_rfl,ty_ok⟩
abbrev tJ:Inv:=.none
def yka:MS (List UInt8) Bool:=mR yqf
theorem ysf:FnOK Tryz.prog tJ 5 yka.S:=by
 refine fm tt yka [] call5 func5 rfl results5 ntmps5 ?_;rintro a y cx G (Z:yqf a=some y);unfold yqf at Z;refine rg G (rs G (hN 1 a h0) ?_);cases Z;exact rt [] []
def yg7:MS l1Cur (Int×l1Cur):=⟨.b 58,yk3,fun y=>dV y.1,fun _=>[],fun _ y=>[bxO 58 y.2]⟩
theorem ys8:FnOK Tryz.prog tJ 109 yg7.S:=by
 refine fm tt yg7 [] call109 func109 rfl results109 ntmps109 ?_;rintro c y cx G (Z:yk3 c=some y);unfold yk3 at Z;refine rg G (rg G (jn Z (fun v=>⟨[(0,.ref 0 0),(3,dV v)],[bX 0 58 [dV c.code_,dV c.at_,kV .u64 c.seed_.v]],48⟩) (fun v Z=>?_) ?_))
 ·refine ds G [] (hN 8 c.code_ h0) ?_;refine cd Z ?_ ?_<;>intro Z
  ·obtain⟨d,a,Z⟩:=jaf Z;refine de G [] (hD 8 a h0) ?_;exact wJ G Z
  ·exact jae (wJ G Z)
 rintro v Z;refine rg G (rg G (jab (ds G [] (hN 8 c.code_ h0) ?_)));refine cd Z ?_ ?_<;>intro Z
 ·refine rg G ?_;cases Z;exact rt [] []
 ·refine jae (thN ?_);obtain⟨u,b,Z⟩:=jaf Z;refine rs G (hK b h0) ?_;cases Z;exact rt [] []
def yg3:MS (l1Cur×Int) (Int×l1Cur):=⟨.x (.b 58) .r,fun x=>yad x.1 x.2,fun y=>dV y.1,fun _=>[],fun _ y=>[bxO 58 y.2]⟩
theorem yaa{c n y}(Z:yad c n=some y):yg3.C (c,n) y:=yg3.c (c,n) Z
theorem yae:FnOK Tryz.prog tJ 64 yg3.S:=by
 refine fm tt yg3 [fo ys8] call64 func64 rfl results64 ntmps64 ?_;rintro⟨c,n⟩ y cx G (Z:yad c n=some y);unfold yad at Z;refine rg G (jab (rg G (cd Z ?_ ?_)))<;>intro Z
 ·refine rg G ?_;cases Z;exact rt [] []
 ·refine jae (thN ?_);obtain⟨r,h,Z⟩:=jaf Z;refine rs G (hC 1 (yg7.c _ h) h0) ?_;refine jn Z (fun(v,a,b,d)=>⟨[(0,.ref 0 0),(1,dV n),(5,dV v)],[bX 0 58 [dV a,dV b,kV .u64 d]],48⟩) (fun i Z=>?_) ?_
  ·refine rg G (cd Z ?_ ?_)<;>intro Z
   ·obtain⟨g,e,Z⟩:=jaf Z;refine re G (hC 3 (yg7.c _ e) h0) ?_;exact wJ G Z
   ·exact jae (wJ G Z)
  rintro⟨v,a,b,d⟩ Z;obtain⟨u,f,Z⟩:=jaf Z;refine rs G (hK f h0) ?_;cases Z;exact rt [] []
def yg5:MS (l1Cur×Int) (Bool×l1Cur):=⟨.x (.b 58) .r,fun x=>yd3 x.1 x.2,fun y=>dV y.1,fun _=>[],fun _ y=>[bxO 58 y.2]⟩
theorem yg4{c n y}(Z:yd3 c n=some y):yg5.C (c,n) y:=yg5.c (c,n) Z
theorem ydg:FnOK Tryz.prog tJ 34 yg5.S:=by
 refine fm tt yg5 [fo yae] call34 func34 rfl results34 ntmps34 ?_;rintro⟨c,n⟩ y cx G (Z:yd3 c n=some y);unfold yd3 at Z;refine rg G ?_;obtain⟨r,h,Z⟩:=jaf Z;refine rs G (hC 2 (yaa h) h0) ?_;cases Z;exact rt [] []
def ya7(a:Int->Option (ByteArray)):MS Int ByteArray:=mR a
def ygv:MS Int ByteArray:=ya7 yn1
theorem ymx{a:Int->Option (ByteArray)}{n y}(Z:a n=some y):(ya7 a).C n y:=(ya7 a).c n Z
theorem yqo{p:Int->Option (ByteArray)}(t:FnOK Tryz.prog tJ 118 (ya7 p).S):FnOK Tryz.prog tJ 118 (ya7 (ybw p)).S:=by
 refine fm tt (ya7 (ybw p)) [fo t] call118 func118 rfl results118 ntmps118 ?_;rintro n y cx G (Z:ybw p n=some y);unfold ybw at Z;refine rg G (jab (rg G (cd Z ?_ ?_)))<;>intro Z
 ·obtain⟨r,h,u,f,Z⟩:=ob2 Z;refine rs G (hC 2 (ymx h) (hP (jra (jeb f)) h0)) ?_;cases Z;exact rt [] []
 ·refine jae (thN (jab (rg G (cd Z ?_ ?_))))<;>intro Z
  ·obtain⟨l,g,Z⟩:=jaf Z;refine rs G (hK g h0) ?_;cases Z;exact rt [] []
  ·refine jae (thN ?_);obtain⟨m,i,o,a,q,b,Z⟩:=ob3 Z;obtain⟨s,c,j,d,k,e,Z⟩:=ob3 Z;refine ds G [] (hK i (hC 2 (ymx a) (hK b (hK c (hK d (hP (jra (jeb e)) h0)))))) ?_;cases Z;exact rt [] []
theorem yh8:∀k,FnOK Tryz.prog tJ 118 (ya7 (ygu k)).S
 |0=>⟨fun args w=>call118 args w,fun vs w F ds obs κ a=>by obtain⟨x,y,_,_,h⟩:=a;cases h⟩
 |k+1=>yqo (yh8 k)
theorem ygt:FnOK Tryz.prog tJ 118 ygv.S:=yh8 4294967296
def yd0:MS (Line×Int) Int:=mS yh7
theorem ygl:FnOK Tryz.prog tJ 139 yd0.S:=by
 refine fm tt yd0 [] call139 func139 rfl results139 ntmps139 ?_;rintro⟨x,c⟩ y cx G (Z:yh7 x c=some y);unfold yh7 at Z;refine rg G (jab (rg G (tF Z (fun _=>⟨[],[],32⟩) (fun a d Z=>?_) ?_)))
 ·refine jaa (lp G Z (fun v=>⟨[(1,dV c),(2,.ref 16 0),(5,dV v)],[bX 16 147 [dV x.Name,dV x.Stops,dV x.Runs]],48⟩) ?_);rintro v b hb Z;rw[yc6]at Z;refine jab (rs G (hN 3 x.Stops h0) ?_);refine cd Z ?_ ?_<;>intro Z
  ·refine jae (thN (jab (jaa ?_)));obtain⟨e,h,Z⟩:=jaf Z;refine rs G (hD 3 h h0) ?_;refine cd Z ?_ ?_<;>intro Z
   ·refine rg G ?_;have Z:=eL Z hb d;cases Z;exact rt [] []
   ·exact jae (ibN (thN (rh G (wL G Z))))
  ·exact jag (thE (thE (ibE (wE G Z hb))))
 rintro⟨⟩ Z s f;refine thN (jai f ?_);refine rg G ?_;cases Z;exact rt [] []
def yop:MS (l1Cur×ByteArray×Int) (Line×l1Cur):=⟨.x (.b 58) (.x .r .r),fun x=>zq99 x.1 x.2.1 x.2.2,fun y=>.aggv [dV y.1.Name,.own 0,.own 1],fun y=>[arO 3 y.1.Stops,arO 3 y.1.Runs],fun _ y=>[bxO 58 y.2]⟩
theorem yuf:FnOK Tryz.prog tJ 117 yop.S:=by
 refine fm tt yop [fo yae,fo ygl] call117 func117 rfl results117 ntmps117 ?_;rintro⟨c,p,F⟩ y cx G (Z:zq99 c p F=some y);unfold zq99 at Z;refine rg G (rg G ?_);obtain⟨r,h,Z⟩:=jaf Z;refine rs G (hC 2 (yaa h) h0) ?_;refine jab ?_;obtain⟨X,O,Z⟩:=jaf Z;refine rs G (hC 1 (yaa O) h0) ?_;refine tl Z (fun(q,t,w,b)=>⟨[(0,.ref 0 0),(2,dV F),(6,.ref 32 0),(7,.ref 48 0)],[bX 0 58 [dV q,dV t,kV .u64 w],bX 32 147 [dV ByteArray.empty,nS,nS],bX 48 147 [dV p,.own 64,nS],aX 64 3 b],96⟩) (fun Q Z=>?_) ?_
 ·refine jaa (lpP Z (fun(v,x,z,A,B,M)=>⟨[(0,.ref 0 0),(2,dV F),(6,.ref 32 0),(7,.ref 48 0),(8,dV v),(9,dV x)],[bX 0 58 [dV z,dV A,kV .u64 B],bX 32 147 [dV ByteArray.empty,nS,nS],bX 48 147 [dV p,.own 64,nS],aX 64 3 M],96⟩) (Wk_J G.hL ⟨[(0,[]),(2,[]),(6,[]),(7,[]),(8,[]),(9,[])],[(0,0,[]),(32,16,[]),(48,64,[.k,.o 64])],[(64,3,1,[])],96⟩ (by kernel_rfl)) ?_);rintro⟨v,x,z,A,B,M⟩ R hb Z;rw[ye9]at Z;refine jab (rg G (cd Z ?_ ?_))<;>intro Z
  ·refine jae (thN (jab (jaa (jn Z (fun C=>⟨[(0,.ref 0 0),(2,dV F),(6,.ref 32 0),(7,.ref 48 0),(8,dV v),(9,dV x)],[bX 0 58 [dV z,dV A,kV .u64 B],bX 32 147 [dV ByteArray.empty,nS,nS],bX 48 147 [dV p,.own 64,nS],aX 64 3 C],96⟩) (fun C Z=>?_) ?_))))
   ·obtain⟨Y,T,Z⟩:=jaf Z;refine rs G (hC 2 (yd0.c (_,_) T) h0) ?_;refine cd Z ?_ ?_<;>intro Z
    ·obtain⟨u,U,Z⟩:=jaf Z;refine re G (hA 4 8 U h0) ?_;exact wJ G Z
    ·exact jae (wJ G Z)
   rintro C Z;obtain⟨r3,V,u1,W,Z⟩:=ob2 Z;refine re G (hC 3 (yaa V) (hK W h0)) ?_;exact ibN (thN (rh G (wL G Z)))
  ·exact jag (thE (thE (ibE (wD G Z hb))))
 rintro⟨q,t,w,b⟩ Z s J;refine thN (jai J ?_);refine jn Z (fun a=>⟨[(0,.ref 0 0),(6,.ref 32 0),(7,.ref 48 0)],[bX 0 58 [dV q,dV t,kV .u64 w],bX 32 147 [dV ByteArray.empty,nS,nS],bX 48 147 [dV p,.own 64,nS],aX 64 3 a],96⟩) (fun a Z=>?_) ?_
 ·refine rs G (hN 2 b h0) ?_;refine cd Z ?_ ?_<;>intro Z
  ·obtain⟨P,N,u4,D,u5,E,Z⟩:=ob3 Z;refine de G [(10,[64,304]),(12,[48,320])] (hD 4 N (hE 5 N (hK D (hA 10 8 E h0)))) ?_;exact wJ G Z
  ·exact jae (wJ G Z)
 rintro a Z;refine jab (rg G (tl Z (fun(d,e,f,g)=>⟨[(0,.ref 0 0),(6,.ref 32 0),(7,.ref 48 0)],[bX 0 58 [dV d,dV e,kV .u64 f],bX 32 147 [dV ByteArray.empty,nS,nS],bX 48 147 [dV p,.own 64,.own 80],aX 64 3 a,aX 80 3 g],112⟩) (fun vv Z=>?_) ?_))
 ·refine jaa (lpP Z (fun(i,j,l,m,n)=>⟨[(0,.ref 0 0),(6,.ref 32 0),(7,.ref 48 0),(10,dV i)],[bX 0 58 [dV j,dV l,kV .u64 m],bX 32 147 [dV ByteArray.empty,nS,nS],bX 48 147 [dV p,.own 64,.own 80],aX 64 3 a,aX 80 3 n],112⟩) (Wk_J G.hL ⟨[(0,[]),(6,[]),(7,[]),(10,[])],[(0,0,[]),(32,32,[]),(48,48,[.k,.k,.o 80]),(64,64,[])],[(80,3,1,[])],112⟩ (by kernel_rfl)) ?_);rintro⟨i,j,l,m,n⟩ R H Z;rw[ye8]at Z;refine jab (rs G (hN 3 a h0) ?_);refine cd Z ?_ ?_<;>intro Z
  ·refine jae (thN (jab (jaa ?_)));obtain⟨r5,I,u7,K,Z⟩:=ob2 Z;refine de G [(3,[0]),(6,[80,272]),(8,[48,288])] (hC 3 (yaa I) (hA 6 8 K h0)) ?_;exact ibN (thN (rh G (wL G Z)))
  ·exact jag (thE (thE (ibE (wD G Z H))))
 rintro⟨d,e,f,g⟩ Z s1 L;refine thN (jai L ?_);refine rg G ?_;cases Z;exact rt [64,80] []
def yg9:MS (l1Cur×ByteArray×Int) (Line×l1Cur):=⟨.x (.b 58) (.x .r .r),fun x=>yn6 x.1 x.2.1 x.2.2,fun y=>dV y.1,fun _=>[],fun _ y=>[bxO 58 y.2]⟩
theorem ym2:FnOK Tryz.prog tJ 117 yg9.S:=by
 refine fm tt yg9 [fo yae,fo ygl] call117 func117 rfl results117 ntmps117 ?_;rintro⟨c,p,F⟩ y cx G (Z:yn6 c p F=some y);unfold yn6 at Z;refine rg G (rg G ?_);obtain⟨r,h,Z⟩:=jaf Z;refine rs G (hC 2 (yaa h) h0) ?_;refine jab ?_;obtain⟨X,O,Z⟩:=jaf Z;refine rs G (hC 1 (yaa O) h0) ?_;refine tl Z (fun(q,t,w,b)=>⟨[(0,.ref 0 0),(2,dV F),(6,.ref 32 0),(7,.ref 48 0)],[bX 0 58 [dV q,dV t,kV .u64 w],bX 32 147 [dV ByteArray.empty,nS,nS],bX 48 147 [dV p,.own 64,nS],aX 64 3 b],96⟩) (fun Q Z=>?_) ?_
 ·refine jaa (lpP Z (fun(v,x,z,A,B,M)=>⟨[(0,.ref 0 0),(2,dV F),(6,.ref 32 0),(7,.ref 48 0),(8,dV v),(9,dV x)],[bX 0 58 [dV z,dV A,kV .u64 B],bX 32 147 [dV ByteArray.empty,nS,nS],bX 48 147 [dV p,.own 64,nS],aX 64 3 M],96⟩) (Wk_J G.hL ⟨[(0,[]),(2,[]),(6,[]),(7,[]),(8,[]),(9,[])],[(0,0,[]),(32,16,[]),(48,64,[.k,.o 64])],[(64,3,1,[])],96⟩ (by kernel_rfl)) ?_);rintro⟨v,x,z,A,B,M⟩ R hb Z;rw[ym4]at Z;refine jab (rg G (cd Z ?_ ?_))<;>intro Z
  ·refine jae (thN (jab (jaa (jn Z (fun C=>⟨[(0,.ref 0 0),(2,dV F),(6,.ref 32 0),(7,.ref 48 0),(8,dV v),(9,dV x)],[bX 0 58 [dV z,dV A,kV .u64 B],bX 32 147 [dV ByteArray.empty,nS,nS],bX 48 147 [dV p,.own 64,nS],aX 64 3 C],96⟩) (fun C Z=>?_) ?_))))
   ·obtain⟨Y,T,Z⟩:=jaf Z;refine rs G (hC 2 (yd0.c (_,_) T) h0) ?_;refine cd Z ?_ ?_<;>intro Z
    ·obtain⟨u,U,Z⟩:=jaf Z;refine re G (hA 4 8 U h0) ?_;exact wJ G Z
    ·exact jae (wJ G Z)
   rintro C Z;obtain⟨r3,V,u1,W,Z⟩:=ob2 Z;refine re G (hC 3 (yaa V) (hK W h0)) ?_;exact ibN (thN (rh G (wL G Z)))
  ·exact jag (thE (thE (ibE (wD G Z hb))))
 rintro⟨q,t,w,b⟩ Z s J;refine thN (jai J ?_);refine jn Z (fun a=>⟨[(0,.ref 0 0),(6,.ref 32 0),(7,.ref 48 0)],[bX 0 58 [dV q,dV t,kV .u64 w],bX 32 147 [dV ByteArray.empty,nS,nS],bX 48 147 [dV p,.own 64,nS],aX 64 3 a],96⟩) (fun a Z=>?_) ?_
 ·refine rs G (hN 2 b h0) ?_;refine cd Z ?_ ?_<;>intro Z
  ·obtain⟨P,N,u4,D,u5,E,Z⟩:=ob3 Z;refine de G [(10,[64,304]),(12,[48,320])] (hD 4 N (hE 5 N (hK D (hA 10 8 E h0)))) ?_;exact wJ G Z
  ·exact jae (wJ G Z)
 rintro a Z;refine jab (rg G (tl Z (fun(d,e,f,g)=>⟨[(0,.ref 0 0),(6,.ref 32 0),(7,.ref 48 0)],[bX 0 58 [dV d,dV e,kV .u64 f],bX 32 147 [dV ByteArray.empty,nS,nS],bX 48 147 [dV p,.own 64,.own 80],aX 64 3 a,aX 80 3 g],112⟩) (fun vv Z=>?_) ?_))
 ·refine jaa (lpP Z (fun(i,j,l,m,n)=>⟨[(0,.ref 0 0),(6,.ref 32 0),(7,.ref 48 0),(10,dV i)],[bX 0 58 [dV j,dV l,kV .u64 m],bX 32 147 [dV ByteArray.empty,nS,nS],bX 48 147 [dV p,.own 64,.own 80],aX 64 3 a,aX 80 3 n],112⟩) (Wk_J G.hL ⟨[(0,[]),(6,[]),(7,[]),(10,[])],[(0,0,[]),(32,32,[]),(48,48,[.k,.k,.o 80]),(64,64,[])],[(80,3,1,[])],112⟩ (by kernel_rfl)) ?_);rintro⟨i,j,l,m,n⟩ R H Z;rw[ym3]at Z;refine jab (rs G (hN 3 a h0) ?_);refine cd Z ?_ ?_<;>intro Z
  ·refine jae (thN (jab (jaa ?_)));obtain⟨r5,I,u7,K,Z⟩:=ob2 Z;refine de G [(3,[0]),(6,[80,272]),(8,[48,288])] (hC 3 (yaa I) (hA 6 8 K h0)) ?_;exact ibN (thN (rh G (wL G Z)))
  ·exact jag (thE (thE (ibE (wD G Z H))))
 rintro⟨d,e,f,g⟩ Z s1 L;refine thN (jai L ?_);refine rg G ?_;cases Z;exact rt [] []
def ygp:MS (List Int) (List Int):=mR ygq
theorem ygo{list y}(Z:ygq list=some y):ygp.C list y:=ygp.c list Z
theorem ymt:FnOK Tryz.prog tJ 119 ygp.S:=by
 refine fm tt ygp [] call119 func119 rfl results119 ntmps119 ?_;rintro d y cx G (Z:ygq d=some y);unfold ygq at Z;refine rg G (rg G (jab (rs G (hN 1 d h0) ?_)));refine tl Z (fun a=>⟨[(3,.own 16)],[aX 16 3 a],48⟩) (fun a Z=>?_) ?_
 ·refine jaa (lp G Z (fun(v,i)=>⟨[(0,dV d),(3,.own 16),(4,dV v)],[aX 16 3 i],48⟩) ?_);rintro⟨v,i⟩ c hb Z;rw[ymu]at Z;refine jab (rg G (cd Z ?_ ?_))<;>intro Z
  ·refine jae (thN (jab (jaa ?_)));obtain⟨e,h,u,b,Z⟩:=ob2 Z;refine re G (hD 3 h (hA 6 8 b h0)) ?_;exact ibN (thN (rh G (wL G Z)))
  ·exact jag (thE (thE (ibE (wD G Z hb))))
 rintro a Z s f;refine thN (jai f ?_);refine rg G ?_;cases Z;exact rt [] []
def ygs:MS (List Int) (List Int):=⟨.r,yn0,fun _=>.own 0,fun y=>[arO 3 y],fun _ _=>[]⟩
theorem yqn{l y}(Z:yn0 l=some y):ygs.C l y:=ygs.c l Z
theorem ys3:FnOK Tryz.prog tJ 52 ygs.S:=by
 refine fm tt ygs [] call52 func52 rfl results52 ntmps52 ?_;rintro l y cx G (Z:yn0 l=some y);unfold yn0 at Z;refine rg G ?_;obtain⟨u,h,Z⟩:=jaf Z;refine rs G (hA 2 8 h h0) ?_;cases Z;exact rt [64] []
def ygr:MS (List Int) (List Int):=mR yck
theorem yd1{l y}(Z:yck l=some y):ygr.C l y:=ygr.c l Z
theorem ymw:FnOK Tryz.prog tJ 52 ygr.S:=by
 refine fm tt ygr [] call52 func52 rfl results52 ntmps52 ?_;rintro l y cx G (Z:yck l=some y);unfold yck at Z;refine rg G ?_;obtain⟨u,h,Z⟩:=jaf Z;refine rs G (hA 2 8 h h0) ?_;cases Z;exact rt [] []
def ykr:MS Network Network:=⟨.r,yks,fun _=>.aggv [.own 0,.own 1],fun y=>[arO 9 y.Stops,arO 147 y.Lines],fun _ _=>[]⟩
theorem ysy:FnOK Tryz.prog tJ 120 ykr.S:=by
 refine fm tt ykr [fo ymw] call120 func120 rfl results120 ntmps120 ?_;rintro n y cx G (Z:yks n=some y);unfold yks at Z;refine rg G ?_;obtain⟨u,h,Z⟩:=jaf Z;refine rs G (hA 3 16 h h0) ?_;refine jab (rg G (tl Z (fun a=>⟨[(2,.ref 16 0),(3,.ref 32 0)],[bX 16 27 [nS,nS],bX 32 27 [.own 48,.own 64],aX 48 9 (([]:List ByteArray)++n.Stops),aX 64 147 a],96⟩) (fun a Z=>?_) ?_))
 ·refine jaa (lpP Z (fun(v,e)=>⟨[(1,.ref 16 0),(2,.ref 32 0),(3,.ref 48 0),(4,dV v)],[bX 16 27 [dV n.Stops,dV n.Lines],bX 32 27 [nS,nS],bX 48 27 [.own 64,.own 80],aX 64 9 (([]:List ByteArray)++n.Stops),aX 80 147 e],112⟩) (Wk_J G.hL ⟨[(1,[]),(2,[]),(3,[]),(4,[])],[(16,16,[]),(32,32,[]),(48,128,[.k,.o 80]),(64,96,[])],[(80,147,3,[])],112⟩ (by kernel_rfl)) ?_);rintro⟨v,e⟩ j hb Z;rw[yc7]at Z;refine jab (rs G (hN 3 n.Lines h0) ?_);refine cd Z ?_ ?_<;>intro Z
  ·refine jae (thN (jab (jaa ?_)));obtain⟨l,f,m,g,q,i,Z⟩:=ob3 Z;obtain⟨r,b,t,c,w,d,Z⟩:=ob3 Z;refine de G [(23,[]),(24,[80,560]),(26,[48,576])] (hD 5 f (hD 11 g (hC 14 (yd1 i) (hD 18 b (hC 21 (yd1 c) (hA 24 64 d h0)))))) ?_;exact ibN (thN (rh G (wL G Z)))
  ·exact jag (thE (thE (ibE (wD G Z hb))))
 rintro a Z s p;refine thN (jai p ?_);refine rg G ?_;cases Z;exact rt [48,64] []
def yg8:MS l1Cur (Network×l1Cur):=⟨.b 58,yn5,fun _=>.aggv [.own 0,.own 1],fun y=>[arO 9 y.1.Stops,arO 147 y.1.Lines],fun _ y=>[bxO 58 y.2]⟩
theorem ym0:FnOK Tryz.prog tJ 70 yg8.S:=by
 refine fm tt yg8 [fo yae,fo ygt,fo ym2,fo ydg,fo ymt,fo ysy] call70 func70 rfl results70 ntmps70 ?_;rintro c y cx G (Z:yn5 c=some y);unfold yn5 at Z;refine rg G ?_;obtain⟨r,h,Z⟩:=jaf Z;refine rs G (hC 1 (yaa h) h0) ?_;obtain⟨u,E,Z⟩:=jaf Z;refine rs G (hO 2 (.fz [96] [] []) (hU 2 E h0)) ?_;refine jab ?_;obtain⟨Q,H,Z⟩:=jaf Z;refine rs G (hC 1 (yaa H) h0) ?_;refine tl Z (fun(n,q,t,w)=>⟨[(0,.ref 0 0),(2,.ref 32 0),(4,.ref 48 0)],[bX 0 58 [dV n,dV q,kV .u64 t],bX 32 27 [nS,nS],bX 48 27 [dV ((([(str [112,111,114,116]),(str [109,105,108,108]),(str [112,97,114,107]),(str [104,97,108,108]),(str [100,111,99,107]),(str [102,97,105,114])]:List ByteArray).take (w64 (2+r.1)).toNat).drop (0:Int).toNat),.own 64],aX 64 147 w],96⟩) (fun I Z=>?_) ?_
 ·refine jaa (lpP Z (fun(x,v,z,A,B)=>⟨[(0,.ref 0 0),(2,.ref 32 0),(3,dV (w64 (2+r.1))),(4,.ref 48 0),(5,dV x)],[bX 0 58 [dV v,dV z,kV .u64 A],bX 32 27 [nS,nS],bX 48 27 [dV ((([(str [112,111,114,116]),(str [109,105,108,108]),(str [112,97,114,107]),(str [104,97,108,108]),(str [100,111,99,107]),(str [102,97,105,114])]:List ByteArray).take (w64 (2+r.1)).toNat).drop (0:Int).toNat),.own 64],aX 64 147 B],96⟩) (Wk_J G.hL ⟨[(0,[]),(2,[]),(3,[]),(4,[]),(5,[])],[(0,0,[]),(32,16,[]),(48,160,[.k,.o 64])],[(64,147,3,[])],96⟩ (by kernel_rfl)) ?_);rintro⟨x,v,z,A,B⟩ R hb Z;rw[ym1]at Z;refine jab (rg G (cd Z ?_ ?_))<;>intro Z
  ·refine jae (thN (jab (jaa ?_)));obtain⟨T,K,U,L,V,M,Z⟩:=ob3 Z;obtain⟨W,f,Z⟩:=jaf Z;refine de G [(7,[0]),(8,[]),(9,[64,256]),(11,[48,272])] (hC 4 (ygv.c _ K) (hP (jra (jeb L)) (hC 7 (yg9.c (_,_,_) M) (hA 9 64 f h0)))) ?_;exact ibN (thN (rh G (wL G Z)))
  ·exact jag (thE (thE (ibE (wD G Z hb))))
 rintro⟨n,q,t,w⟩ Z s p;refine thN (jai p ?_);refine jn Z (fun(C,D,a,b)=>⟨[(0,.ref 0 0),(2,.ref 32 0),(4,.ref 48 0)],[bX 0 58 [dV C,dV D,kV .u64 a],bX 32 27 [nS,nS],bX 48 27 [dV ((([(str [112,111,114,116]),(str [109,105,108,108]),(str [112,97,114,107]),(str [104,97,108,108]),(str [100,111,99,107]),(str [102,97,105,114])]:List ByteArray).take (w64 (2+r.1)).toNat).drop (0:Int).toNat),.own 64],aX 64 147 b],96⟩) (fun J Z=>?_) ?_
 ·obtain⟨X,g,Z⟩:=jaf Z;refine rs G (hC 1 (yg4 g) h0) ?_;refine cd Z ?_ ?_<;>intro Z
  ·obtain⟨e,d,Z⟩:=jaf Z;refine rs G (hD 2 d (hE 3 d h0)) ?_;obtain⟨Y,i,N,j,F,l,Z⟩:=ob3 Z;refine de G [(9,[]),(10,[64,368]),(12,[48,384])] (hC 4 (ygo i) (hC 7 (ygo j) (hA 10 64 l h0))) ?_;exact wJ G Z
  ·exact jae (wJ G Z)
 rintro⟨C,D,a,b⟩ Z;obtain⟨O,m,Z⟩:=jaf Z;refine rs G (hO 1 (.fz [64] [] []) (hC 1 (ykr.c _ m) h0)) ?_;cases Z;exact rt [112,113] []
def yk0:MS l1Cur (Timetable×l1Cur):=⟨.b 58,yn2,fun _=>.aggv [.own 0,.own 1,.own 2],fun y=>[arO 9 y.1.Network.Stops,arO 147 y.1.Network.Lines,arO 106 y.1.Trips],fun _ y=>[bxO 58 y.2]⟩
theorem ys5:FnOK Tryz.prog tJ 115 yk0.S:=by
 refine fm tt yk0 [fo ym0,fo yae] call115 func115 rfl results115 ntmps115 ?_;rintro c y cx G (Z:yn2 c=some y);unfold yn2 at Z;refine rg G ?_;obtain⟨r,h,Z⟩:=jaf Z;refine rs G (hC 1 (yg8.c _ h) h0) ?_;refine rg G (jab ?_);obtain⟨w,l,Z⟩:=jaf Z;refine rs G (hC 1 (yaa l) h0) ?_;refine tl Z (fun(a,b,d,e)=>⟨[(0,.ref 0 0),(2,.ref 32 0),(3,.ref 48 0)],[bX 0 58 [dV a,dV b,kV .u64 d],bX 32 30 [nS,nS,nS],bX 48 30 [.own 64,.own 80,.own 96],aX 64 9 r.1.Stops,aX 80 147 r.1.Lines,aX 96 106 e],128⟩) (fun D Z=>?_) ?_
 ·refine jaa (lpP Z (fun(n,v,f,g,i,j)=>⟨[(0,.ref 0 0),(2,.ref 32 0),(3,.ref 48 0),(4,dV n),(5,dV v)],[bX 0 58 [dV f,dV g,kV .u64 i],bX 32 30 [nS,nS,nS],bX 48 30 [.own 64,.own 80,.own 96],aX 64 9 r.1.Stops,aX 80 147 r.1.Lines,aX 96 106 j],128⟩) (Wk_J G.hL ⟨[(0,[]),(2,[]),(3,[]),(4,[]),(5,[])],[(0,0,[]),(32,16,[]),(48,80,[.k,.k,.o 96]),(64,48,[]),(80,49,[])],[(96,106,3,[])],128⟩ (by kernel_rfl)) ?_);rintro⟨n,v,f,g,i,j⟩ x hb Z;rw[yg2]at Z;refine jab (rg G (cd Z ?_ ?_))<;>intro Z
  ·refine jae (thN (jab (jaa ?_)));obtain⟨z,m,Z⟩:=jaf Z;refine rs G (hC 3 (yaa m) h0) ?_;obtain⟨A,q,B,t,C,u,Z⟩:=ob3 Z;refine de G [(8,[0]),(10,[0]),(15,[96,480]),(17,[48,496])] (hN 7 r.1.Lines (hC 8 (yaa q) (hC 10 (yaa t) (hA 15 24 u h0)))) ?_;exact ibN (thN (rh G (wL G Z)))
  ·exact jag (thE (thE (ibE (wD G Z hb))))
 rintro⟨a,b,d,e⟩ Z s p;refine thN (jai p ?_);refine rg G ?_;cases Z;exact rt [64,80,96] []
def ybf:MS (l1Cur×(List Int)) (Int×l1Cur):=⟨.x (.b 58) .r,fun x=>zq93 x.1 x.2,fun y=>dV y.1,fun _=>[],fun _ y=>[bxO 58 y.2]⟩
theorem yov:FnOK Tryz.prog tJ 72 ybf.S:=by
 refine fm tt ybf [fo yae] call72 func72 rfl results72 ntmps72 ?_;rintro⟨c,b⟩ y cx G (Z:zq93 c b=some y);unfold zq93 at Z;refine rg G ?_;obtain⟨r,h,e,a,Z⟩:=ob2 Z;refine rs G (hN 3 b (hC 4 (yaa h) (hD 5 a h0))) ?_;cases Z;exact rt [] []
def yg6:MS (l1Cur×(List ByteArray)) (ByteArray×l1Cur):=⟨.x (.b 58) (.s 9),fun x=>yk2 x.1 x.2,fun y=>dV y.1,fun _=>[],fun x y=>[bxO 58 y.2,arO 9 x.2]⟩
theorem ys7:FnOK Tryz.prog tJ 138 yg6.S:=by
 refine fm tt yg6 [fo yae] call138 func138 rfl results138 ntmps138 ?_;rintro⟨c,b⟩ y cx G (Z:yk2 c b=some y);unfold yk2 at Z;refine rg G ?_;obtain⟨r,h,e,a,Z⟩:=ob2 Z;refine rs G (hN 3 b (hC 4 (yaa h) (hD 5 a (hE 6 a h0)))) ?_;cases Z;exact rt [] []
def ykp:MS Network Network:=⟨.r,ykq,fun _=>.aggv [.own 0,.own 1],fun y=>[arO 9 y.Stops,taO 147 [none,some 3,some 3] y.Lines],fun _ _=>[]⟩
theorem ysx:FnOK Tryz.prog tJ 120 ykp.S:=by
 refine fm tt ykp [fo ys3] call120 func120 rfl results120 ntmps120 ?_;rintro n y cx G (Z:ykq n=some y);unfold ykq at Z;refine rg G ?_;obtain⟨u,h,Z⟩:=jaf Z;refine rs G (hA 3 16 h h0) ?_;refine jab (rg G (tl Z (fun a=>⟨[(2,.ref 16 0),(3,.ref 32 0)],[bX 16 27 [nS,nS],bX 32 27 [.own 48,.own 64],aX 48 9 (([]:List ByteArray)++n.Stops),tX 64 147 [none,some 3,some 3] a 64 none],96⟩) (fun a Z=>?_) ?_))
 ·refine jaa (lpP Z (fun(v,e)=>⟨[(1,.ref 16 0),(2,.ref 32 0),(3,.ref 48 0),(4,dV v)],[bX 16 27 [dV n.Stops,dV n.Lines],bX 32 27 [nS,nS],bX 48 27 [.own 64,.own 80],aX 64 9 (([]:List ByteArray)++n.Stops),tX 80 147 [none,some 3,some 3] e 80 none],112⟩) (Wk_J G.hL ⟨[(1,[]),(2,[]),(3,[]),(4,[])],[(16,16,[]),(32,32,[]),(48,128,[.k,.o 80]),(64,96,[])],[(80,147,3,[none,some 3,some 3])],112⟩ (by kernel_rfl)) ?_);rintro⟨v,e⟩ j hb Z;rw[ymq]at Z;refine jab (rs G (hN 3 n.Lines h0) ?_);refine cd Z ?_ ?_<;>intro Z
  ·refine jae (thN (jab (jaa ?_)));obtain⟨m,f,q,g,r,i,Z⟩:=ob3 Z;obtain⟨t,b,w,c,x,d,Z⟩:=ob3 Z;refine de G [(23,[416,528]),(24,[80,560]),(26,[48,576])] (hD 5 f (hD 11 g (hC 14 (yqn i) (hD 18 b (hC 21 (yqn c) (hP (jbn (l:=[416,528]) rfl) (hA 24 64 d h0))))))) ?_;exact ibN (thN (rh G (wL G Z)))
  ·exact jag (thE (thE (ibE (wD G Z hb))))
 rintro a Z s p;refine thN (jai p ?_);refine rg G ?_;cases Z;exact rt [48,64] []
def yk4:MS l1Cur (Network×l1Cur):=⟨.b 58,yn4,fun _=>.aggv [.own 0,.own 1],fun y=>[arO 9 y.1.Stops,taO 147 [none,some 3,some 3] y.1.Lines],fun _ y=>[bxO 58 y.2]⟩
theorem ys9:FnOK Tryz.prog tJ 70 yk4.S:=by
 refine fm tt yk4 [fo yae,fo ygt,fo ym2,fo ydg,fo ymt,fo ysx] call70 func70 rfl results70 ntmps70 ?_;rintro c y cx G (Z:yn4 c=some y);unfold yn4 at Z;refine rg G ?_;obtain⟨r,h,Z⟩:=jaf Z;refine rs G (hC 1 (yaa h) h0) ?_;obtain⟨u,E,Z⟩:=jaf Z;refine rs G (hO 2 (.fz [96] [] []) (hU 2 E h0)) ?_;refine jab ?_;obtain⟨Q,H,Z⟩:=jaf Z;refine rs G (hC 1 (yaa H) h0) ?_;refine tl Z (fun(n,q,t,w)=>⟨[(0,.ref 0 0),(2,.ref 32 0),(4,.ref 48 0)],[bX 0 58 [dV n,dV q,kV .u64 t],bX 32 27 [nS,nS],bX 48 27 [dV ((([(str [112,111,114,116]),(str [109,105,108,108]),(str [112,97,114,107]),(str [104,97,108,108]),(str [100,111,99,107]),(str [102,97,105,114])]:List ByteArray).take (w64 (2+r.1)).toNat).drop (0:Int).toNat),.own 64],aX 64 147 w],96⟩) (fun I Z=>?_) ?_
 ·refine jaa (lpP Z (fun(x,v,z,A,B)=>⟨[(0,.ref 0 0),(2,.ref 32 0),(3,dV (w64 (2+r.1))),(4,.ref 48 0),(5,dV x)],[bX 0 58 [dV v,dV z,kV .u64 A],bX 32 27 [nS,nS],bX 48 27 [dV ((([(str [112,111,114,116]),(str [109,105,108,108]),(str [112,97,114,107]),(str [104,97,108,108]),(str [100,111,99,107]),(str [102,97,105,114])]:List ByteArray).take (w64 (2+r.1)).toNat).drop (0:Int).toNat),.own 64],aX 64 147 B],96⟩) (Wk_J G.hL ⟨[(0,[]),(2,[]),(3,[]),(4,[]),(5,[])],[(0,0,[]),(32,16,[]),(48,160,[.k,.o 64])],[(64,147,3,[])],96⟩ (by kernel_rfl)) ?_);rintro⟨x,v,z,A,B⟩ R hb Z;rw[ydh]at Z;refine jab (rg G (cd Z ?_ ?_))<;>intro Z
  ·refine jae (thN (jab (jaa ?_)));obtain⟨T,K,U,L,V,M,Z⟩:=ob3 Z;obtain⟨W,f,Z⟩:=jaf Z;refine de G [(7,[0]),(8,[]),(9,[64,256]),(11,[48,272])] (hC 4 (ygv.c _ K) (hP (jra (jeb L)) (hC 7 (yg9.c (_,_,_) M) (hA 9 64 f h0)))) ?_;exact ibN (thN (rh G (wL G Z)))
  ·exact jag (thE (thE (ibE (wD G Z hb))))
 rintro⟨n,q,t,w⟩ Z s p;refine thN (jai p ?_);refine jn Z (fun(C,D,a,b)=>⟨[(0,.ref 0 0),(2,.ref 32 0),(4,.ref 48 0)],[bX 0 58 [dV C,dV D,kV .u64 a],bX 32 27 [nS,nS],bX 48 27 [dV ((([(str [112,111,114,116]),(str [109,105,108,108]),(str [112,97,114,107]),(str [104,97,108,108]),(str [100,111,99,107]),(str [102,97,105,114])]:List ByteArray).take (w64 (2+r.1)).toNat).drop (0:Int).toNat),.own 64],aX 64 147 b],96⟩) (fun J Z=>?_) ?_
 ·obtain⟨X,g,Z⟩:=jaf Z;refine rs G (hC 1 (yg4 g) h0) ?_;refine cd Z ?_ ?_<;>intro Z
  ·obtain⟨e,d,Z⟩:=jaf Z;refine rs G (hD 2 d (hE 3 d h0)) ?_;obtain⟨Y,i,N,j,F,l,Z⟩:=ob3 Z;refine de G [(9,[]),(10,[64,368]),(12,[48,384])] (hC 4 (ygo i) (hC 7 (ygo j) (hA 10 64 l h0))) ?_;exact wJ G Z
  ·exact jae (wJ G Z)
 rintro⟨C,D,a,b⟩ Z;obtain⟨O,m,Z⟩:=jaf Z;refine rs G (hF 1 (ykp.c _ m) ⟨(jh1 jno (jh1 (jsf fun _=>jqw (fT_d trivial (fT_s (fT_s fT_n)))) jg0)),jg0⟩ h0) ?_;cases Z;exact rt [112,113] []
def yeq:MS (l1Cur×(List Int)) (Int×l1Cur):=⟨.x (.b 58) (.s 3),fun x=>zq94 x.1 x.2,fun y=>dV y.1,fun _=>[],fun x y=>[bxO 58 y.2,arO 3 x.2]⟩
theorem you:FnOK Tryz.prog tJ 72 yeq.S:=by
 refine fm tt yeq [fo yae] call72 func72 rfl results72 ntmps72 ?_;rintro⟨c,b⟩ y cx G (Z:zq94 c b=some y);unfold zq94 at Z;refine rg G ?_;obtain⟨r,h,e,a,Z⟩:=ob2 Z;refine rs G (hN 3 b (hC 4 (yaa h) (hD 5 a (hE 6 a h0)))) ?_;cases Z;exact rt [] []
def yot:MS l1Cur (Network×l1Cur):=⟨.b 58,zq95,fun y=>.aggv [.own 0,dV y.1.Lines],fun y=>[arO 9 y.1.Stops],fun _ y=>[bxO 58 y.2]⟩
theorem yuj:FnOK Tryz.prog tJ 116 yot.S:=by
 refine fm tt yot [fo ys9,fo yae,fo ys7,fo you,fo ygt,fo yuf] call116 func116 rfl results116 ntmps116 ?_;rintro c y cx G (Z:zq95 c=some y);unfold zq95 at Z;refine rg G ?_;obtain⟨r,h,Z⟩:=jaf Z;refine rs G (hC 1 (yk4.c _ h) h0) ?_;obtain⟨a,h1,Z⟩:=jaf Z;refine rs G (hN 3 r.1.Lines (hC 4 (yaa h1) h0)) ?_;obtain⟨e,k,Z⟩:=jaf Z;refine rs G (hD 3 k (hE 4 k h0)) ?_;refine jF Z (fun(v,Y,J,K,P,v5,L)=>⟨[(0,.ref 0 0),(2,.ref 32 0),(3,.ref 48 0),(4,dV a.1),(5,.ref 64 0)],[bX 0 58 [dV v,dV Y,kV .u64 J],bX 32 27 [nS,nS],bX 48 27 [.own 80,.own 96],bX 64 147 [dV K,.row 96 96 a.1.toNat 1,.own 112],aX 80 9 P,tX 96 147 [none,some 3,some 3] v5 96 (some (a.1.toNat,2)),aX 112 3 L],144⟩) (fun ac F Z=>?_) ?_
 ·obtain⟨r2,h3,Z⟩:=jaf Z;refine rs G (hC 1 (yaa h3) h0) ?_;refine jaa (rg G (cd Z ?_ ?_))<;>intro Z
  ·obtain⟨r4,h6,e2,p,Z⟩:=ob2 Z;refine de G [(4,[0,416]),(6,[48])] (hC 4 (yg6.c (_,_) h6) (hD 5 p (hS 6 p r4.1 h0))) ?_;exact ibN (wFp Z (Wk.trans (Wk_S (.c 272 2) (Enc.e e) (.cons (jbo (f:=Enc.e) (l:=r.1.Lines) (i:=a.1) k) .nil) (by kernel_rfl)) (Wk_J G.hL ⟨[(0,[]),(2,[]),(3,[]),(4,[]),(5,[])],[(0,0,[]),(32,16,[]),(48,64,[]),(64,272,[]),(80,48,[]),(96,49,[]),(112,480,[])],[],144⟩ (by kernel_rfl))))
  ·refine rg G (cd Z ?_ ?_)<;>intro Z
   ·obtain⟨r5,h8,Z⟩:=jaf Z;refine re G (hC 2 (yg6.c (_,_) h8) h0) ?_;exact ibN (wFp Z (Wk.trans (Wk_S (.c 272 2) (Enc.e e) (.cons (jbo (f:=Enc.e) (l:=r.1.Lines) (i:=a.1) k) .nil) (by kernel_rfl)) (Wk_J G.hL ⟨[(0,[]),(2,[]),(3,[]),(4,[]),(5,[])],[(0,0,[]),(32,16,[]),(48,64,[]),(64,272,[]),(80,48,[]),(96,49,[]),(112,480,[])],[],144⟩ (by kernel_rfl))))
   ·refine rg G (cd Z ?_ ?_)<;>intro Z
    ·obtain⟨n,M,o,N,e4,x,Z⟩:=ob3 Z;refine de G [(6,[0]),(8,[0]),(11,[49])] (hO 5 (.dn (Enc.e e) (e.Stops.length:Int)) (hP (jbo (f:=Enc.e) k) (hP (jto Enc.e e.Stops) (hC 6 (yaa M) (hC 8 (yaa N) (hE 10 k (hP (jkd (f:=Enc.e) x) (hO 11 (.sd2 (Enc.e e) (Enc.e e4) (List.map Enc.e (e.Stops.set n.1.toNat (w64 (o.1-1)))) (List.map Enc.e (r.1.Lines.set a.1.toNat (⟨e.Name,(e.Stops.set n.1.toNat (w64 (o.1-1))),e.Runs⟩:Line)))) (hP (jbo (f:=Enc.e) k) (hP (jbo (f:=Enc.e) x) (hP (je1 Enc.e e.Stops n.1.toNat (w64 (o.1-1))) (hP (je1 Enc.e r.1.Lines a.1.toNat (⟨e.Name,(e.Stops.set n.1.toNat (w64 (o.1-1))),e.Runs⟩:Line)) h0)))))))))))) ?_;exact ibN (wFp Z (Wk.trans (Wk_S (.c 272 2) (Enc.e (⟨e.Name,(e.Stops.set n.1.toNat (w64 (o.1-1))),e.Runs⟩:Line)) (.cons (jbo (f:=Enc.e) (l:=(r.1.Lines.set a.1.toNat (⟨e.Name,(e.Stops.set n.1.toNat (w64 (o.1-1))),e.Runs⟩:Line))) (i:=a.1) (jhu (y:=(⟨e.Name,(e.Stops.set n.1.toNat (w64 (o.1-1))),e.Runs⟩:Line)) k)) .nil) (by kernel_rfl)) (Wk_J G.hL ⟨[(0,[]),(2,[]),(3,[]),(4,[]),(5,[])],[(0,0,[]),(32,16,[]),(48,64,[]),(64,272,[]),(80,48,[]),(96,49,[]),(112,624,[])],[],144⟩ (by kernel_rfl))))
    ·refine rg G (cd Z ?_ ?_)<;>intro Z
     ·obtain⟨d,O,j,Q,e6,z,Z⟩:=ob3 Z;refine de G [(6,[0]),(9,[0,592]),(11,[49])] (hO 5 (.dn (Enc.e e) (e.Runs.length:Int)) (hP (jbo (f:=Enc.e) k) (hP (jto Enc.e e.Runs) (hC 6 (yaa O) (hC 9 (yeq.c (_,_) Q) (hE 10 k (hP (jkd (f:=Enc.e) z) (hO 11 (.sd2 (Enc.e e) (Enc.e e6) (List.map Enc.e (e.Runs.set d.1.toNat j.1)) (List.map Enc.e (r.1.Lines.set a.1.toNat (⟨e.Name,e.Stops,(e.Runs.set d.1.toNat j.1)⟩:Line)))) (hP (jbo (f:=Enc.e) k) (hP (jbo (f:=Enc.e) z) (hP (je1 Enc.e e.Runs d.1.toNat j.1) (hP (je1 Enc.e r.1.Lines a.1.toNat (⟨e.Name,e.Stops,(e.Runs.set d.1.toNat j.1)⟩:Line)) h0)))))))))))) ?_;exact ibN (wFp Z (Wk.trans (Wk_S (.c 272 2) (Enc.e (⟨e.Name,e.Stops,(e.Runs.set d.1.toNat j.1)⟩:Line)) (.cons (jbo (f:=Enc.e) (l:=(r.1.Lines.set a.1.toNat (⟨e.Name,e.Stops,(e.Runs.set d.1.toNat j.1)⟩:Line))) (i:=a.1) (jhu (y:=(⟨e.Name,e.Stops,(e.Runs.set d.1.toNat j.1)⟩:Line)) k)) .nil) (by kernel_rfl)) (Wk_J G.hL ⟨[(0,[]),(2,[]),(3,[]),(4,[]),(5,[])],[(0,0,[]),(32,16,[]),(48,64,[]),(64,272,[]),(80,48,[]),(96,49,[]),(112,656,[])],[],144⟩ (by kernel_rfl))))
     ·refine rg G (cd Z ?_ ?_)<;>intro Z
      ·obtain⟨u,R,Z⟩:=jaf Z;refine re G (hO 3 (.sd (Enc.e e) (List.map Enc.e (e.Runs++([3]:List Int)))) (hP (jbo (f:=Enc.e) k) (hP (ju0 (f:=Enc.e) (g:=Enc.e) (l:=e.Runs) (r:=([3]:List Int)) (b:=8) (jeb R) rfl) (hP (ju1 Enc.e e.Runs ([3]:List Int)) h0)))) ?_;exact ibN (wF G Z)
      ·refine rg G (cd Z ?_ ?_)<;>intro Z
       ·refine rg G (rg G ?_);have Z:=eR Z F;cases Z;exact rt [48] []
       ·refine rg G (cd Z ?_ ?_)<;>intro Z
        ·refine jab (rg G (tl Z (fun(A,B,C,D)=>⟨[(0,.ref 0 0),(2,.ref 32 0),(3,.ref 48 0)],[bX 0 58 [dV A,dV B,kV .u64 C],bX 32 27 [nS,nS],bX 48 27 [.own 64,.own 80],aX 64 9 r.1.Stops,tX 80 147 [none,some 3,some 3] D 80 none],112⟩) (fun vv Z=>?_) ?_))
         ·refine jaa (lp G Z (fun(T,v8,v9,E,m)=>⟨[(0,.ref 0 0),(2,.ref 32 0),(3,.ref 48 0),(6,dV T)],[bX 0 58 [dV v8,dV v9,kV .u64 E],bX 32 27 [nS,nS],bX 48 27 [.own 64,.own 80],aX 64 9 r.1.Stops,tX 80 147 [none,some 3,some 3] m 80 none],112⟩) ?_);rintro⟨T,v8,v9,E,m⟩ r0 hb Z;rw[yfa]at Z;refine jab ?_;obtain⟨q,H,Z⟩:=jaf Z;refine jn Z (fun t=>⟨[(0,.ref 0 0),(2,.ref 32 0),(3,.ref 48 0),(6,dV T),(85,dV t)],[bX 0 58 [dV q.2.code_,dV q.2.at_,kV .u64 q.2.seed_.v],bX 32 27 [nS,nS],bX 48 27 [.own 64,.own 80],aX 64 9 r.1.Stops,tX 80 147 [none,some 3,some 3] m 80 none],112⟩) (fun t Z=>?_) ?_
          ·rcases bf Z with⟨w,Z⟩|⟨w,Z⟩
           ·refine de G [(4,[0])] (hN 2 m (hC 4 (yaa H) (hO 7 (.b true) (hP w h0)))) ?_;exact wJ G Z
           ·refine de G [(4,[0])] (hN 2 m (hC 4 (yaa H) (hO 7 (.b false) (hP w h0)))) ?_;exact wJ G Z
          rintro t Z;refine cd Z ?_ ?_<;>intro Z
          ·refine jae (thN (jab (jaa ?_)));obtain⟨aa,U,u3,V,ab,W,Z⟩:=ob3 Z;obtain⟨u4,X,Z⟩:=jaf Z;refine de G [(9,[0]),(10,[256,257]),(11,[80,272]),(13,[48,288])] (hC 4 (ygv.c _ U) (hP (jra (jeb V)) (hN 8 r.1.Stops (hC 9 (yop.c (_,_,_) W) (hP (jbn (l:=[256,257]) rfl) (hA 11 64 X h0)))))) ?_;exact ibN (thN (rh G (wL G Z)))
          ·exact jag (thE (thE (ibE (wD G Z hb))))
         rintro⟨A,B,C,D⟩ Z s hw;refine thN (jai hw ?_);refine rg G ?_;have Z:=eR Z F;cases Z;exact rt [64] []
        ·exact jae (ibN (wFp Z (Wk.trans (Wk_S (.c 272 2) (Enc.e e) (.cons (jbo (f:=Enc.e) (l:=r.1.Lines) (i:=a.1) k) .nil) (by kernel_rfl)) (Wk_J G.hL ⟨[(0,[]),(2,[]),(3,[]),(4,[]),(5,[])],[(0,0,[]),(32,16,[]),(48,64,[]),(64,272,[]),(80,48,[]),(96,49,[]),(112,560,[])],[],144⟩ (by kernel_rfl)))))
 rintro⟨v,Y,J,K,P,v5,L⟩ Z;obtain⟨e9,I,Z⟩:=jaf Z;refine rs G (hD 4 I (hS 5 I (⟨K,e9.Stops,L⟩:Line) (hP (Eq.refl a.1.toNat) (hP (Eq.refl a.1.toNat) h0)))) ?_;refine rg G ?_;cases Z;exact rt [80] []
def yos:MS l1Cur (Timetable×l1Cur):=⟨.b 58,zq96,fun y=>.aggv [.own 0,dV y.1.Network.Lines,.own 1],fun y=>[arO 9 y.1.Network.Stops,arO 106 y.1.Trips],fun _ y=>[bxO 58 y.2]⟩
theorem yui:FnOK Tryz.prog tJ 69 yos.S:=by
 refine fm tt yos [fo ys5,fo yae,fo yov,fo yuj] call69 func69 rfl results69 ntmps69 ?_;rintro c y cx G (Z:zq96 c=some y);unfold zq96 at Z;refine rg G ?_;obtain⟨r,h,Z⟩:=jaf Z;refine rs G (hC 1 (yk0.c _ h) h0) ?_;refine jab (rs G (hN 2 r.1.Trips h0) ?_);refine cd Z ?_ ?_<;>intro Z
 ·refine rg G ?_;cases Z;exact rt [48,50] []
 ·refine jae (thN ?_);obtain⟨K,L,Z⟩:=jaf Z;refine rs G (hN 3 r.1.Trips (hC 4 (yaa L) h0)) ?_;obtain⟨e,A,Z⟩:=jaf Z;refine rs G (hD 3 A (hE 4 A h0)) ?_;refine jF Z (fun(v,B,C,D,o,q,t,E)=>⟨[(0,.ref 0 0),(2,.ref 32 0),(3,.ref 48 0),(4,dV K.1),(5,.ref 64 0)],[bX 0 58 [dV v,dV B,kV .u64 C],bX 32 30 [nS,nS,nS],bX 48 30 [.own 80,dV D,.own 96],bX 64 106 [dV o,dV q,dV t],aX 80 9 E,aX 96 106 r.1.Trips],128⟩) (fun M p Z=>?_) ?_
  ·obtain⟨U,N,Z⟩:=jaf Z;refine rs G (hC 1 (yaa N) h0) ?_;refine jaa (rg G (cd Z ?_ ?_))<;>intro Z
   ·obtain⟨V,O,Z⟩:=jaf Z;refine re G (hO 2 (.fz [448] [] []) (hC 2 (ybf.c (_,_) O) h0)) ?_;exact ibN (wF G Z)
   ·refine rg G (cd Z ?_ ?_)<;>intro Z
    ·obtain⟨W,Q,Z⟩:=jaf Z;refine re G (hC 1 (yaa Q) h0) ?_;exact ibN (wF G Z)
    ·refine rg G (cd Z ?_ ?_)<;>intro Z
     ·obtain⟨X,R,Z⟩:=jaf Z;refine re G (hO 2 (.fz [512] [] []) (hC 2 (ybf.c (_,_) R) h0)) ?_;exact ibN (wF G Z)
     ·refine rg G (cd Z ?_ ?_)<;>intro Z
      ·obtain⟨Y,T,Z⟩:=jaf Z;refine re G (hC 1 (yot.c _ T) h0) ?_;exact ibN (wF G Z)
      ·refine rg G (cd Z ?_ ?_)<;>intro Z
       ·refine jab (rg G (tl Z (fun(g,i,j,k)=>⟨[(0,.ref 0 0),(2,.ref 32 0),(3,.ref 48 0)],[bX 0 58 [dV g,dV i,kV .u64 j],bX 32 30 [nS,nS,nS],bX 48 30 [.own 64,.own 80,.own 96],aX 64 9 r.1.Network.Stops,aX 80 147 r.1.Network.Lines,aX 96 106 k],128⟩) (fun vv Z=>?_) ?_))
        ·refine jaa (lp G Z (fun(w,H,l,m,a)=>⟨[(0,.ref 0 0),(2,.ref 32 0),(3,.ref 48 0),(6,dV w)],[bX 0 58 [dV H,dV l,kV .u64 m],bX 32 30 [nS,nS,nS],bX 48 30 [.own 64,.own 80,.own 96],aX 64 9 r.1.Network.Stops,aX 80 147 r.1.Network.Lines,aX 96 106 a],128⟩) ?_);rintro⟨w,H,l,m,a⟩ P hb Z;rw[yi2]at Z;refine jab ?_;obtain⟨x,I,Z⟩:=jaf Z;refine jn Z (fun d=>⟨[(0,.ref 0 0),(2,.ref 32 0),(3,.ref 48 0),(6,dV w),(61,dV d)],[bX 0 58 [dV x.2.code_,dV x.2.at_,kV .u64 x.2.seed_.v],bX 32 30 [nS,nS,nS],bX 48 30 [.own 64,.own 80,.own 96],aX 64 9 r.1.Network.Stops,aX 80 147 r.1.Network.Lines,aX 96 106 a],128⟩) (fun d Z=>?_) ?_
         ·rcases bf Z with⟨f,Z⟩|⟨f,Z⟩
          ·refine de G [(4,[0])] (hN 2 a (hC 4 (yaa I) (hO 7 (.b true) (hP f h0)))) ?_;exact wJ G Z
          ·refine de G [(4,[0])] (hN 2 a (hC 4 (yaa I) (hO 7 (.b false) (hP f h0)))) ?_;exact wJ G Z
         rintro d Z;refine cd Z ?_ ?_<;>intro Z
         ·refine jae (thN (jab (jaa ?_)));obtain⟨u,z,Z⟩:=jaf Z;refine re G (hA 8 24 z h0) ?_;exact ibN (thN (rh G (wL G Z)))
         ·exact jag (thE (thE (ibE (wD G Z hb))))
        rintro⟨g,i,j,k⟩ Z s F;refine thN (jai F ?_);refine rg G ?_;have Z:=eR Z p;cases Z;exact rt [64,96] []
       ·exact jae (ibN (wF G Z))
  rintro⟨v,B,C,D,o,q,t,E⟩ Z;obtain⟨J,n,Z⟩:=jaf Z;refine rs G (hD 4 n (hS 5 n (⟨o,q,t⟩:Trip) h0)) ?_;refine rg G ?_;cases Z;exact rt [80,96] []
def ygw:MS (Int×Int) Int:=mS yh9
theorem yqp{a b y}(Z:yh9 a b=some y):ygw.C (a,b) y:=ygw.c (a,b) Z
theorem ymy:FnOK Tryz.prog tJ 71 ygw.S:=by
 refine fm tt ygw [] call71 func71 rfl results71 ntmps71 ?_;rintro⟨a,b⟩ y cx G (Z:yh9 a b=some y);unfold yh9 at Z;refine rg G (jab (rg G (cd Z ?_ ?_)))<;>intro Z
 ·refine rg G ?_;cases Z;exact rt [] []
 ·refine jae (thN (rg G ?_));cases Z;exact rt [] []
def yky:MS l1Cur (Timetable×l1Cur):=⟨.b 58,yib,fun y=>.aggv [.own 0,dV y.1.Network.Lines,.own 1],fun y=>[arO 9 y.1.Network.Stops,arO 106 y.1.Trips],fun _ y=>[bxO 58 y.2]⟩
theorem ys4:FnOK Tryz.prog tJ 33 yky.S:=by
 refine fm tt yky [fo ydg,fo yui,fo ym0,fo yae,fo ymy] call33 func33 rfl results33 ntmps33 ?_;rintro c y cx G (Z:yib c=some y);unfold yib at Z;refine rg G (jab ?_);obtain⟨r,h,Z⟩:=jaf Z;refine rs G (hC 1 (yg4 h) h0) ?_;refine cd Z ?_ ?_<;>intro Z
 ·obtain⟨O,H,Z⟩:=jaf Z;refine rs G (hC 1 (yos.c _ H) h0) ?_;cases Z;exact rt [80,81] []
 ·refine jae (thN ?_);obtain⟨a,I,Z⟩:=jaf Z;refine rs G (hC 1 (yg8.c _ I) h0) ?_;refine jab ?_;obtain⟨Q,K,Z⟩:=jaf Z;refine rs G (hC 1 (yaa K) h0) ?_;refine tl Z (fun(g,j,l,C)=>⟨[(0,.ref 0 0),(2,.ref 32 0),(3,.ref 48 0)],[bX 0 58 [dV g,dV j,kV .u64 l],bX 32 30 [nS,nS,nS],bX 48 30 [.own 64,.own 80,.own 96],aX 64 9 a.1.Stops,aX 80 147 a.1.Lines,aX 96 106 C],128⟩) (fun F Z=>?_) ?_
  ·refine jaa (lpP Z (fun(i,v,D,E,m)=>⟨[(0,.ref 0 0),(2,.ref 32 0),(3,.ref 48 0),(4,dV i)],[bX 0 58 [dV v,dV D,kV .u64 E],bX 32 30 [nS,nS,nS],bX 48 30 [.own 64,.own 80,.own 96],aX 64 9 a.1.Stops,aX 80 147 a.1.Lines,aX 96 106 m],128⟩) (Wk_J G.hL ⟨[(0,[]),(2,[]),(3,[]),(4,[])],[(0,0,[]),(32,16,[]),(48,112,[.k,.k,.o 96]),(64,80,[]),(80,81,[])],[(96,106,3,[])],128⟩ (by kernel_rfl)) ?_);rintro⟨i,v,D,E,m⟩ L hb Z;rw[yg1]at Z;refine jab (rg G (cd Z ?_ ?_))<;>intro Z
   ·refine jae (thN (jab (jaa ?_)));obtain⟨R,M,T,N,U,n,Z⟩:=ob3 Z;obtain⟨V,q,Z⟩:=jaf Z;refine de G [(11,[0]),(19,[0]),(21,[0]),(26,[96,560]),(28,[48,576])] (hN 4 m (hN 8 m (hC 11 (yaa M) (hN 18 a.1.Lines (hC 19 (yaa N) (hC 21 (yaa n) (hA 26 24 q h0))))))) ?_;exact ibN (thN (rh G (wL G Z)))
   ·exact jag (thE (thE (ibE (wD G Z hb))))
  rintro⟨g,j,l,C⟩ Z s p;refine thN (jai p ?_);refine jab (rg G (tl Z (fun t=>⟨[(0,.ref 0 0),(2,.ref 32 0),(3,.ref 48 0)],[bX 0 58 [dV g,dV j,kV .u64 l],bX 32 30 [nS,nS,nS],bX 48 30 [.own 64,.own 80,.own 96],aX 64 9 a.1.Stops,aX 80 147 a.1.Lines,aX 96 106 t],128⟩) (fun t Z=>?_) ?_))
  ·refine jaa (lp G Z (fun(x,u)=>⟨[(0,.ref 0 0),(2,.ref 32 0),(3,.ref 48 0),(5,dV x)],[bX 0 58 [dV g,dV j,kV .u64 l],bX 32 30 [nS,nS,nS],bX 48 30 [.own 64,.own 80,.own 96],aX 64 9 a.1.Stops,aX 80 147 a.1.Lines,aX 96 106 u],128⟩) ?_);rintro⟨x,u⟩ L w Z;rw[yg0]at Z;refine jab (rs G (hN 3 u h0) ?_);refine cd Z ?_ ?_<;>intro Z
   ·refine jae (thN (jab (jaa ?_)));obtain⟨e,b,Z⟩:=jaf Z;refine rs G (hD 3 b (hE 4 b h0)) ?_;obtain⟨W,d,z,A,Z⟩:=ob2 Z;refine ds G [(12,[288])] (hD 6 d (hE 8 d (hC 10 (yqp A) h0))) ?_;obtain⟨X,f,Z⟩:=jaf Z;refine re G (hD 4 f (hS 5 f (⟨z,e.Line,e.Start⟩:Trip) h0)) ?_;exact ibN (thN (rh G (wL G Z)))
   ·exact jag (thE (thE (ibE (wD G Z w))))
  rintro t Z Y B;refine thN (jai B ?_);refine rg G ?_;cases Z;exact rt [64,96] []
def yoq:MS (l1Cur×Network) (Fleet×l1Cur):=⟨.x (.b 58) .r,fun x=>zq98 x.1 x.2,fun y=>dV y.1,fun _=>[],fun _ y=>[bxO 58 y.2]⟩
theorem yug:FnOK Tryz.prog tJ 35 yoq.S:=by
 refine fm tt yoq [fo you,fo ymy,fo yae] call35 func35 rfl results35 ntmps35 ?_;rintro⟨c,n⟩ y cx G (Z:zq98 c n=some y);unfold zq98 at Z;refine rg G ?_;obtain⟨r,h,Z⟩:=jaf Z;refine rs G (hC 2 (yeq.c (_,_) h) h0) ?_;refine jab (rg G (tl Z (fun(d,g,i,a)=>⟨[(0,.ref 0 0),(3,.ref 32 0),(4,.ref 48 0),(5,.ref 64 0)],[bX 0 58 [dV d,dV g,kV .u64 i],bX 32 27 [dV n.Stops,dV n.Lines],bX 48 33 [nS,kV .i64 0],bX 64 33 [.own 80,dV r.1],tX 80 53 [some 3] a 80 none],112⟩) (fun Y Z=>?_) ?_))
 ·refine jaa (lpP Z (fun(k,v,N,O,D)=>⟨[(0,.ref 0 0),(3,.ref 32 0),(4,.ref 48 0),(5,.ref 64 0),(6,dV k)],[bX 0 58 [dV v,dV N,kV .u64 O],bX 32 27 [dV n.Stops,dV n.Lines],bX 48 33 [nS,kV .i64 0],bX 64 33 [.own 80,dV r.1],tX 80 53 [some 3] D 80 none],112⟩) (Wk_J G.hL ⟨[(0,[]),(3,[]),(4,[]),(5,[]),(6,[])],[(0,0,[]),(32,16,[]),(48,32,[]),(64,112,[.o 80])],[(80,53,1,[some 3])],112⟩ (by kernel_rfl)) ?_);rintro⟨k,v,N,O,D⟩ r0 hb Z;rw[yi0]at Z;refine jab (rs G (hN 3 n.Stops h0) ?_);refine cd Z ?_ ?_<;>intro Z
  ·refine jae (thN (jab (jaa (rg G (jab (rg G (tl Z (fun(Q,j,m,q)=>⟨[(0,.ref 0 0),(3,.ref 32 0),(4,.ref 48 0),(5,.ref 64 0),(6,dV k),(7,.own 80)],[bX 0 58 [dV Q,dV j,kV .u64 m],bX 32 27 [dV n.Stops,dV n.Lines],bX 48 33 [nS,kV .i64 0],bX 64 33 [.own 96,dV r.1],aX 80 3 q,tX 96 53 [some 3] D 96 none],128⟩) (fun vv Z=>?_) ?_)))))))
   ·refine jaa (lp G Z (fun(R,T,U,V,W)=>⟨[(0,.ref 0 0),(3,.ref 32 0),(4,.ref 48 0),(5,.ref 64 0),(6,dV k),(7,.own 80),(8,dV R)],[bX 0 58 [dV T,dV U,kV .u64 V],bX 32 27 [dV n.Stops,dV n.Lines],bX 48 33 [nS,kV .i64 0],bX 64 33 [.own 96,dV r.1],aX 80 3 W,tX 96 53 [some 3] D 96 none],128⟩) ?_);rintro⟨R,T,U,V,W⟩ r0 I Z;rw[yi1]at Z;refine jab (rs G (hN 3 n.Stops h0) ?_);refine cd Z ?_ ?_<;>intro Z
    ·refine jae (thN (jab (jaa ?_)));obtain⟨r1,J,r2,P,u,h3,Z⟩:=ob3 Z;refine re G (hC 7 (yqp J) (hC 9 (yaa P) (hA 13 8 h3 h0))) ?_;exact ibN (thN (rh G (wL G Z)))
    ·exact jag (thE (thE (ibE (wD G Z I))))
   rintro⟨Q,j,m,q⟩ Z s hw;refine thN (jai hw ?_);obtain⟨u1,h4,Z⟩:=jaf Z;refine re G (hP (jbn (l:=[80]) rfl) (hA 4 24 h4 h0)) ?_;exact ibN (thN (rh G (wL G Z)))
  ·exact jag (thE (thE (ibE (wD G Z hb))))
 rintro⟨d,g,i,a⟩ Z s1 K;refine thN (jai K ?_);refine jn Z (fun(t,w,x,z,A)=>⟨[(0,.ref 0 0),(4,.ref 32 0),(5,.ref 48 0)],[bX 0 58 [dV t,dV w,kV .u64 x],bX 32 33 [nS,kV .i64 0],bX 48 33 [dV z,dV A]],80⟩) (fun aa Z=>?_) ?_
 ·obtain⟨r3,h5,Z⟩:=jaf Z;refine rs G (hC 1 (yaa h5) h0) ?_;refine jaa (rg G (cd Z ?_ ?_))<;>intro Z
  ·obtain⟨r4,h6,Z⟩:=jaf Z;refine re G (hC 2 (yeq.c (_,_) h6) h0) ?_;exact ibN (wJ G Z)
  ·refine rg G (cd Z ?_ ?_)<;>intro Z
   ·obtain⟨e,E,p,X,Z⟩:=ob2 Z;refine re G (hD 2 E (hE 3 E (hE 4 E (hP (jkd (f:=Enc.e) X) (hO 5 (.sd2 (Enc.e e) (Enc.e p) (List.map Enc.e (e.set (0:Int).toNat 1)) (List.map Enc.e (a.set (0:Int).toNat (e.set (0:Int).toNat 1)))) (hP (jbo (f:=Enc.e) E) (hP (jbo (f:=Enc.e) X) (hP (je1 Enc.e e (0:Int).toNat 1) (hP (je1 Enc.e a (0:Int).toNat (e.set (0:Int).toNat 1)) h0))))))))) ?_;exact ibN (wJ G Z)
   ·refine rg G (cd Z ?_ ?_)<;>intro Z
    ·obtain⟨B,b,H,L,F,C,Z⟩:=ob3 Z;refine de G [(10,[0,384]),(12,[80])] (hD 2 b (hE 3 b (hN 6 n.Stops (hC 10 (yeq.c (_,_) L) (hE 11 b (hP (jkd (f:=Enc.e) C) (hO 12 (.sd2 (Enc.e B) (Enc.e F) (List.map Enc.e (B.set (w64 ((n.Stops.length:Int)-1)).toNat H.1)) (List.map Enc.e (a.set (0:Int).toNat (B.set (w64 ((n.Stops.length:Int)-1)).toNat H.1)))) (hP (jbo (f:=Enc.e) b) (hP (jbo (f:=Enc.e) C) (hP (je1 Enc.e B (w64 ((n.Stops.length:Int)-1)).toNat H.1) (hP (je1 Enc.e a (0:Int).toNat (B.set (w64 ((n.Stops.length:Int)-1)).toNat H.1)) h0))))))))))) ?_;exact ibN (wJ G Z)
    ·refine rg G (cd Z ?_ ?_)<;>intro Z
     ·obtain⟨u2,M,Z⟩:=jaf Z;refine re G (hO 2 (.fz [80] [] []) (hV 2 M h0)) ?_;exact ibN (wJ G Z)
     ·exact jae (ibN (wJ G Z))
 rintro⟨t,w,x,z,A⟩ Z;refine rg G ?_;cases Z;exact rt [] []
def yk1:MS l1Cur (Rules×l1Cur):=⟨.b 58,yn3,fun y=>dV y.1,fun _=>[],fun _ y=>[bxO 58 y.2]⟩
theorem ys6:FnOK Tryz.prog tJ 36 yk1.S:=by
 refine fm tt yk1 [fo yae,fo yov] call36 func36 rfl results36 ntmps36 ?_;rintro c y cx G (Z:yn3 c=some y);unfold yn3 at Z;refine rg G ?_;obtain⟨r,h,g,i,w,j,Z⟩:=ob3 Z;obtain⟨k,l,m,n,x,o,Z⟩:=ob3 Z;refine rs G (hC 1 (yaa h) (hC 4 (yaa i) (hO 8 (.fz [144] [] []) (hC 8 (ybf.c (_,_) j) (hO 11 (.fz [192] [] []) (hC 11 (ybf.c (_,_) l) (hO 14 (.fz [240] [] []) (hC 14 (ybf.c (_,_) n) (hO 17 (.fz [288] [] []) (hC 17 (ybf.c (_,_) o) h0)))))))))) ?_;refine jn Z (fun(v,a,b,d,e,f)=>⟨[(0,.ref 0 0),(2,.ref 32 0),(3,.ref 48 0)],[bX 0 58 [dV v,dV a,kV .u64 b],bX 32 35 [kV .i64 0,kV .i64 0,kV .i64 0,kV .i64 0,kV .i64 0,kV .i64 0],bX 48 35 [dV d,dV (w64 (g.1*5)),dV e,dV k.1,dV m.1,dV f]],80⟩) (fun p Z=>?_) ?_
 ·obtain⟨z,q,Z⟩:=jaf Z;refine rs G (hC 1 (yaa q) h0) ?_;refine jaa (rg G (cd Z ?_ ?_))<;>intro Z
  ·obtain⟨A,s,Z⟩:=jaf Z;refine re G (hO 2 (.fz [448] [] []) (hC 2 (ybf.c (_,_) s) h0)) ?_;exact ibN (wJ G Z)
  ·refine rg G (cd Z ?_ ?_)<;>intro Z
   ·obtain⟨B,t,Z⟩:=jaf Z;refine re G (hO 2 (.fz [480] [] []) (hC 2 (ybf.c (_,_) t) h0)) ?_;exact ibN (wJ G Z)
   ·refine rg G (cd Z ?_ ?_)<;>intro Z
    ·obtain⟨C,u,Z⟩:=jaf Z;refine re G (hO 2 (.fz [512] [] []) (hC 2 (ybf.c (_,_) u) h0)) ?_;exact ibN (wJ G Z)
    ·exact jae (ibN (wJ G Z))
 rintro⟨v,a,b,d,e,f⟩ Z;refine rg G ?_;cases Z;exact rt [] []
def ygy:MS (Int×Int×Int) Bool:=⟨.x .r (.x .r .r),fun x=>yau x.1 x.2.1 x.2.2,fun y=>dV y,fun _=>[],fun _ _=>[]⟩
theorem yac{x a b y}(Z:yau x a b=some y):ygy.C (x,a,b) y:=ygy.c (x,a,b) Z
theorem yat:FnOK Tryz.prog tJ 88 ygy.S:=by
 refine fm tt ygy [] call88 func88 rfl results88 ntmps88 ?_;rintro⟨x,a,b⟩ y cx G (Z:yau x a b=some y);unfold yau at Z;refine rg G (jn Z (fun v=>⟨[(6,dV v)],[],32⟩) (fun v Z=>?_) ?_)
 ·rcases bf Z with⟨hb,Z⟩|⟨hb,Z⟩
  ·refine re G (hO 3 (.b true) (hP hb h0)) ?_;exact wJ G Z
  ·refine re G (hO 3 (.b false) (hP hb h0)) ?_;exact wJ G Z
 rintro v Z;cases Z;exact rt [] []
def ybu:MS ByteArray Bool:=mR ykt
theorem ymr:FnOK Tryz.prog tJ 140 ybu.S:=by
 refine fm tt ybu [fo yat] call140 func140 rfl results140 ntmps140 ?_;rintro s y cx G (Z:ykt s=some y);unfold ykt at Z;refine rg G (jab ?_);obtain⟨r,h,Z⟩:=jaf Z;refine jn Z (fun v=>⟨[(0,dV s),(17,dV v)],[],32⟩) (fun v Z=>?_) ?_
 ·rcases bf Z with⟨hb,Z⟩|⟨hb,Z⟩
  ·refine re G (hC 2 (yac h) (hO 4 (.b true) (hP hb h0))) ?_;exact wJ G Z
  ·obtain⟨u,m,Z⟩:=jaf Z;rcases bf Z with⟨d,Z⟩|⟨d,Z⟩
   ·refine re G (hC 2 (yac h) (hO 4 (.b false) (hP hb (hK m (hO 9 (.b true) (hP d h0)))))) ?_;exact wJ G Z
   ·obtain⟨x,q,Z⟩:=jaf Z;refine re G (hC 2 (yac h) (hO 4 (.b false) (hP hb (hK m (hO 9 (.b false) (hP d (hK q h0))))))) ?_;exact wJ G Z
 rintro v Z;refine cd Z ?_ ?_<;>intro Z
 ·refine rg G ?_;cases Z;exact rt [] []
 ·refine jae (thN (jab (rg G (tF Z (fun _=>⟨[],[],32⟩) (fun z p Z=>?_) ?_))))
  ·refine jaa (lp G Z (fun j=>⟨[(0,dV s),(3,dV j)],[],32⟩) ?_);rintro j A g Z;rw[yb2]at Z;refine jab (rg G (cd Z ?_ ?_))<;>intro Z
   ·refine jae (thN (jab (jaa ?_)));obtain⟨B,i,Z⟩:=jaf Z;refine jn Z (fun k=>⟨[(0,dV s),(3,dV j),(45,dV k)],[],32⟩) (fun k Z=>?_) ?_
    ·rcases bf Z with⟨a,Z⟩|⟨a,Z⟩
     ·obtain⟨C,n,Z⟩:=jaf Z;rcases bf Z with⟨e,Z⟩|⟨e,Z⟩
      ·refine re G (hK i (hO 4 (.b true) (hP a (hK n (hO 15 (.b true) (hP e h0)))))) ?_;exact wJ G Z
      ·obtain⟨D,t,Z⟩:=jaf Z;refine re G (hK i (hO 4 (.b true) (hP a (hK n (hO 15 (.b false) (hP e (hK t h0))))))) ?_;exact wJ G Z
     ·obtain⟨E,l,Z⟩:=jaf Z;rcases bf Z with⟨c,Z⟩|⟨c,Z⟩
      ·obtain⟨H,o,Z⟩:=jaf Z;rcases bf Z with⟨f,Z⟩|⟨f,Z⟩
       ·refine re G (hK i (hO 4 (.b false) (hP a (hK l (hO 10 (.b true) (hP c (hK o (hO 15 (.b true) (hP f h0))))))))) ?_;exact wJ G Z
       ·obtain⟨I,w,Z⟩:=jaf Z;refine re G (hK i (hO 4 (.b false) (hP a (hK l (hO 10 (.b true) (hP c (hK o (hO 15 (.b false) (hP f (hK w h0)))))))))) ?_;exact wJ G Z
      ·refine re G (hK i (hO 4 (.b false) (hP a (hK l (hO 10 (.b false) (hP c h0)))))) ?_;exact wJ G Z
    rintro k Z;refine cd Z ?_ ?_<;>intro Z
    ·refine rg G ?_;have Z:=eL Z g p;cases Z;exact rt [] []
    ·exact jae (ibN (thN (rh G (wL G Z))))
   ·exact jag (thE (thE (ibE (wE G Z g))))
  rintro⟨⟩ Z K F;refine thN (jai F ?_);refine rg G ?_;cases Z;exact rt [] []
def ykw:MS ((List ByteArray)×ByteArray) Int:=mS yny
theorem ys1:FnOK Tryz.prog tJ 141 ykw.S:=by
 refine fm tt ykw [] call141 func141 rfl results141 ntmps141 ?_;rintro⟨c,d⟩ y cx G (Z:yny c d=some y);unfold yny at Z;refine rg G (jab (rg G (tF Z (fun _=>⟨[],[],32⟩) (fun a f Z=>?_) ?_)))
 ·refine jaa (lp G Z (fun v=>⟨[(0,dV c),(1,dV d),(5,dV v)],[],32⟩) ?_);rintro v b hb Z;rw[ydd]at Z;refine jab (rs G (hN 2 c h0) ?_);refine cd Z ?_ ?_<;>intro Z
  ·refine jae (thN (jab (jaa ?_)));obtain⟨e,h,Z⟩:=jaf Z;refine rs G (hD 2 h h0) ?_;refine cd Z ?_ ?_<;>intro Z
   ·refine rg G ?_;have Z:=eL Z hb f;cases Z;exact rt [] []
   ·exact jae (ibN (thN (rh G (wL G Z))))
  ·exact jag (thE (thE (ibE (wE G Z hb))))
 rintro⟨⟩ Z s g;refine thN (jai g ?_);refine rg G ?_;cases Z;exact rt [] []
def ygn:MS (Line×Int) Bool:=mS ynx
theorem ys0:FnOK Tryz.prog tJ 142 ygn.S:=by
 refine fm tt ygn [fo ymr,fo yat,fo ygl] call142 func142 rfl results142 ntmps142 ?_;rintro⟨x,p⟩ y cx G (Z:ynx x p=some y);unfold ynx at Z;refine rg G (jab ?_);obtain⟨r,h,Z⟩:=jaf Z;refine jn Z (fun v=>⟨[(1,dV p),(2,.ref 16 0),(27,dV v)],[bX 16 147 [dV x.Name,dV x.Stops,dV x.Runs]],48⟩) (fun v Z=>?_) ?_
 ·rcases bf Z with⟨hb,Z⟩|⟨hb,Z⟩
  ·refine re G (hC 2 (ybu.c _ h) (hO 4 (.b true) (hP hb h0))) ?_;exact wJ G Z
  ·obtain⟨A,n,Z⟩:=jaf Z;rcases bf Z with⟨a,Z⟩|⟨a,Z⟩
   ·refine re G (hC 2 (ybu.c _ h) (hO 4 (.b false) (hP hb (hN 7 x.Stops (hC 8 (yac n) (hO 11 (.b true) (hP a h0))))))) ?_;exact wJ G Z
   ·refine re G (hC 2 (ybu.c _ h) (hO 4 (.b false) (hP hb (hN 7 x.Stops (hC 8 (yac n) (hO 11 (.b false) (hP a (hN 14 x.Runs (hN 17 x.Stops h0))))))))) ?_;exact wJ G Z
 rintro v Z;refine cd Z ?_ ?_<;>intro Z
 ·refine rg G ?_;cases Z;exact rt [] []
 ·refine jae (thN (jab (rg G (tF Z (fun _=>⟨[(2,.ref 16 0)],[bX 16 147 [dV x.Name,dV x.Stops,dV x.Runs]],48⟩) (fun B F Z=>?_) ?_))))
  ·refine jaa (lp G Z (fun g=>⟨[(1,dV p),(2,.ref 16 0),(5,dV g)],[bX 16 147 [dV x.Name,dV x.Stops,dV x.Runs]],48⟩) ?_);rintro g u e Z;rw[yda]at Z;refine jab (rs G (hN 3 x.Stops h0) ?_);refine cd Z ?_ ?_<;>intro Z
   ·refine jae (thN (jab (jaa ?_)));obtain⟨C,o,D,q,Z⟩:=ob2 Z;refine jn Z (fun i=>⟨[(1,dV p),(2,.ref 16 0),(5,dV g),(54,dV i)],[bX 16 147 [dV x.Name,dV x.Stops,dV x.Runs]],48⟩) (fun i Z=>?_) ?_
    ·rcases bf Z with⟨d,Z⟩|⟨d,Z⟩
     ·refine de G [] (hD 3 o (hC 7 (yac q) (hO 9 (.b true) (hP d h0)))) ?_;exact wJ G Z
     ·obtain⟨E,w,H,z,Z⟩:=ob2 Z;refine de G [] (hD 3 o (hC 7 (yac q) (hO 9 (.b false) (hP d (hD 14 w (hC 16 (yd0.c (_,_) z) h0)))))) ?_;exact wJ G Z
    rintro i Z;refine cd Z ?_ ?_<;>intro Z
    ·refine rg G ?_;have Z:=eL Z e F;cases Z;exact rt [] []
    ·exact jae (ibN (thN (rh G (wL G Z))))
   ·exact jag (thE (thE (ibE (wE G Z e))))
  rintro⟨⟩ Z s J;refine thN (jai J ?_);refine jab (rg G (tF Z (fun _=>⟨[],[],32⟩) (fun I j Z=>?_) ?_))
  ·refine jaa (lp G Z (fun t=>⟨[(2,.ref 16 0),(6,dV t)],[bX 16 147 [dV x.Name,dV x.Stops,dV x.Runs]],48⟩) ?_);rintro t u f Z;rw[yc9]at Z;refine jab (rs G (hN 3 x.Runs h0) ?_);refine cd Z ?_ ?_<;>intro Z
   ·refine jae (thN (jab (jaa ?_)));obtain⟨K,k,L,l,Z⟩:=ob2 Z;refine rs G (hD 3 k (hC 5 (yac l) h0)) ?_;refine cd Z ?_ ?_<;>intro Z
    ·refine rg G ?_;have Z:=eL Z f j;cases Z;exact rt [] []
    ·exact jae (ibN (thN (rh G (wL G Z))))
   ·exact jag (thE (thE (ibE (wE G Z f))))
  rintro⟨⟩ Z M m;refine thN (jai m ?_);refine rg G ?_;cases Z;exact rt [] []
def ygm:MS (Network×ByteArray) Int:=mS yku
theorem ywe{n name y}(Z:yku n name=some y):ygm.C (n,name) y:=ygm.c (n,name) Z
theorem ysz:FnOK Tryz.prog tJ 143 ygm.S:=by
 refine fm tt ygm [] call143 func143 rfl results143 ntmps143 ?_;rintro⟨n,c⟩ y cx G (Z:yku n c=some y);unfold yku at Z;refine rg G (jab (rg G (tF Z (fun _=>⟨[],[],32⟩) (fun a d Z=>?_) ?_)))
 ·refine jaa (lp G Z (fun v=>⟨[(1,dV c),(2,.ref 16 0),(5,dV v)],[bX 16 27 [dV n.Stops,dV n.Lines]],48⟩) ?_);rintro v b hb Z;rw[yc8]at Z;refine jab (rs G (hN 3 n.Lines h0) ?_);refine cd Z ?_ ?_<;>intro Z
  ·refine jae (thN (jab (jaa ?_)));obtain⟨e,h,Z⟩:=jaf Z;refine rs G (hD 3 h h0) ?_;refine cd Z ?_ ?_<;>intro Z
   ·refine rg G ?_;have Z:=eL Z hb d;cases Z;exact rt [] []
   ·exact jae (ibN (thN (rh G (wL G Z))))
  ·exact jag (thE (thE (ibE (wE G Z hb))))
 rintro⟨⟩ Z s f;refine thN (jai f ?_);refine rg G ?_;cases Z;exact rt [] []
def ybv:MS Network Bool:=mR ykv
theorem yms:FnOK Tryz.prog tJ 121 ybv.S:=by
 refine fm tt ybv [fo yat,fo ymr,fo ys1,fo ys0,fo ysz] call121 func121 rfl results121 ntmps121 ?_;rintro n y cx G (Z:ykv n=some y);unfold ykv at Z;refine rg G (jab ?_);obtain⟨r,h,Z⟩:=jaf Z;refine jn Z (fun v=>⟨[(1,.ref 16 0),(16,dV v)],[bX 16 27 [dV n.Stops,dV n.Lines]],48⟩) (fun v Z=>?_) ?_
 ·rcases bf Z with⟨hb,Z⟩|⟨hb,Z⟩
  ·refine re G (hN 2 n.Stops (hC 3 (yac h) (hO 5 (.b true) (hP hb h0)))) ?_;exact wJ G Z
  ·obtain⟨E,z,Z⟩:=jaf Z;refine re G (hN 2 n.Stops (hC 3 (yac h) (hO 5 (.b false) (hP hb (hN 8 n.Lines (hC 9 (yac z) h0)))))) ?_;exact wJ G Z
 rintro v Z;refine cd Z ?_ ?_<;>intro Z
 ·refine rg G ?_;cases Z;exact rt [] []
 ·refine jae (thN (jab (rg G (tF Z (fun _=>⟨[(1,.ref 16 0)],[bX 16 27 [dV n.Stops,dV n.Lines]],48⟩) (fun H p Z=>?_) ?_))))
  ·refine jaa (lp G Z (fun i=>⟨[(1,.ref 16 0),(3,dV i)],[bX 16 27 [dV n.Stops,dV n.Lines]],48⟩) ?_);rintro i A e Z;rw[ydc]at Z;refine jab (rs G (hN 3 n.Stops h0) ?_);refine cd Z ?_ ?_<;>intro Z
   ·refine jae (thN (jab (jaa ?_)));obtain⟨I,w,K,x,Z⟩:=ob2 Z;refine jn Z (fun k=>⟨[(1,.ref 16 0),(3,dV i),(42,dV k)],[bX 16 27 [dV n.Stops,dV n.Lines]],48⟩) (fun k Z=>?_) ?_
    ·rcases bf Z with⟨a,Z⟩|⟨a,Z⟩
     ·refine de G [] (hD 3 w (hC 5 (ybu.c _ x) (hO 7 (.b true) (hP a h0)))) ?_;exact wJ G Z
     ·obtain⟨L,B,M,C,Z⟩:=ob2 Z;refine de G [] (hD 3 w (hC 5 (ybu.c _ x) (hO 7 (.b false) (hP a (hD 13 B (hC 15 (ykw.c (_,_) C) h0)))))) ?_;exact wJ G Z
    rintro k Z;refine cd Z ?_ ?_<;>intro Z
    ·refine rg G ?_;have Z:=eL Z e p;cases Z;exact rt [] []
    ·exact jae (ibN (thN (rh G (wL G Z))))
   ·exact jag (thE (thE (ibE (wE G Z e))))
  rintro⟨⟩ Z s F;refine thN (jai F ?_);refine jab (rg G (tF Z (fun _=>⟨[],[],32⟩) (fun N l Z=>?_) ?_))
  ·refine jaa (lp G Z (fun m=>⟨[(1,.ref 16 0),(4,dV m)],[bX 16 27 [dV n.Stops,dV n.Lines]],48⟩) ?_);rintro m A f Z;rw[ydb]at Z;refine jab (rs G (hN 3 n.Lines h0) ?_);refine cd Z ?_ ?_<;>intro Z
   ·refine jae (thN (jab (jaa ?_)));obtain⟨O,g,Q,j,Z⟩:=ob2 Z;refine jn Z (fun o=>⟨[(1,.ref 16 0),(4,dV m),(71,dV o)],[bX 16 27 [dV n.Stops,dV n.Lines]],48⟩) (fun o Z=>?_) ?_
    ·rcases bf Z with⟨d,Z⟩|⟨d,Z⟩
     ·refine de G [] (hD 3 g (hN 7 n.Stops (hC 8 (ygn.c (_,_) j) (hO 10 (.b true) (hP d h0))))) ?_;exact wJ G Z
     ·obtain⟨R,q,D,t,Z⟩:=ob2 Z;refine de G [] (hD 3 g (hN 7 n.Stops (hC 8 (ygn.c (_,_) j) (hO 10 (.b false) (hP d (hD 15 q (hC 18 (ywe t) h0))))))) ?_;exact wJ G Z
    rintro o Z;refine cd Z ?_ ?_<;>intro Z
    ·refine rg G ?_;have Z:=eL Z f l;cases Z;exact rt [] []
    ·exact jae (ibN (thN (rh G (wL G Z))))
   ·exact jag (thE (thE (ibE (wE G Z f))))
  rintro⟨⟩ Z T u;refine thN (jai u ?_);refine rg G ?_;cases Z;exact rt [] []
def ygi:MS Int Bool:=mR yem
theorem ybt{t y}(Z:yem t=some y):ygi.C t y:=ygi.c t Z
theorem ysv:FnOK Tryz.prog tJ 122 ygi.S:=by
 refine fm tt ygi [fo yat] call122 func122 rfl results122 ntmps122 ?_;rintro t y cx G (Z:yem t=some y);unfold yem at Z;refine rg G ?_;obtain⟨r,h,Z⟩:=jaf Z;refine rs G (hC 1 (yac h) h0) ?_;cases Z;exact rt [] []
def yge:MS (Timetable×Int) Line:=mS ykn
theorem ymo:FnOK Tryz.prog tJ 145 yge.S:=by
 refine fm tt yge [] call145 func145 rfl results145 ntmps145 ?_;rintro⟨t,i⟩ y cx G (Z:ykn t i=some y);unfold ykn at Z;refine rg G ?_;obtain⟨c,a,d,b,Z⟩:=ob2 Z;refine ds G [(11,[32])] (hD 6 a (hD 9 b h0)) ?_;cases Z;exact rt [] []
def ydy:MS (Timetable×Int) (List Int):=mS yh5
theorem ymn:FnOK Tryz.prog tJ 125 ydy.S:=by
 refine fm tt ydy [fo ymo] call125 func125 rfl results125 ntmps125 ?_;rintro⟨t,i⟩ y cx G (Z:yh5 t i=some y);unfold yh5 at Z;refine rg G ?_;obtain⟨r,h,Z⟩:=jaf Z;refine rs G (hC 2 (yge.c (_,_) h) h0) ?_;cases Z;exact rt [] []
def ygj:MS (Line×Int×Int) Int:=⟨.x .r (.x .r .r),fun x=>yh6 x.1 x.2.1 x.2.2,fun y=>dV y,fun _=>[],fun _ _=>[]⟩
theorem ywd{x from_ to_ y}(Z:yh6 x from_ to_=some y):ygj.C (x,from_,to_) y:=ygj.c (x,from_,to_) Z
theorem ysw:FnOK Tryz.prog tJ 171 ygj.S:=by
 refine fm tt ygj [] call171 func171 rfl results171 ntmps171 ?_;rintro⟨x,d,f⟩ y cx G (Z:yh6 x d f=some y);unfold yh6 at Z;refine rg G (rg G (jab (rg G (tl Z (fun a=>⟨[(7,dV a)],[],32⟩) (fun a Z=>?_) ?_))))
 ·refine jaa (lp G Z (fun(v,b)=>⟨[(2,dV f),(3,.ref 16 0),(7,dV v),(8,dV b)],[bX 16 147 [dV x.Name,dV x.Stops,dV x.Runs]],48⟩) ?_);rintro⟨v,b⟩ c hb Z;rw[ygk]at Z;refine jab (rg G (cd Z ?_ ?_))<;>intro Z
  ·refine jae (thN (jab (jaa ?_)));obtain⟨e,h,Z⟩:=jaf Z;refine re G (hD 4 h h0) ?_;exact ibN (thN (rh G (wL G Z)))
  ·exact jag (thE (thE (ibE (wD G Z hb))))
 rintro a Z s g;refine thN (jai g ?_);refine rg G ?_;cases Z;exact rt [] []
def yko:MS (Timetable×Int×Int) Int:=⟨.x .r (.x .r .r),fun x=>ynw x.1 x.2.1 x.2.2,fun y=>dV y,fun _=>[],fun _ _=>[]⟩
theorem ysu:FnOK Tryz.prog tJ 144 yko.S:=by
 refine fm tt yko [fo ymo,fo ysw] call144 func144 rfl results144 ntmps144 ?_;rintro⟨t,i,k⟩ y cx G (Z:ynw t i k=some y);unfold ynw at Z;refine rg G ?_;obtain⟨e,a,f,b,g,d,Z⟩:=ob3 Z;refine ds G [] (hD 3 a (hC 8 (yge.c (_,_) b) (hC 10 (ywd d) h0))) ?_;cases Z;exact rt [] []
def ybs:MS (Timetable×Int) Int:=mS ydz
theorem ygh:FnOK Tryz.prog tJ 123 ybs.S:=by
 refine fm tt ybs [fo ymn,fo ysu] call123 func123 rfl results123 ntmps123 ?_;rintro⟨t,i⟩ y cx G (Z:ydz t i=some y);unfold ydz at Z;refine rg G ?_;obtain⟨a,b,e,d,Z⟩:=ob2 Z;refine ds G [] (hC 4 (ydy.c (_,_) b) (hN 5 a (hC 7 (yko.c (_,_,_) d) h0))) ?_;cases Z;exact rt [] []
def ygf:MS Timetable Bool:=mR ynv
theorem yst:FnOK Tryz.prog tJ 73 ygf.S:=by
 refine fm tt ygf [fo yms,fo yat,fo ysv,fo ygh] call73 func73 rfl results73 ntmps73 ?_;rintro t y cx G (Z:ynv t=some y);unfold ynv at Z;refine rg G (jab ?_);obtain⟨r,h,Z⟩:=jaf Z;refine jn Z (fun v=>⟨[(1,.ref 16 0),(14,dV v)],[bX 16 30 [dV t.Network.Stops,dV t.Network.Lines,dV t.Trips]],48⟩) (fun v Z=>?_) ?_
 ·rcases bf Z with⟨hb,Z⟩|⟨hb,Z⟩
  ·refine re G (hC 2 (ybv.c _ h) (hO 4 (.b true) (hP hb h0))) ?_;exact wJ G Z
  ·refine re G (hC 2 (ybv.c _ h) (hO 4 (.b false) (hP hb (hN 7 t.Trips h0)))) ?_;exact wJ G Z
 rintro v Z;refine cd Z ?_ ?_<;>intro Z
 ·refine rg G ?_;cases Z;exact rt [] []
 ·refine jae (thN (jab (rg G (tF Z (fun _=>⟨[],[],32⟩) (fun A p Z=>?_) ?_))))
  ·refine jaa (lp G Z (fun x=>⟨[(1,.ref 16 0),(3,dV x)],[bX 16 30 [dV t.Network.Stops,dV t.Network.Lines,dV t.Trips]],48⟩) ?_);rintro x B n Z;rw[ygg]at Z;refine jab (rs G (hN 3 t.Trips h0) ?_);refine cd Z ?_ ?_<;>intro Z
   ·refine jae (thN (jab (jaa ?_)));obtain⟨e,w,Z⟩:=jaf Z;refine rs G (hD 3 w h0) ?_;obtain⟨C,m,Z⟩:=jaf Z;refine jn Z (fun q=>⟨[(1,.ref 16 0),(3,dV x),(70,dV q)],[bX 16 30 [dV t.Network.Stops,dV t.Network.Lines,dV t.Trips]],48⟩) (fun q Z=>?_) ?_
    ·rcases bf Z with⟨a,Z⟩|⟨a,Z⟩
     ·refine de G [] (hC 2 (yac m) (hO 4 (.b true) (hP a h0))) ?_;exact wJ G Z
     ·obtain⟨D,o,Z⟩:=jaf Z;rcases bf Z with⟨d,Z⟩|⟨d,Z⟩
      ·refine de G [] (hC 2 (yac m) (hO 4 (.b false) (hP a (hN 10 t.Network.Lines (hC 12 (yac o) (hO 15 (.b true) (hP d h0))))))) ?_;exact wJ G Z
      ·obtain⟨E,g,Z⟩:=jaf Z;rcases bf Z with⟨f,Z⟩|⟨f,Z⟩
       ·refine de G [] (hC 2 (yac m) (hO 4 (.b false) (hP a (hN 10 t.Network.Lines (hC 12 (yac o) (hO 15 (.b false) (hP d (hC 18 (ybt g) (hO 21 (.b true) (hP f h0)))))))))) ?_;exact wJ G Z
       ·obtain⟨H,j,z,k,Z⟩:=ob2 Z;rcases bf Z with⟨i,Z⟩|⟨i,Z⟩
        ·refine de G [] (hC 2 (yac m) (hO 4 (.b false) (hP a (hN 10 t.Network.Lines (hC 12 (yac o) (hO 15 (.b false) (hP d (hC 18 (ybt g) (hO 21 (.b false) (hP f (hC 24 (ybs.c (_,_) j) (hC 25 (ybt k) (hO 28 (.b true) (hP i h0)))))))))))))) ?_;exact wJ G Z
        ·rcases bf Z with⟨l,Z⟩|⟨l,Z⟩
         ·obtain⟨I,u,Z⟩:=jaf Z;refine de G [] (hC 2 (yac m) (hO 4 (.b false) (hP a (hN 10 t.Network.Lines (hC 12 (yac o) (hO 15 (.b false) (hP d (hC 18 (ybt g) (hO 21 (.b false) (hP f (hC 24 (ybs.c (_,_) j) (hC 25 (ybt k) (hO 28 (.b false) (hP i (hO 31 (.b true) (hP l (hD 36 u h0))))))))))))))))) ?_;exact wJ G Z
         ·refine de G [] (hC 2 (yac m) (hO 4 (.b false) (hP a (hN 10 t.Network.Lines (hC 12 (yac o) (hO 15 (.b false) (hP d (hC 18 (ybt g) (hO 21 (.b false) (hP f (hC 24 (ybs.c (_,_) j) (hC 25 (ybt k) (hO 28 (.b false) (hP i (hO 31 (.b false) (hP l h0)))))))))))))))) ?_;exact wJ G Z
    rintro q Z;refine cd Z ?_ ?_<;>intro Z
    ·refine rg G ?_;have Z:=eL Z n p;cases Z;exact rt [] []
    ·exact jae (ibN (thN (rh G (wL G Z))))
   ·exact jag (thE (thE (ibE (wE G Z n))))
  rintro⟨⟩ Z s F;refine thN (jai F ?_);refine rg G ?_;cases Z;exact rt [] []
def ypd:MS (Network×Fleet) Bool:=mS zq66
theorem yu4:FnOK Tryz.prog tJ 74 ypd.S:=by
 refine fm tt ypd [fo yms,fo yat] call74 func74 rfl results74 ntmps74 ?_;rintro⟨n,f⟩ y cx G (Z:zq66 n f=some y);unfold zq66 at Z;refine rg G (jab ?_);obtain⟨r,h,Z⟩:=jaf Z;refine jn Z (fun v=>⟨[(2,.ref 16 0),(3,.ref 32 0),(24,dV v)],[bX 16 27 [dV n.Stops,dV n.Lines],bX 32 33 [dV f.Dead,dV f.Turn]],64⟩) (fun v Z=>?_) ?_
 ·rcases bf Z with⟨hb,Z⟩|⟨hb,Z⟩
  ·refine re G (hC 1 (ybv.c _ h) (hO 3 (.b true) (hP hb h0))) ?_;exact wJ G Z
  ·rcases bf Z with⟨a,Z⟩|⟨a,Z⟩
   ·refine re G (hC 1 (ybv.c _ h) (hO 3 (.b false) (hP hb (hN 6 f.Dead (hN 9 n.Stops (hO 12 (.b true) (hP a h0))))))) ?_;exact wJ G Z
   ·obtain⟨E,w,Z⟩:=jaf Z;refine re G (hC 1 (ybv.c _ h) (hO 3 (.b false) (hP hb (hN 6 f.Dead (hN 9 n.Stops (hO 12 (.b false) (hP a (hC 15 (yac w) h0)))))))) ?_;exact wJ G Z
 rintro v Z;refine cd Z ?_ ?_<;>intro Z
 ·refine rg G ?_;cases Z;exact rt [] []
 ·refine jae (thN (jab (rg G (tF Z (fun _=>⟨[],[],32⟩) (fun H p Z=>?_) ?_))))
  ·refine jaa (lp G Z (fun g=>⟨[(2,.ref 16 0),(3,.ref 32 0),(5,dV g)],[bX 16 27 [dV n.Stops,dV n.Lines],bX 32 33 [dV f.Dead,dV f.Turn]],64⟩) ?_);rintro g x d Z;rw[yjk]at Z;refine jab (rs G (hN 3 f.Dead h0) ?_);refine cd Z ?_ ?_<;>intro Z
   ·refine jae (thN (jab (jaa (jab ?_))));obtain⟨q,t,Z⟩:=jaf Z;refine jn Z (fun j=>⟨[(2,.ref 16 0),(3,.ref 32 0),(5,dV g),(52,dV j)],[bX 16 27 [dV n.Stops,dV n.Lines],bX 32 33 [dV f.Dead,dV f.Turn]],64⟩) (fun j Z=>?_) ?_
    ·rcases bf Z with⟨e,Z⟩|⟨e,Z⟩
     ·refine de G [] (hD 3 t (hN 5 q (hN 8 n.Stops (hO 10 (.b true) (hP e h0))))) ?_;exact wJ G Z
     ·obtain⟨I,z,K,A,Z⟩:=ob2 Z;refine de G [] (hD 3 t (hN 5 q (hN 8 n.Stops (hO 10 (.b false) (hP e (hD 14 z (hD 17 A h0))))))) ?_;exact wJ G Z
    rintro j Z;refine cd Z ?_ ?_<;>intro Z
    ·refine rg G ?_;have Z:=eL Z d p;cases Z;exact rt [] []
    ·refine jae (thN (rg G (tF Z (fun _=>⟨[(2,.ref 16 0),(3,.ref 32 0),(5,dV g)],[bX 16 27 [dV n.Stops,dV n.Lines],bX 32 33 [dV f.Dead,dV f.Turn]],64⟩) (fun L k Z=>?_) ?_)))
     ·refine jaa (lp G Z (fun u=>⟨[(2,.ref 16 0),(3,.ref 32 0),(5,dV g),(6,dV u)],[bX 16 27 [dV n.Stops,dV n.Lines],bX 32 33 [dV f.Dead,dV f.Turn]],64⟩) ?_);rintro u x i Z;rw[yfm]at Z;refine jab ?_;obtain⟨B,C,Z⟩:=jaf Z;refine rs G (hD 4 C (hN 6 B h0)) ?_;refine cd Z ?_ ?_<;>intro Z
      ·refine jae (thN (jab (jaa ?_)));obtain⟨M,D,N,l,O,m,Z⟩:=ob3 Z;refine rs G (hD 3 D (hD 6 l (hC 8 (yac m) h0))) ?_;refine cd Z ?_ ?_<;>intro Z
       ·refine rg G ?_;have Z:=eL Z i k;have Z:=eL Z d p;cases Z;exact rt [] []
       ·exact jae (ibN (thN (rh G (wL G Z))))
      ·exact jag (thE (thE (ibE (wE G Z i))))
     rintro⟨⟩ Z s F;refine ibN (thN (jai F ?_));exact rh G (wL G Z)
   ·exact jag (thE (thE (ibE (wE G Z d))))
  rintro⟨⟩ Z Q o;refine thN (jai o ?_);refine rg G ?_;cases Z;exact rt [] []
def yeu:MS (Timetable×Fleet) Bool:=mS zq61
theorem yph:FnOK Tryz.prog tJ 37 yeu.S:=by
 refine fm tt yeu [fo yst,fo yu4] call37 func37 rfl results37 ntmps37 ?_;rintro⟨t,f⟩ y cx G (Z:zq61 t f=some y);unfold zq61 at Z;refine rg G ?_;obtain⟨r,h,Z⟩:=jaf Z;refine jn Z (fun v=>⟨[(4,dV v)],[],32⟩) (fun v Z=>?_) ?_
 ·rcases bf Z with⟨hb,Z⟩|⟨hb,Z⟩
  ·obtain⟨d,a,Z⟩:=jaf Z;refine re G (hC 1 (ygf.c _ h) (hO 2 (.b true) (hP hb (hC 6 (ypd.c (_,_) a) h0)))) ?_;exact wJ G Z
  ·refine re G (hC 1 (ygf.c _ h) (hO 2 (.b false) (hP hb h0))) ?_;exact wJ G Z
 rintro v Z;cases Z;exact rt [] []
def yl1:MS (Timetable×Fleet×Int×Int) Int:=⟨.x .r (.x .r (.x .r .r)),fun x=>zq65 x.1 x.2.1 x.2.2.1 x.2.2.2,fun y=>dV y,fun _=>[],fun _ _=>[]⟩
theorem yl0{t f a b y}(Z:zq65 t f a b=some y):yl1.C (t,f,a,b) y:=yl1.c (t,f,a,b) Z
theorem yfn:FnOK Tryz.prog tJ 77 yl1.S:=by
 refine fm tt yl1 [fo ymn] call77 func77 rfl results77 ntmps77 ?_;rintro⟨t,f,a,b⟩ y cx G (Z:zq65 t f a b=some y);unfold zq65 at Z;refine rg G ?_;obtain⟨g,h,l,i,Z⟩:=ob2 Z;refine ds G [] (hC 2 (ydy.c (_,_) h) (hC 5 (ydy.c (_,_) i) h0)) ?_;obtain⟨m,j,n,k,o,d,Z⟩:=ob3 Z;obtain⟨q,e,Z⟩:=jaf Z;refine ds G [] (hN 4 g (hD 6 j (hD 8 k (hD 11 d (hD 13 e h0))))) ?_;cases Z;exact rt [] []
def ylz:MS (Timetable×Fleet×Int×Int) Bool:=⟨.x .r (.x .r (.x .r .r)),fun x=>zq67 x.1 x.2.1 x.2.2.1 x.2.2.2,fun y=>dV y,fun _=>[],fun _ _=>[]⟩
theorem yly{t f a b y}(Z:zq67 t f a b=some y):ylz.C (t,f,a,b) y:=ylz.c (t,f,a,b) Z
theorem yjj:FnOK Tryz.prog tJ 76 ylz.S:=by
 refine fm tt ylz [fo ygh,fo yfn] call76 func76 rfl results76 ntmps76 ?_;rintro⟨t,f,a,b⟩ y cx G (Z:zq67 t f a b=some y);unfold zq67 at Z;refine rg G (jn Z (fun v=>⟨[(8,dV v)],[],32⟩) (fun v Z=>?_) ?_)
 ·rcases bf Z with⟨hb,Z⟩|⟨hb,Z⟩
  ·obtain⟨h,d,i,e,j,g,Z⟩:=ob3 Z;refine de G [] (hO 3 (.b true) (hP hb (hD 7 d (hC 12 (ybs.c (_,_) e) (hC 20 (yl0 g) h0))))) ?_;exact wJ G Z
  ·refine de G [] (hO 3 (.b false) (hP hb h0)) ?_;exact wJ G Z
 rintro v Z;cases Z;exact rt [] []
def ygx:MS (Int×Int) Int:=mS yia
theorem ymz:FnOK Tryz.prog tJ 124 ygx.S:=by
 refine fm tt ygx [] call124 func124 rfl results124 ntmps124 ?_;rintro⟨a,b⟩ y cx G (Z:yia a b=some y);unfold yia at Z;refine rg G (jab (rg G (cd Z ?_ ?_)))<;>intro Z
 ·refine rg G ?_;cases Z;exact rt [] []
 ·refine jae (thN (rg G ?_));cases Z;exact rt [] []
def ybr(a:l11Plan->Int->Int->Option (Int×(List (List Int)))):MS (l11Plan×Int×Int) (Int×(List (List Int))):=⟨⟨[.bo 1,.rd,.rd],fun x=>[.sc undef,Enc.e x.2.1,Enc.e x.2.2],fun x=>[.box 119 [dV x.1.t_.Network.Stops,dV x.1.t_.Network.Lines,dV x.1.t_.Trips,dV x.1.f_.Dead,dV x.1.f_.Turn,.own 1],taO 53 [some 3] x.1.known_],2,2,fun _=>rfl,fun _=>rfl,rfl,(by
  rintro⟨b,c,d⟩ ⟨b0,f,g⟩ h hO;have i:b=b0:=Enc.inj _ _ (congrArg D.agg (jbc (congrArg (fun l=>obC l 0 0) hO) (jbc (congrArg (fun l=>obC l 0 1) hO) (jbc (congrArg (fun l=>obC l 0 2) hO) (jbc (congrArg (fun l=>obC l 0 3) hO) (jbc (congrArg (fun l=>obC l 0 4) hO) (jbc (congrArg (fun l=>D.sl 1 (obL l 1)) hO) rfl)))))));have q1:c=f:=qI 1 h;have j:d=g:=qI 2 h;subst i;subst q1;subst j;rfl)⟩,fun x=>a x.1 x.2.1 x.2.2,fun y=>dV y.1,fun _=>[],fun x y=>[.box 119 [dV x.1.t_.Network.Stops,dV x.1.t_.Network.Lines,dV x.1.t_.Trips,dV x.1.f_.Dead,dV x.1.f_.Turn,.own 1],taO 53 [some 3] y.2]⟩
def ylx:MS (l11Plan×Int×Int) (Int×(List (List Int))):=ybr zq69
theorem ypb{a:l11Plan->Int->Int->Option (Int×(List (List Int)))}{x i used y}(Z:a x i used=some y):(ybr a).C (x,i,used) y:=(ybr a).c (x,i,used) Z
theorem yr9{F:l11Plan->Int->Int->Option (Int×(List (List Int)))}(J:FnOK Tryz.prog tJ 75 (ybr F).S):FnOK Tryz.prog tJ 75 (ybr (ydq F)).S:=by
 refine fm tt (ybr (ydq F)) [foK J [0] (fun _ _=>rfl) (fun _ _=>rfl),fo yjj,fo yfn,fo ymz] call75 func75 rfl results75 ntmps75 ?_;rintro⟨x,i,p⟩ y cx G (Z:ydq F x i p=some y);unfold ydq at Z;refine rg G (rs G (hN 5 x.t_.Trips h0) ?_);refine jab (rg G (cd Z ?_ ?_))<;>intro Z
 ·refine rg G ?_;cases Z;exact rt [] []
 ·refine jae (thN (jab ?_));obtain⟨e,h,E,z,Z⟩:=ob2 Z;refine rs G (hD 5 h (hE 6 h (hE 8 h (hP (jkd (f:=Enc.e) z) (hO 9 (.d2 (Enc.e e) (Enc.e E)) (hP (jbo (f:=Enc.e) h) (hP (jbo (f:=Enc.e) z) h0))))))) ?_;refine cd Z ?_ ?_<;>intro Z
  ·obtain⟨O,H,I,A,Z⟩:=ob2 Z;refine rs G (hD 5 H (hE 6 h (hE 8 h (hP (jkd (f:=Enc.e) A) (hO 9 (.d2 (Enc.e e) (Enc.e I)) (hP (jbo (f:=Enc.e) h) (hP (jbo (f:=Enc.e) A) h0))))))) ?_;cases Z;exact rt [] []
  ·refine jae (thN ?_);obtain⟨r,K,Z⟩:=jaf Z;refine rs G (hC 4 (ypb K) h0) ?_;refine jab (rg G (tl Z (fun(g,l)=>⟨[(0,.ref 0 0),(1,dV i),(2,dV p),(8,dV g)],[bX 0 119 [dV x.t_.Network.Stops,dV x.t_.Network.Lines,dV x.t_.Trips,dV x.f_.Dead,dV x.f_.Turn,.own 1],tX 1 53 [some 3] l 1 none],48⟩) (fun L Z=>?_) ?_))
   ·refine jaa (lp G Z (fun(v,m,n)=>⟨[(0,.ref 0 0),(1,dV i),(2,dV p),(7,dV (x.t_.Trips.length:Int)),(8,dV v),(9,dV m)],[bX 0 119 [dV x.t_.Network.Stops,dV x.t_.Network.Lines,dV x.t_.Trips,dV x.f_.Dead,dV x.f_.Turn,.own 1],tX 1 53 [some 3] n 1 none],48⟩) ?_);rintro⟨v,m,n⟩ Q hb Z;rw[yji]at Z;refine jab (rg G (cd Z ?_ ?_))<;>intro Z
    ·refine jae (thN (jn Z (fun(B,C)=>⟨[(0,.ref 0 0),(1,dV i),(2,dV p),(7,dV (x.t_.Trips.length:Int)),(8,dV B),(9,dV m)],[bX 0 119 [dV x.t_.Network.Stops,dV x.t_.Network.Lines,dV x.t_.Trips,dV x.f_.Dead,dV x.f_.Turn,.own 1],tX 1 53 [some 3] C 1 none],48⟩) (fun Y Z=>?_) ?_))
     ·refine jaa ?_;obtain⟨R,D,Z⟩:=jaf Z;refine jn Z (fun o=>⟨[(0,.ref 0 0),(1,dV i),(2,dV p),(7,dV (x.t_.Trips.length:Int)),(8,dV v),(9,dV m),(69,dV o)],[bX 0 119 [dV x.t_.Network.Stops,dV x.t_.Network.Lines,dV x.t_.Trips,dV x.f_.Dead,dV x.f_.Turn,.own 1],tX 1 53 [some 3] n 1 none],48⟩) (fun o Z=>?_) ?_
      ·rcases bf Z with⟨d,Z⟩|⟨d,Z⟩
       ·obtain⟨T,M,Z⟩:=jaf Z;refine de G [] (hK D (hO 6 (.b true) (hP d (hC 17 (yly M) h0)))) ?_;exact wJ G Z
       ·refine de G [] (hK D (hO 6 (.b false) (hP d h0))) ?_;exact wJ G Z
      rintro o Z;refine cd Z ?_ ?_<;>intro Z
      ·obtain⟨U,q,V,t,W,u,Z⟩:=ob3 Z;obtain⟨X,w,Z⟩:=jaf Z;refine de G [(20,[1])] (hC 11 (yl0 q) (hK t (hC 20 (ypb u) (hC 22 (ygx.c (_,_) w) h0)))) ?_;exact ibN (wJ G Z)
      ·exact jae (ibN (wJ G Z))
     rintro⟨B,C⟩ Z;exact rh G (wL G Z)
    ·exact jag (thE (thE (ibE (wD G Z hb))))
   rintro⟨g,l⟩ Z s P;refine thN (jai P ?_);obtain⟨j,a,N,k,Z⟩:=ob2 Z;refine rs G (hD 5 a (hE 6 a (hE 9 a (hP (jkd (f:=Enc.e) k) (hO 10 (.sd2 (Enc.e j) (Enc.e N) (List.map Enc.e (j.set p.toNat g)) (List.map Enc.e (l.set i.toNat (j.set p.toNat g)))) (hP (jbo (f:=Enc.e) a) (hP (jbo (f:=Enc.e) k) (hP (je1 Enc.e j p.toNat g) (hP (je1 Enc.e l i.toNat (j.set p.toNat g)) h0))))))))) ?_;refine rg G ?_;cases Z;exact rt [] []
theorem ylw:∀k,FnOK Tryz.prog tJ 75 (ybr (yh0 k)).S
 |0=>⟨fun args w=>call75 args w,fun vs w F ds obs κ a=>by obtain⟨x,y,_,_,h⟩:=a;cases h⟩
 |k+1=>yr9 (ylw k)
theorem yu2:FnOK Tryz.prog tJ 75 ylx.S:=ylw 4294967296
def ypg:MS (Timetable×Fleet) (List Int):=⟨.x .r .r,fun x=>zq62 x.1 x.2,fun _=>.own 0,fun y=>[arO 3 y],fun _ _=>[]⟩
theorem yu7:FnOK Tryz.prog tJ 39 ypg.S:=by
 refine fm tt ypg [fo yu2,fo yjj,fo yfn] call39 func39 rfl results39 ntmps39 ?_;rintro⟨t,f⟩ y cx G (Z:zq62 t f=some y);unfold zq62 at Z;refine rg G (rs G (hN 2 t.Trips h0) ?_);refine rg G (jab (rg G (tl Z (fun A=>⟨[(2,.ref 16 0),(3,.ref 32 0),(5,dV (t.Trips.length:Int)),(6,.ref 48 0)],[bX 16 30 [dV t.Network.Stops,dV t.Network.Lines,dV t.Trips],bX 32 33 [dV f.Dead,dV f.Turn],bX 48 119 [dV t.Network.Stops,dV t.Network.Lines,dV t.Trips,dV f.Dead,dV f.Turn,.own 64],tX 64 53 [some 3] A 64 none],96⟩) (fun A Z=>?_) ?_)))
 ·refine jaa (lpP Z (fun(k,v)=>⟨[(2,.ref 16 0),(3,.ref 32 0),(5,dV (t.Trips.length:Int)),(6,.ref 48 0),(7,dV k)],[bX 16 30 [dV t.Network.Stops,dV t.Network.Lines,dV t.Trips],bX 32 33 [dV f.Dead,dV f.Turn],bX 48 119 [dV t.Network.Stops,dV t.Network.Lines,dV t.Trips,dV f.Dead,dV f.Turn,.own 64],tX 64 53 [some 3] v 64 none],96⟩) (Wk_J G.hL ⟨[(2,[]),(3,[]),(5,[]),(6,[]),(7,[])],[(16,16,[]),(32,32,[]),(48,176,[.k,.k,.k,.k,.k,.o 64])],[(64,53,1,[some 3])],96⟩ (by kernel_rfl)) ?_);rintro⟨k,v⟩ B hb Z;rw[yjo]at Z;refine jab (rg G (cd Z ?_ ?_))<;>intro Z
  ·refine jae (thN (jab (jaa ?_)));obtain⟨u,h,u1,h1,Z⟩:=ob2 Z;refine rs G (hK h (hO 3 (.l (List.map Enc.e (List.replicate (w64 (1*2^(min ((IntKind.u64.wrap ((t.Trips.length:Int))):Int).toNat (IntKind.i64).bits))).toNat (0:Int)))) (hP (mk_p (b:=8) (jeb h1) rfl) (hP (jma Enc.e (w64 (1*2^(min ((IntKind.u64.wrap ((t.Trips.length:Int))):Int).toNat (IntKind.i64).bits))).toNat (0:Int)) h0)))) ?_;refine jab (rg G (tl Z (fun J=>⟨[(2,.ref 16 0),(3,.ref 32 0),(5,dV (t.Trips.length:Int)),(6,.ref 48 0),(7,dV k),(8,.own 64)],[bX 16 30 [dV t.Network.Stops,dV t.Network.Lines,dV t.Trips],bX 32 33 [dV f.Dead,dV f.Turn],bX 48 119 [dV t.Network.Stops,dV t.Network.Lines,dV t.Trips,dV f.Dead,dV f.Turn,.own 80],aX 64 3 J,tX 80 53 [some 3] v 80 none],112⟩) (fun J Z=>?_) ?_))
   ·refine jaa (lp G Z (fun(aa,out)=>⟨[(2,.ref 16 0),(3,.ref 32 0),(5,dV (t.Trips.length:Int)),(6,.ref 48 0),(7,dV k),(8,.own 64),(9,dV aa)],[bX 16 30 [dV t.Network.Stops,dV t.Network.Lines,dV t.Trips],bX 32 33 [dV f.Dead,dV f.Turn],bX 48 119 [dV t.Network.Stops,dV t.Network.Lines,dV t.Trips,dV f.Dead,dV f.Turn,.own 80],aX 64 3 out,tX 80 53 [some 3] v 80 none],112⟩) ?_);rintro⟨aa,out⟩ B C Z;rw[yjp]at Z;refine jab (rs G (hN 2 out h0) ?_);refine cd Z ?_ ?_<;>intro Z
    ·refine jae (thN (jab (jaa ?_)));obtain⟨e,U,Z⟩:=jaf Z;refine re G (hD 2 U (hS 3 U (-1) h0)) ?_;exact ibN (thN (rh G (wL G Z)))
    ·exact jag (thE (thE (ibE (wD G Z C))))
   rintro J Z s hw;refine thN (jai hw ?_);obtain⟨u2,h3,Z⟩:=jaf Z;refine re G (hP (jbn (l:=[64]) rfl) (hA 7 24 h3 h0)) ?_;exact ibN (thN (rh G (wL G Z)))
  ·exact jag (thE (thE (ibE (wD G Z hb))))
 rintro A Z s1 D;refine thN (jai D ?_);refine rg G (rg G (jab (rg G (tl Z (fun E=>⟨[(10,.own 16)],[aX 16 3 E],48⟩) (fun E Z=>?_) ?_))))
 ·refine jaa (lp G Z (fun(F,p,i,V)=>⟨[(2,.ref 16 0),(3,.ref 32 0),(5,dV (t.Trips.length:Int)),(6,.ref 48 0),(10,.own 64),(11,dV F),(12,dV p)],[bX 16 30 [dV t.Network.Stops,dV t.Network.Lines,dV t.Trips],bX 32 33 [dV f.Dead,dV f.Turn],bX 48 119 [dV t.Network.Stops,dV t.Network.Lines,dV t.Trips,dV f.Dead,dV f.Turn,.own 80],aX 64 3 i,tX 80 53 [some 3] V 80 none],112⟩) ?_);rintro⟨F,p,i,V⟩ B H Z;rw[yjm]at Z;refine jab (rg G (cd Z ?_ ?_))<;>intro Z
  ·refine jae (thN (jab (jaa ?_)));obtain⟨r,h4,Z⟩:=jaf Z;refine rs G (hC 3 (ylx.c (_,_,_) h4) h0) ?_;refine rg G (jn Z (fun(P,W,X)=>⟨[(2,.ref 16 0),(3,.ref 32 0),(5,dV (t.Trips.length:Int)),(6,.ref 48 0),(10,.own 64),(11,dV P),(12,dV p),(14,dV W)],[bX 16 30 [dV t.Network.Stops,dV t.Network.Lines,dV t.Trips],bX 32 33 [dV f.Dead,dV f.Turn],bX 48 119 [dV t.Network.Stops,dV t.Network.Lines,dV t.Trips,dV f.Dead,dV f.Turn,.own 80],aX 64 3 i,tX 80 53 [some 3] X 80 none],112⟩) (fun ad Z=>?_) ?_)
   ·obtain⟨r1,h5,Z⟩:=jaf Z;refine rs G (hC 4 (ylx.c (_,_,_) h5) h0) ?_;refine cd Z ?_ ?_<;>intro Z
    ·refine jab (rg G (tl Z (fun(j,m)=>⟨[(2,.ref 16 0),(3,.ref 32 0),(5,dV (t.Trips.length:Int)),(6,.ref 48 0),(10,.own 64),(11,dV F),(12,dV p),(14,dV j)],[bX 16 30 [dV t.Network.Stops,dV t.Network.Lines,dV t.Trips],bX 32 33 [dV f.Dead,dV f.Turn],bX 48 119 [dV t.Network.Stops,dV t.Network.Lines,dV t.Trips,dV f.Dead,dV f.Turn,.own 80],aX 64 3 i,tX 80 53 [some 3] m 80 none],112⟩) (fun ac Z=>?_) ?_))
     ·refine jaa (lp G Z (fun(z,n,I)=>⟨[(2,.ref 16 0),(3,.ref 32 0),(5,dV (t.Trips.length:Int)),(6,.ref 48 0),(10,.own 64),(11,dV F),(12,dV p),(13,dV r.1),(14,dV z),(15,dV n)],[bX 16 30 [dV t.Network.Stops,dV t.Network.Lines,dV t.Trips],bX 32 33 [dV f.Dead,dV f.Turn],bX 48 119 [dV t.Network.Stops,dV t.Network.Lines,dV t.Trips,dV f.Dead,dV f.Turn,.own 80],aX 64 3 i,tX 80 53 [some 3] I 80 none],112⟩) ?_);rintro⟨z,n,I⟩ B K Z;rw[yjn]at Z;refine jab (jn Z (fun L=>⟨[(2,.ref 16 0),(3,.ref 32 0),(5,dV (t.Trips.length:Int)),(6,.ref 48 0),(10,.own 64),(11,dV F),(12,dV p),(13,dV r.1),(14,dV z),(15,dV n),(75,dV L)],[bX 16 30 [dV t.Network.Stops,dV t.Network.Lines,dV t.Trips],bX 32 33 [dV f.Dead,dV f.Turn],bX 48 119 [dV t.Network.Stops,dV t.Network.Lines,dV t.Trips,dV f.Dead,dV f.Turn,.own 80],aX 64 3 i,tX 80 53 [some 3] I 80 none],112⟩) (fun L Z=>?_) ?_)
      ·rcases bf Z with⟨d,Z⟩|⟨d,Z⟩
       ·refine re G (hO 3 (.b true) (hP d h0)) ?_;exact wJ G Z
       ·refine re G (hO 3 (.b false) (hP d h0)) ?_;exact wJ G Z
      rintro L Z;refine cd Z ?_ ?_<;>intro Z
      ·refine jae (thN (jn Z (fun(Y,q)=>⟨[(2,.ref 16 0),(3,.ref 32 0),(5,dV (t.Trips.length:Int)),(6,.ref 48 0),(10,.own 64),(11,dV F),(12,dV p),(13,dV r.1),(14,dV Y),(15,dV n)],[bX 16 30 [dV t.Network.Stops,dV t.Network.Lines,dV t.Trips],bX 32 33 [dV f.Dead,dV f.Turn],bX 48 119 [dV t.Network.Stops,dV t.Network.Lines,dV t.Trips,dV f.Dead,dV f.Turn,.own 80],aX 64 3 i,tX 80 53 [some 3] q 80 none],112⟩) (fun ab Z=>?_) ?_))
       ·refine jaa ?_;obtain⟨u3,M,Z⟩:=jaf Z;refine jn Z (fun(w,x)=>⟨[(2,.ref 16 0),(3,.ref 32 0),(5,dV (t.Trips.length:Int)),(6,.ref 48 0),(10,.own 64),(11,dV F),(12,dV p),(13,dV r.1),(14,dV z),(15,dV n),(109,dV w)],[bX 16 30 [dV t.Network.Stops,dV t.Network.Lines,dV t.Trips],bX 32 33 [dV f.Dead,dV f.Turn],bX 48 119 [dV t.Network.Stops,dV t.Network.Lines,dV t.Trips,dV f.Dead,dV f.Turn,.own 80],aX 64 3 i,tX 80 53 [some 3] x 80 none],112⟩) (fun vv Z=>?_) ?_
        ·rcases bf Z with⟨a,Z⟩|⟨a,Z⟩
         ·obtain⟨r2,h7,Z⟩:=jaf Z;rcases bf Z with⟨g,Z⟩|⟨g,Z⟩
          ·obtain⟨r3,h8,u4,h9,r4,N,Z⟩:=ob3 Z;refine re G (hK M (hO 6 (.b true) (hP a (hC 11 (yly h7) (hO 13 (.b true) (hP g (hC 18 (yl0 h8) (hK h9 (hC 27 (ylx.c (_,_,_) N) h0))))))))) ?_;exact wJ G Z
          ·refine re G (hK M (hO 6 (.b true) (hP a (hC 11 (yly h7) (hO 13 (.b false) (hP g h0)))))) ?_;exact wJ G Z
         ·refine re G (hK M (hO 6 (.b false) (hP a h0))) ?_;exact wJ G Z
        rintro⟨w,x⟩ Z;refine cd Z ?_ ?_<;>intro Z
        ·exact rh G (ibN (wJ G Z))
        ·exact jae (ibN (wJ G Z))
       rintro⟨Y,q⟩ Z;exact rh G (wL G Z)
      ·exact jag (thE (thE (ibE (wD G Z K))))
     rintro⟨j,m⟩ Z s2 O;refine thN (jai O ?_);obtain⟨u5,Q,Z⟩:=jaf Z;refine re G (hK Q h0) ?_;exact wJ G Z
    ·exact jae (wJ G Z)
   rintro⟨P,W,X⟩ Z;obtain⟨u6,R,Z⟩:=jaf Z;refine re G (hA 3 8 R h0) ?_;exact ibN (thN (rh G (wL G Z)))
  ·exact jag (thE (thE (ibE (wD G Z H))))
 rintro E Z s3 T;refine thN (jai T ?_);refine rg G ?_;cases Z;exact rt [16] []
def ype:MS (Timetable×(List Int)) ((List (List Int))):=⟨.x .r (.s 3),fun x=>zq64 x.1 x.2,fun _=>.own 0,fun y=>[arO 53 y],fun x _=>[arO 3 x.2]⟩
theorem yu5:FnOK Tryz.prog tJ 38 ype.S:=by
 refine fm tt ype [] call38 func38 rfl results38 ntmps38 ?_;rintro⟨t,p⟩ y cx G (Z:zq64 t p=some y);unfold zq64 at Z;refine rg G (rg G (jab (rg G (tl Z (fun B=>⟨[(1,.own 0),(5,.own 32)],[aX 0 3 p,aX 32 53 B],64⟩) (fun B Z=>?_) ?_))))
 ·refine jaa (lp G Z (fun(at_,block)=>⟨[(1,.own 0),(2,.ref 32 0),(5,.own 48),(6,dV at_)],[aX 0 3 p,bX 32 30 [dV t.Network.Stops,dV t.Network.Lines,dV t.Trips],aX 48 53 block],80⟩) ?_);rintro⟨at_,block⟩ l hb Z;rw[yjl]at Z;refine jab (rs G (hN 2 p h0) ?_);refine cd Z ?_ ?_<;>intro Z
  ·refine jae (thN (jn Z (fun A=>⟨[(1,.own 0),(2,.ref 32 0),(5,.own 48),(6,dV at_)],[aX 0 3 p,bX 32 30 [dV t.Network.Stops,dV t.Network.Lines,dV t.Trips],aX 48 53 A],80⟩) (fun A Z=>?_) ?_))
   ·refine jaa (jab ?_);obtain⟨e,h,Z⟩:=jaf Z;refine rs G (hD 2 h (hE 3 h h0)) ?_;refine cd Z ?_ ?_<;>intro Z
    ·exact jag (thE (ibE (wJ G Z)))
    ·refine jae (thN (rg G (jab (rg G (tl Z (fun C=>⟨[(1,.own 0),(2,.ref 32 0),(5,.own 48),(6,dV at_),(7,.own 64)],[aX 0 3 p,bX 32 30 [dV t.Network.Stops,dV t.Network.Lines,dV t.Trips],aX 48 53 block,aX 64 3 C],96⟩) (fun C Z=>?_) ?_)))))
     ·refine jaa (lp G Z (fun(k,next)=>⟨[(1,.own 0),(2,.ref 32 0),(5,.own 48),(6,dV at_),(7,.own 64),(8,dV k)],[aX 0 3 p,bX 32 30 [dV t.Network.Stops,dV t.Network.Lines,dV t.Trips],aX 48 53 block,aX 64 3 next],96⟩) ?_);rintro⟨k,next⟩ l a Z;rw[yfo]at Z;refine jab (rg G (cd Z ?_ ?_))<;>intro Z
      ·refine jae (thN (jaa ?_));obtain⟨b,n,u,o,Z⟩:=ob2 Z;refine rs G (hD 4 n (hA 8 8 o h0)) ?_;refine rg G (jab (rg G (tl Z (fun c=>⟨[(1,.own 0),(2,.ref 32 0),(5,.own 48),(6,dV at_),(7,.own 64),(9,dV c)],[aX 0 3 p,bX 32 30 [dV t.Network.Stops,dV t.Network.Lines,dV t.Trips],aX 48 53 block,aX 64 3 (next++([b.Id]:List Int))],96⟩) (fun c Z=>?_) ?_)))
       ·refine jaa (lp G Z (fun(v,d)=>⟨[(1,.own 0),(2,.ref 32 0),(5,.own 48),(6,dV at_),(7,.own 64),(8,dV k),(9,dV v),(10,dV d)],[aX 0 3 p,bX 32 30 [dV t.Network.Stops,dV t.Network.Lines,dV t.Trips],aX 48 53 block,aX 64 3 (next++([b.Id]:List Int))],96⟩) ?_);rintro⟨v,d⟩ l f Z;rw[yfp]at Z;refine jab (rs G (hN 2 p h0) ?_);refine cd Z ?_ ?_<;>intro Z
        ·refine jae (thN (jn Z (fun g=>⟨[(1,.own 0),(2,.ref 32 0),(5,.own 48),(6,dV at_),(7,.own 64),(8,dV k),(9,dV g),(10,dV d)],[aX 0 3 p,bX 32 30 [dV t.Network.Stops,dV t.Network.Lines,dV t.Trips],aX 48 53 block,aX 64 3 (next++([b.Id]:List Int))],96⟩) (fun g Z=>?_) ?_))
         ·refine jaa ?_;obtain⟨r,m,Z⟩:=jaf Z;refine rs G (hD 2 m (hE 3 m h0)) ?_;refine cd Z ?_ ?_<;>intro Z
          ·exact rh G (ibN (wJ G Z))
          ·exact jae (ibN (wJ G Z))
         rintro g Z;exact rh G (wL G Z)
        ·exact jag (thE (thE (ibE (wD G Z f))))
       rintro c Z s D;refine thN (jai D ?_);exact rh G (ibN (wL G Z))
      ·exact jag (thE (thE (ibE (wD G Z a))))
     rintro C Z w i;refine thN (jai i ?_);obtain⟨x,q,Z⟩:=jaf Z;refine re G (hO 2 (.fz [64] [] []) (hA 3 24 q h0)) ?_;exact ibN (wJ G Z)
   rintro A Z;exact rh G (wL G Z)
  ·exact jag (thE (thE (ibE (wD G Z hb))))
 rintro B Z z j;refine thN (jai j ?_);refine rg G ?_;cases Z;exact rt [32] []
def yor:MS l1Cur (Timetable×Fleet×(List (List Int))×Rules×l1Cur):=⟨.b 58,zq97,fun y=>.tup [dV y.1,dV y.2.1,.own 0,dV y.2.2.2.1],fun y=>[arO 53 y.2.2.1],fun _ y=>[bxO 58 y.2.2.2.2]⟩
theorem yuh:FnOK Tryz.prog tJ 17 yor.S:=by
 refine fm tt yor [fo ys4,fo ydg,fo yug,fo ys6,fo yph,fo yu7,fo yu5] call17 func17 rfl results17 ntmps17 ?_;rintro c y cx G (Z:zq97 c=some y);unfold zq97 at Z;refine rg G ?_;obtain⟨r,h,Z⟩:=jaf Z;refine rs G (hC 1 (yky.c _ h) h0) ?_;refine jn Z (fun(v,g,i,e)=>⟨[(0,.ref 0 0),(2,.ref 32 0),(3,.ref 48 0),(5,.ref 64 0),(6,.ref 80 0)],[bX 0 58 [dV v,dV g,kV .u64 i],bX 32 30 [nS,nS,nS],bX 48 33 [nS,kV .i64 0],bX 64 35 [kV .i64 0,kV .i64 0,kV .i64 0,kV .i64 0,kV .i64 0,kV .i64 0],bX 80 30 [.own 96,dV r.1.Network.Lines,dV e],aX 96 9 r.1.Network.Stops],128⟩) (fun q Z=>?_) ?_
 ·refine jn Z (fun(j,k,l,m)=>⟨[(0,.ref 0 0),(2,.ref 32 0),(3,.ref 48 0),(5,.ref 64 0),(6,.ref 80 0),(19,dV j)],[bX 0 58 [dV k,dV l,kV .u64 m],bX 32 30 [nS,nS,nS],bX 48 33 [nS,kV .i64 0],bX 64 35 [kV .i64 0,kV .i64 0,kV .i64 0,kV .i64 0,kV .i64 0,kV .i64 0],bX 80 30 [.own 96,dV r.1.Network.Lines,.own 112],aX 96 9 r.1.Network.Stops,aX 112 106 r.1.Trips],144⟩) (fun p Z=>?_) ?_
  ·rcases bf Z with⟨hb,Z⟩|⟨hb,Z⟩
   ·obtain⟨B,s,Z⟩:=jaf Z;refine re G (hN 2 r.1.Trips (hO 4 (.b true) (hP hb (hC 6 (yg4 s) h0)))) ?_;exact wJ G Z
   ·refine re G (hN 2 r.1.Trips (hO 4 (.b false) (hP hb h0))) ?_;exact wJ G Z
  rintro⟨j,k,l,m⟩ Z;refine cd Z ?_ ?_<;>intro Z
  ·obtain⟨u,t,Z⟩:=jaf Z;refine re G (hO 2 (.fz [112] [] []) (hU 2 t h0)) ?_;exact wJ G Z
  ·exact jae (wJ G Z)
 rintro⟨v,g,i,e⟩ Z;obtain⟨n,w,Z⟩:=jaf Z;refine rs G (hO 3 (.fz [96] [] []) (hC 3 (yoq.c (_,_) w) h0)) ?_;obtain⟨a,x,Z⟩:=jaf Z;refine rs G (hC 1 (yk1.c _ x) h0) ?_;refine jab ?_;obtain⟨C,o,Z⟩:=jaf Z;refine jn Z (fun f=>⟨[(0,.ref 0 0),(2,.ref 32 0),(3,.ref 48 0),(5,.ref 64 0),(6,.ref 80 0),(7,.ref 96 0),(8,.ref 112 0),(39,dV f)],[bX 0 58 [dV a.2.code_,dV a.2.at_,kV .u64 a.2.seed_.v],bX 32 30 [nS,nS,nS],bX 48 33 [nS,kV .i64 0],bX 64 35 [kV .i64 0,kV .i64 0,kV .i64 0,kV .i64 0,kV .i64 0,kV .i64 0],bX 80 30 [dV r.1.Network.Stops,dV r.1.Network.Lines,dV e],bX 96 33 [dV n.1.Dead,dV n.1.Turn],bX 112 35 [dV a.1.SignOn,dV a.1.SignOff,dV a.1.MaxDrive,dV a.1.MinBreak,dV a.1.PaidBreak,dV a.1.MaxLength]],144⟩) (fun f Z=>?_) ?_
 ·rcases bf Z with⟨d,Z⟩|⟨d,Z⟩
  ·refine re G (hC 2 (yeu.c (_,_) o) (hO 4 (.b true) (hP d h0))) ?_;exact wJ G Z
  ·refine re G (hC 2 (yeu.c (_,_) o) (hO 4 (.b false) (hP d (hN 7 e h0)))) ?_;exact wJ G Z
 rintro f Z;refine cd Z ?_ ?_<;>intro Z
 ·refine ds G [(2,[]),(4,[32]),(5,[48]),(7,[64])] h0 ?_;cases Z;exact rt [176] []
 ·refine jae (thN ?_);obtain⟨D,z,E,A,Z⟩:=ob2 Z;refine ds G [(6,[224]),(8,[32]),(9,[48]),(11,[64])] (hC 5 (ypg.c (_,_) z) (hC 6 (ype.c (_,_) A) h0)) ?_;cases Z;exact rt [240] []
def ypj:MS (List UInt8) (Timetable×Fleet×(List (List Int))×Rules):=⟨.r,zq59,fun y=>.tup [dV y.1,dV y.2.1,.own 0,dV y.2.2.2],fun y=>[arO 53 y.2.2.1],fun _ _=>[]⟩
theorem yva:FnOK Tryz.prog tJ 6 ypj.S:=by
 refine fm tt ypj [fo yuh] call6 func6 rfl results6 ntmps6 ?_;rintro a y cx G (Z:zq59 a=some y);unfold zq59 at Z;refine rg G (rg G ?_);obtain⟨r,h,Z⟩:=jaf Z;refine rs G (hC 1 (yor.c _ h) h0) ?_;cases Z;exact rt [160] []
def yl3:MS (Int×Int×Int) Bool:=⟨.x .r (.x .r .r),fun x=>zq56 x.1 x.2.1 x.2.2,fun y=>dV y,fun _=>[],fun _ _=>[]⟩
theorem yaw{n lo hi y}(Z:zq56 n lo hi=some y):yl3.C (n,lo,hi) y:=yl3.c (n,lo,hi) Z
theorem ycf:FnOK Tryz.prog tJ 78 yl3.S:=by
 refine fm tt yl3 [] call78 func78 rfl results78 ntmps78 ?_;rintro⟨n,lo,hi⟩ y cx G (Z:zq56 n lo hi=some y);unfold zq56 at Z;refine rg G (jn Z (fun v=>⟨[(6,dV v)],[],32⟩) (fun v Z=>?_) ?_)
 ·rcases bf Z with⟨hb,Z⟩|⟨hb,Z⟩
  ·refine re G (hO 3 (.b true) (hP hb h0)) ?_;exact wJ G Z
  ·refine re G (hO 3 (.b false) (hP hb h0)) ?_;exact wJ G Z
 rintro v Z;cases Z;exact rt [] []
def ymc:MS ByteArray Bool:=mR zq36
theorem yvp:FnOK Tryz.prog tJ 180 ymc.S:=by
 refine fm tt ymc [] call180 func180 rfl results180 ntmps180 ?_;rintro s y cx G (Z:zq36 s=some y);unfold zq36 at Z;refine rg G (jab (jn Z (fun v=>⟨[(0,dV s),(12,dV v)],[],32⟩) (fun v Z=>?_) ?_))
 ·rcases bf Z with⟨hb,Z⟩|⟨hb,Z⟩
  ·refine re G (hO 3 (.b true) (hP hb h0)) ?_;exact wJ G Z
  ·refine re G (hO 3 (.b false) (hP hb h0)) ?_;exact wJ G Z
 rintro v Z;refine cd Z ?_ ?_<;>intro Z
 ·refine rg G ?_;cases Z;exact rt [] []
 ·refine jae (thN (jab (rg G (tF Z (fun _=>⟨[],[],32⟩) (fun n p Z=>?_) ?_))))
  ·refine jaa (lp G Z (fun f=>⟨[(0,dV s),(14,dV (s.size:Int)),(15,dV f)],[],32⟩) ?_);rintro f o g Z;rw[yds]at Z;refine rg G (jab (cd Z ?_ ?_))<;>intro Z
   ·refine jae (thN (jab (jaa (rg G ?_))));obtain⟨u,h,Z⟩:=jaf Z;refine jn Z (fun i=>⟨[(0,dV s),(3,dV f),(4,dV i),(14,dV (s.size:Int)),(15,dV f)],[],32⟩) (fun i Z=>?_) ?_
    ·rcases bf Z with⟨d,Z⟩|⟨d,Z⟩
     ·obtain⟨q,l,Z⟩:=jaf Z;refine re G (hK h (hO 4 (.b true) (hP d (hK l h0)))) ?_;exact wJ G Z
     ·refine re G (hK h (hO 4 (.b false) (hP d h0))) ?_;exact wJ G Z
    rintro i Z;refine jn Z (fun j=>⟨[(0,dV s),(14,dV (s.size:Int)),(15,dV f),(45,dV j)],[],32⟩) (fun j Z=>?_) ?_
    ·rcases bf Z with⟨a,Z⟩|⟨a,Z⟩
     ·rcases bf Z with⟨c,Z⟩|⟨c,Z⟩
      ·refine re G (hO 2 (.b true) (hP a (hO 5 (.b true) (hP c h0)))) ?_;exact wJ G Z
      ·obtain⟨r,k,Z⟩:=jaf Z;rcases bf Z with⟨e,Z⟩|⟨e,Z⟩
       ·refine re G (hO 2 (.b true) (hP a (hO 5 (.b false) (hP c (hK k (hO 11 (.b true) (hP e h0))))))) ?_;exact wJ G Z
       ·obtain⟨t,m,Z⟩:=jaf Z;refine re G (hO 2 (.b true) (hP a (hO 5 (.b false) (hP c (hK k (hO 11 (.b false) (hP e (hK m h0)))))))) ?_;exact wJ G Z
     ·refine re G (hO 2 (.b false) (hP a h0)) ?_;exact wJ G Z
    rintro j Z;refine cd Z ?_ ?_<;>intro Z
    ·refine rg G ?_;have Z:=eL Z g p;cases Z;exact rt [] []
    ·exact jae (ibN (thN (rh G (wL G Z))))
   ·exact jag (thE (thE (ibE (wE G Z g))))
  rintro⟨⟩ Z w x;refine thN (jai x ?_);refine rg G ?_;cases Z;exact rt [] []
def yki:MS ((List ByteArray)×ByteArray) Int:=mS ynt
theorem ysn:FnOK Tryz.prog tJ 181 yki.S:=by
 refine fm tt yki [] call181 func181 rfl results181 ntmps181 ?_;rintro⟨s,v⟩ y cx G (Z:ynt s v=some y);unfold ynt at Z;refine rg G (jab (rs G (hN 1 s h0) ?_));refine tF Z (fun _=>⟨[],[],32⟩) (fun b f Z=>?_) ?_
 ·refine jaa (lp G Z (fun a=>⟨[(0,dV s),(1,dV v),(7,dV (s.length:Int)),(8,dV a)],[],32⟩) ?_);rintro a c hb Z;rw[yc2]at Z;refine rg G (jab (cd Z ?_ ?_))<;>intro Z
  ·refine jae (thN (jab (jaa (rg G ?_))));obtain⟨e,h,Z⟩:=jaf Z;refine rs G (hD 3 h h0) ?_;refine cd Z ?_ ?_<;>intro Z
   ·refine rg G ?_;have Z:=eL Z hb f;cases Z;exact rt [] []
   ·exact jae (ibN (thN (rh G (wL G Z))))
  ·exact jag (thE (thE (ibE (wE G Z hb))))
 rintro⟨⟩ Z d g;refine thN (jai g ?_);refine rg G ?_;cases Z;exact rt [] []
def yh3:MS (List ByteArray) Bool:=mR zq15
theorem yv3:FnOK Tryz.prog tJ 166 yh3.S:=by
 refine fm tt yh3 [fo yvp,fo ysn] call166 func166 rfl results166 ntmps166 ?_;rintro names y cx G (Z:zq15 names=some y);unfold zq15 at Z;refine rg G (jab (rs G (hN 1 names h0) ?_));refine tF Z (fun _=>⟨[],[],32⟩) (fun i l Z=>?_) ?_
 ·refine jaa (lp G Z (fun v=>⟨[(0,dV names),(5,dV names),(6,dV (names.length:Int)),(7,dV v)],[],32⟩) ?_);rintro v j hb Z;rw[yf7]at Z;refine rg G (jab (cd Z ?_ ?_))<;>intro Z
  ·refine jae (thN (jab (jaa ?_)));obtain⟨e,h,Z⟩:=jaf Z;refine rs G (hD 1 h h0) ?_;obtain⟨r,f,Z⟩:=jaf Z;refine jn Z (fun d=>⟨[(0,dV names),(5,dV names),(6,dV (names.length:Int)),(7,dV v),(21,dV d)],[],32⟩) (fun d Z=>?_) ?_
   ·rcases bf Z with⟨a,Z⟩|⟨a,Z⟩
    ·refine re G (hC 1 (ymc.c _ f) (hO 3 (.b true) (hP a h0))) ?_;exact wJ G Z
    ·obtain⟨k,g,Z⟩:=jaf Z;refine re G (hC 1 (ymc.c _ f) (hO 3 (.b false) (hP a (hC 6 (yki.c (_,_) g) h0)))) ?_;exact wJ G Z
   rintro d Z;refine cd Z ?_ ?_<;>intro Z
   ·refine rg G ?_;have Z:=eL Z hb l;cases Z;exact rt [] []
   ·exact jae (ibN (thN (rh G (wL G Z))))
  ·exact jag (thE (thE (ibE (wE G Z hb))))
 rintro⟨⟩ Z s m;refine thN (jai m ?_);refine rg G ?_;cases Z;exact rt [] []
def yps:MS Network (List ByteArray):=⟨.r,zq43,fun _=>.own 0,fun y=>[arO 9 y],fun _ _=>[]⟩
theorem yvi:FnOK Tryz.prog tJ 167 yps.S:=by
 refine fm tt yps [] call167 func167 rfl results167 ntmps167 ?_;rintro n y cx G (Z:zq43 n=some y);unfold zq43 at Z;refine rg G ?_;obtain⟨u,h,Z⟩:=jaf Z;refine rs G (hN 2 n.Lines (hO 3 (.l (List.map Enc.e (List.replicate (n.Lines.length:Int).toNat (ByteArray.empty:ByteArray)))) (hP (mk_p (b:=16) (jeb h) rfl) (hP (jma Enc.e (n.Lines.length:Int).toNat (ByteArray.empty:ByteArray)) h0)))) ?_;refine jab (rs G (hN 2 n.Lines h0) ?_);refine tl Z (fun a=>⟨[(3,.own 16)],[aX 16 9 a],48⟩) (fun a Z=>?_) ?_
 ·refine jaa (lp G Z (fun(v,i)=>⟨[(3,.own 16),(11,dV n.Lines),(12,dV (n.Lines.length:Int)),(13,dV v)],[aX 16 9 i],48⟩) ?_);rintro⟨v,i⟩ f hb Z;rw[yfs]at Z;refine rg G (jab (cd Z ?_ ?_))<;>intro Z
  ·refine jae (thN (jab (jaa ?_)));obtain⟨e,d,Z⟩:=jaf Z;refine rs G (hD 1 d h0) ?_;obtain⟨g,c,Z⟩:=jaf Z;refine re G (hD 4 c (hS 5 c e.Name h0)) ?_;exact ibN (thN (rh G (wL G Z)))
  ·exact jag (thE (thE (ibE (wD G Z hb))))
 rintro a Z s j;refine thN (jai j ?_);refine rg G ?_;cases Z;exact rt [16] []
def yma:MS (Network×Int) Bool:=mS zq39
theorem yvm:FnOK Tryz.prog tJ 182 yma.S:=by
 refine fm tt yma [] call182 func182 rfl results182 ntmps182 ?_;rintro⟨n,a⟩ y cx G (Z:zq39 n a=some y);unfold zq39 at Z;refine rg G (jn Z (fun v=>⟨[(4,dV v)],[],32⟩) (fun v Z=>?_) ?_)
 ·rcases bf Z with⟨hb,Z⟩|⟨hb,Z⟩
  ·refine re G (hO 2 (.b true) (hP hb (hN 6 n.Stops h0))) ?_;exact wJ G Z
  ·refine re G (hO 2 (.b false) (hP hb h0)) ?_;exact wJ G Z
 rintro v Z;cases Z;exact rt [] []
def ygc:MS ((List Int)×Int) Int:=mS ykj
theorem yml:FnOK Tryz.prog tJ 114 ygc.S:=by
 refine fm tt ygc [] call114 func114 rfl results114 ntmps114 ?_;rintro⟨s,v⟩ y cx G (Z:ykj s v=some y);unfold ykj at Z;refine rg G (jab (rs G (hN 1 s h0) ?_));refine tF Z (fun _=>⟨[],[],32⟩) (fun b f Z=>?_) ?_
 ·refine jaa (lp G Z (fun a=>⟨[(0,dV s),(1,dV v),(7,dV (s.length:Int)),(8,dV a)],[],32⟩) ?_);rintro a c hb Z;rw[yc3]at Z;refine rg G (jab (cd Z ?_ ?_))<;>intro Z
  ·refine jae (thN (jab (jaa (rg G ?_))));obtain⟨e,h,Z⟩:=jaf Z;refine rs G (hD 3 h h0) ?_;refine cd Z ?_ ?_<;>intro Z
   ·refine rg G ?_;have Z:=eL Z hb f;cases Z;exact rt [] []
   ·exact jae (ibN (thN (rh G (wL G Z))))
  ·exact jag (thE (thE (ibE (wE G Z hb))))
 rintro⟨⟩ Z d g;refine thN (jai g ?_);refine rg G ?_;cases Z;exact rt [] []
def ypv:MS (Network×Line) Bool:=mS zq40
theorem yvl:FnOK Tryz.prog tJ 168 ypv.S:=by
 refine fm tt ypv [fo ycf,fo yvm,fo yml] call168 func168 rfl results168 ntmps168 ?_;rintro⟨n,l⟩ y cx G (Z:zq40 n l=some y);unfold zq40 at Z;refine rg G (jab ?_);obtain⟨r,h,Z⟩:=jaf Z;refine jn Z (fun v=>⟨[(2,.ref 16 0),(3,.ref 32 0),(23,dV v)],[bX 16 27 [dV n.Stops,dV n.Lines],bX 32 147 [dV l.Name,dV l.Stops,dV l.Runs]],64⟩) (fun v Z=>?_) ?_
 ·rcases bf Z with⟨hb,Z⟩|⟨hb,Z⟩
  ·refine re G (hN 2 l.Stops (hC 3 (yaw h) (hO 5 (.b true) (hP hb h0)))) ?_;exact wJ G Z
  ·refine re G (hN 2 l.Stops (hC 3 (yaw h) (hO 5 (.b false) (hP hb (hN 8 l.Runs (hN 11 l.Stops h0)))))) ?_;exact wJ G Z
 rintro v Z;refine cd Z ?_ ?_<;>intro Z
 ·refine rg G ?_;cases Z;exact rt [] []
 ·refine jae (thN (jab (rs G (hN 2 l.Stops h0) ?_)));refine tF Z (fun _=>⟨[(3,.ref 16 0)],[bX 16 147 [dV l.Name,dV l.Stops,dV l.Runs]],48⟩) (fun z p Z=>?_) ?_
  ·refine jaa (lp G Z (fun g=>⟨[(2,.ref 16 0),(3,.ref 32 0),(25,dV l.Stops),(26,dV (l.Stops.length:Int)),(27,dV g)],[bX 16 27 [dV n.Stops,dV n.Lines],bX 32 147 [dV l.Name,dV l.Stops,dV l.Runs]],64⟩) ?_);rintro g q d Z;rw[yfu]at Z;refine rg G (jab (cd Z ?_ ?_))<;>intro Z
   ·refine jae (thN (jab (jaa ?_)));obtain⟨e,t,Z⟩:=jaf Z;refine rs G (hD 1 t h0) ?_;obtain⟨A,m,Z⟩:=jaf Z;refine jn Z (fun i=>⟨[(2,.ref 16 0),(3,.ref 32 0),(25,dV l.Stops),(26,dV (l.Stops.length:Int)),(27,dV g),(43,dV i)],[bX 16 27 [dV n.Stops,dV n.Lines],bX 32 147 [dV l.Name,dV l.Stops,dV l.Runs]],64⟩) (fun i Z=>?_) ?_
    ·rcases bf Z with⟨a,Z⟩|⟨a,Z⟩
     ·refine re G (hC 2 (yma.c (_,_) m) (hO 4 (.b true) (hP a h0))) ?_;exact wJ G Z
     ·obtain⟨B,u,Z⟩:=jaf Z;refine re G (hC 2 (yma.c (_,_) m) (hO 4 (.b false) (hP a (hC 8 (ygc.c (_,_) u) h0)))) ?_;exact wJ G Z
    rintro i Z;refine cd Z ?_ ?_<;>intro Z
    ·refine rg G ?_;have Z:=eL Z d p;cases Z;exact rt [] []
    ·exact jae (ibN (thN (rh G (wL G Z))))
   ·exact jag (thE (thE (ibE (wE G Z d))))
  rintro⟨⟩ Z s F;refine thN (jai F ?_);refine jab (rs G (hN 2 l.Runs h0) ?_);refine tF Z (fun _=>⟨[],[],32⟩) (fun C j Z=>?_) ?_
  ·refine jaa (lp G Z (fun o=>⟨[(46,dV l.Runs),(47,dV (l.Runs.length:Int)),(48,dV o)],[],32⟩) ?_);rintro o q f Z;rw[yft]at Z;refine rg G (jab (cd Z ?_ ?_))<;>intro Z
   ·refine jae (thN (jab (jaa ?_)));obtain⟨D,w,Z⟩:=jaf Z;refine rs G (hD 0 w h0) ?_;obtain⟨E,x,Z⟩:=jaf Z;refine rs G (hC 1 (yaw x) h0) ?_;refine cd Z ?_ ?_<;>intro Z
    ·refine rg G ?_;have Z:=eL Z f j;cases Z;exact rt [] []
    ·exact jae (ibN (thN (rh G (wL G Z))))
   ·exact jag (thE (thE (ibE (wE G Z f))))
  rintro⟨⟩ Z H k;refine thN (jai k ?_);refine rg G ?_;cases Z;exact rt [] []
def yr6:MS Network Bool:=mR zq9
theorem yxh:FnOK Tryz.prog tJ 134 yr6.S:=by
 refine fm tt yr6 [fo ycf,fo yv3,fo yvi,fo yvl] call134 func134 rfl results134 ntmps134 ?_;rintro n y cx G (Z:zq9 n=some y);unfold zq9 at Z;refine rg G (jab ?_);obtain⟨r,h,Z⟩:=jaf Z;refine jn Z (fun v=>⟨[(1,.ref 16 0),(28,dV v)],[bX 16 27 [dV n.Stops,dV n.Lines]],48⟩) (fun v Z=>?_) ?_
 ·rcases bf Z with⟨hb,Z⟩|⟨hb,Z⟩
  ·refine re G (hN 2 n.Stops (hC 3 (yaw h) (hO 5 (.b true) (hP hb h0)))) ?_;exact wJ G Z
  ·obtain⟨q,g,Z⟩:=jaf Z;rcases bf Z with⟨a,Z⟩|⟨a,Z⟩
   ·refine re G (hN 2 n.Stops (hC 3 (yaw h) (hO 5 (.b false) (hP hb (hN 8 n.Lines (hC 9 (yaw g) (hO 12 (.b true) (hP a h0)))))))) ?_;exact wJ G Z
   ·obtain⟨t,i,Z⟩:=jaf Z;rcases bf Z with⟨d,Z⟩|⟨d,Z⟩
    ·refine re G (hN 2 n.Stops (hC 3 (yaw h) (hO 5 (.b false) (hP hb (hN 8 n.Lines (hC 9 (yaw g) (hO 12 (.b false) (hP a (hC 15 (yh3.c _ i) (hO 18 (.b true) (hP d h0))))))))))) ?_;exact wJ G Z
    ·obtain⟨u,k,w,l,Z⟩:=ob2 Z;refine re G (hN 2 n.Stops (hC 3 (yaw h) (hO 5 (.b false) (hP hb (hN 8 n.Lines (hC 9 (yaw g) (hO 12 (.b false) (hP a (hC 15 (yh3.c _ i) (hO 18 (.b false) (hP d (hC 20 (yps.c _ k) (hC 21 (yh3.c _ l) h0))))))))))))) ?_;exact wJ G Z
 rintro v Z;refine cd Z ?_ ?_<;>intro Z
 ·refine rg G ?_;cases Z;exact rt [] []
 ·refine jae (thN (jab (rs G (hN 2 n.Lines h0) ?_)));refine tF Z (fun _=>⟨[],[],32⟩) (fun x p Z=>?_) ?_
  ·refine jaa (lp G Z (fun j=>⟨[(1,.ref 16 0),(30,dV n.Lines),(31,dV (n.Lines.length:Int)),(32,dV j)],[bX 16 27 [dV n.Stops,dV n.Lines]],48⟩) ?_);rintro j z f Z;rw[yln]at Z;refine rg G (jab (cd Z ?_ ?_))<;>intro Z
   ·refine jae (thN (jab (jaa ?_)));obtain⟨e,m,Z⟩:=jaf Z;refine rs G (hD 0 m h0) ?_;obtain⟨A,o,Z⟩:=jaf Z;refine rs G (hC 2 (ypv.c (_,_) o) h0) ?_;refine cd Z ?_ ?_<;>intro Z
    ·refine rg G ?_;have Z:=eL Z f p;cases Z;exact rt [] []
    ·exact jae (ibN (thN (rh G (wL G Z))))
   ·exact jag (thE (thE (ibE (wE G Z f))))
  rintro⟨⟩ Z s B;refine thN (jai B ?_);refine rg G ?_;cases Z;exact rt [] []
def ymd:MS (Network×Int) Bool:=mS zq35
theorem ypx{n line y}(Z:zq35 n line=some y):ymd.C (n,line) y:=ymd.c (n,line) Z
theorem yvq:FnOK Tryz.prog tJ 169 ymd.S:=by
 refine fm tt ymd [] call169 func169 rfl results169 ntmps169 ?_;rintro⟨n,a⟩ y cx G (Z:zq35 n a=some y);unfold zq35 at Z;refine rg G (jn Z (fun v=>⟨[(4,dV v)],[],32⟩) (fun v Z=>?_) ?_)
 ·rcases bf Z with⟨hb,Z⟩|⟨hb,Z⟩
  ·refine re G (hO 2 (.b true) (hP hb (hN 6 n.Lines h0))) ?_;exact wJ G Z
  ·refine re G (hO 2 (.b false) (hP hb h0)) ?_;exact wJ G Z
 rintro v Z;cases Z;exact rt [] []
def ymv:MS Int Bool:=mR zq11
theorem yqm{t y}(Z:zq11 t=some y):ymv.C t y:=ymv.c t Z
theorem ywf:FnOK Tryz.prog tJ 170 ymv.S:=by
 refine fm tt ymv [fo ycf] call170 func170 rfl results170 ntmps170 ?_;rintro t y cx G (Z:zq11 t=some y);unfold zq11 at Z;refine rg G ?_;obtain⟨r,h,Z⟩:=jaf Z;refine rs G (hC 1 (yaw h) h0) ?_;cases Z;exact rt [] []
def yl4:MS (List Int) Int:=mR zq52
theorem yxl{list y}(Z:zq52 list=some y):yl4.C list y:=yl4.c list Z
theorem yvd:FnOK Tryz.prog tJ 102 yl4.S:=by
 refine fm tt yl4 [] call102 func102 rfl results102 ntmps102 ?_;rintro d y cx G (Z:zq52 d=some y);unfold zq52 at Z;refine rg G (rg G (jab (rs G (hN 1 d h0) ?_)));refine tl Z (fun a=>⟨[(3,dV a)],[],32⟩) (fun a Z=>?_) ?_
 ·refine jaa (lp G Z (fun(v,b)=>⟨[(3,dV v),(6,dV d),(7,dV (d.length:Int)),(8,dV b)],[],32⟩) ?_);rintro⟨v,b⟩ c hb Z;rw[yfq]at Z;refine rg G (jab (cd Z ?_ ?_))<;>intro Z
  ·refine jae (thN (jab (jaa ?_)));obtain⟨e,h,Z⟩:=jaf Z;refine rs G (hD 0 h h0) ?_;exact rh G (ibN (thN (rh G (wL G Z))))
  ·exact jag (thE (thE (ibE (wD G Z hb))))
 rintro a Z s f;refine thN (jai f ?_);refine rg G ?_;cases Z;exact rt [] []
def yev:MS (Timetable×Trip) Int:=mS zq28
theorem yf0:FnOK Tryz.prog tJ 59 yev.S:=by
 refine fm tt yev [fo yvd] call59 func59 rfl results59 ntmps59 ?_;rintro⟨t,x⟩ y cx G (Z:zq28 t x=some y);unfold zq28 at Z;refine rg G ?_;obtain⟨c,a,d,b,Z⟩:=ob2 Z;refine ds G [] (hD 7 a (hC 10 (yxl b) h0)) ?_;cases Z;exact rt [] []
def yqe:MS Timetable Bool:=mR zq17
theorem yv2:FnOK Tryz.prog tJ 135 yqe.S:=by
 refine fm tt yqe [fo yvq,fo ywf,fo yf0] call135 func135 rfl results135 ntmps135 ?_;rintro t y cx G (Z:zq17 t=some y);unfold zq17 at Z;refine rg G (jab (rs G (hN 2 t.Trips h0) ?_));refine cd Z ?_ ?_<;>intro Z
 ·refine rg G ?_;cases Z;exact rt [] []
 ·refine jae (thN (rg G (jab (rs G (hN 2 t.Trips h0) ?_))));refine tF Z (fun _=>⟨[],[],32⟩) (fun o p Z=>?_) ?_
  ·refine jaa (lp G Z (fun(v,i)=>⟨[(1,.ref 16 0),(3,dV v),(11,dV t.Trips),(12,dV (t.Trips.length:Int)),(13,dV i)],[bX 16 30 [dV t.Network.Stops,dV t.Network.Lines,dV t.Trips]],48⟩) ?_);rintro⟨v,i⟩ q hb Z;rw[yj6]at Z;refine rg G (jab (cd Z ?_ ?_))<;>intro Z
   ·refine jae (thN (jab (jaa ?_)));obtain⟨e,h,Z⟩:=jaf Z;refine rs G (hD 0 h h0) ?_;refine jab (jn Z (fun j=>⟨[(1,.ref 16 0),(5,.ref 32 0),(11,dV t.Trips),(12,dV (t.Trips.length:Int)),(13,dV i),(46,dV j)],[bX 16 30 [dV t.Network.Stops,dV t.Network.Lines,dV t.Trips],bX 32 106 [dV e.Id,dV e.Line,dV e.Start]],64⟩) (fun j Z=>?_) ?_)
    ·rcases bf Z with⟨a,Z⟩|⟨a,Z⟩
     ·refine re G (hO 4 (.b true) (hP a h0)) ?_;exact wJ G Z
     ·rcases bf Z with⟨d,Z⟩|⟨d,Z⟩
      ·refine re G (hO 4 (.b false) (hP a (hO 9 (.b true) (hP d h0)))) ?_;exact wJ G Z
      ·obtain⟨r,k,Z⟩:=jaf Z;rcases bf Z with⟨f,Z⟩|⟨f,Z⟩
       ·refine re G (hO 4 (.b false) (hP a (hO 9 (.b false) (hP d (hC 14 (ypx k) (hO 17 (.b true) (hP f h0))))))) ?_;exact wJ G Z
       ·obtain⟨u,l,Z⟩:=jaf Z;rcases bf Z with⟨g,Z⟩|⟨g,Z⟩
        ·refine re G (hO 4 (.b false) (hP a (hO 9 (.b false) (hP d (hC 14 (ypx k) (hO 17 (.b false) (hP f (hC 20 (yqm l) (hO 23 (.b true) (hP g h0)))))))))) ?_;exact wJ G Z
        ·obtain⟨w,m,x,n,Z⟩:=ob2 Z;refine re G (hO 4 (.b false) (hP a (hO 9 (.b false) (hP d (hC 14 (ypx k) (hO 17 (.b false) (hP f (hC 20 (yqm l) (hO 23 (.b false) (hP g (hC 26 (yev.c (_,_) m) (hC 27 (yqm n) h0)))))))))))) ?_;exact wJ G Z
    rintro j Z;refine cd Z ?_ ?_<;>intro Z
    ·refine rg G ?_;have Z:=eL Z hb p;cases Z;exact rt [] []
    ·exact jae (thN (rh G (ibN (thN (rh G (wL G Z))))))
   ·exact jag (thE (thE (ibE (wE G Z hb))))
  rintro⟨⟩ Z s z;refine thN (jai z ?_);refine rg G ?_;cases Z;exact rt [] []
def ymp:MS Timetable Bool:=mR zq12
theorem ywc:FnOK Tryz.prog tJ 103 ymp.S:=by
 refine fm tt ymp [fo yxh,fo yv2] call103 func103 rfl results103 ntmps103 ?_;rintro t y cx G (Z:zq12 t=some y);unfold zq12 at Z;refine rg G ?_;obtain⟨r,h,Z⟩:=jaf Z;refine jn Z (fun v=>⟨[(2,dV v)],[],32⟩) (fun v Z=>?_) ?_
 ·rcases bf Z with⟨hb,Z⟩|⟨hb,Z⟩
  ·obtain⟨d,a,Z⟩:=jaf Z;refine re G (hC 2 (yr6.c _ h) (hO 3 (.b true) (hP hb (hC 5 (yqe.c _ a) h0)))) ?_;exact wJ G Z
  ·refine re G (hC 2 (yr6.c _ h) (hO 3 (.b false) (hP hb h0))) ?_;exact wJ G Z
 rintro v Z;cases Z;exact rt [] []
def ypy:MS (Network×Fleet) Bool:=mS zq34
theorem yvr:FnOK Tryz.prog tJ 104 ypy.S:=by
 refine fm tt ypy [fo ycf] call104 func104 rfl results104 ntmps104 ?_;rintro⟨n,f⟩ y cx G (Z:zq34 n f=some y);unfold zq34 at Z;refine rg G (jab (jn Z (fun v=>⟨[(2,.ref 16 0),(3,.ref 32 0),(21,dV v)],[bX 16 27 [dV n.Stops,dV n.Lines],bX 32 33 [dV f.Dead,dV f.Turn]],64⟩) (fun v Z=>?_) ?_))
 ·rcases bf Z with⟨hb,Z⟩|⟨hb,Z⟩
  ·refine re G (hN 2 f.Dead (hN 5 n.Stops (hO 7 (.b true) (hP hb h0)))) ?_;exact wJ G Z
  ·obtain⟨r,h,Z⟩:=jaf Z;refine re G (hN 2 f.Dead (hN 5 n.Stops (hO 7 (.b false) (hP hb (hC 10 (yaw h) h0))))) ?_;exact wJ G Z
 rintro v Z;refine cd Z ?_ ?_<;>intro Z
 ·refine rg G ?_;cases Z;exact rt [] []
 ·refine jae (thN (jab (rs G (hN 2 f.Dead h0) ?_)));refine tF Z (fun _=>⟨[],[],32⟩) (fun w p Z=>?_) ?_
  ·refine jaa (lp G Z (fun d=>⟨[(2,.ref 16 0),(23,dV f.Dead),(24,dV (f.Dead.length:Int)),(25,dV d)],[bX 16 27 [dV n.Stops,dV n.Lines]],48⟩) ?_);rintro d m a Z;rw[yjx]at Z;refine rg G (jab (cd Z ?_ ?_))<;>intro Z
   ·refine jae (thN (jab (jaa ?_)));obtain⟨e,o,Z⟩:=jaf Z;refine rs G (hD 1 o h0) ?_;refine jab (jn Z (fun i=>⟨[(2,.ref 16 0),(6,dV e),(23,dV f.Dead),(24,dV (f.Dead.length:Int)),(25,dV d),(42,dV i)],[bX 16 27 [dV n.Stops,dV n.Lines]],48⟩) (fun i Z=>?_) ?_)
    ·rcases bf Z with⟨c,Z⟩|⟨c,Z⟩
     ·refine re G (hN 1 e (hN 4 n.Stops (hO 6 (.b true) (hP c h0)))) ?_;exact wJ G Z
     ·obtain⟨x,q,Z⟩:=jaf Z;refine re G (hN 1 e (hN 4 n.Stops (hO 6 (.b false) (hP c (hD 9 q h0))))) ?_;exact wJ G Z
    rintro i Z;refine cd Z ?_ ?_<;>intro Z
    ·refine rg G ?_;have Z:=eL Z a p;cases Z;exact rt [] []
    ·refine jae (thN (rs G (hN 1 e h0) ?_));refine tF Z (fun _=>⟨[(2,.ref 16 0),(23,dV f.Dead),(24,dV (f.Dead.length:Int)),(25,dV d)],[bX 16 27 [dV n.Stops,dV n.Lines]],48⟩) (fun z j Z=>?_) ?_
     ·refine jaa (lp G Z (fun l=>⟨[(2,.ref 16 0),(23,dV f.Dead),(24,dV (f.Dead.length:Int)),(25,dV d),(43,dV e),(44,dV (e.length:Int)),(45,dV l)],[bX 16 27 [dV n.Stops,dV n.Lines]],48⟩) ?_);rintro l m g Z;rw[yfw]at Z;refine rg G (jab (cd Z ?_ ?_))<;>intro Z
      ·refine jae (thN (jab (jaa ?_)));obtain⟨A,t,Z⟩:=jaf Z;refine rs G (hD 0 t h0) ?_;obtain⟨B,u,Z⟩:=jaf Z;refine rs G (hC 1 (yaw u) h0) ?_;refine cd Z ?_ ?_<;>intro Z
       ·refine rg G ?_;have Z:=eL Z g j;have Z:=eL Z a p;cases Z;exact rt [] []
       ·exact jae (ibN (thN (rh G (wL G Z))))
      ·exact jag (thE (thE (ibE (wE G Z g))))
     rintro⟨⟩ Z s D;refine ibN (thN (jai D ?_));exact rh G (wL G Z)
   ·exact jag (thE (thE (ibE (wE G Z a))))
  rintro⟨⟩ Z C k;refine thN (jai k ?_);refine rg G ?_;cases Z;exact rt [] []
def ymb:MS (Timetable×Fleet) Bool:=mS zq38
theorem yvn:FnOK Tryz.prog tJ 60 ymb.S:=by
 refine fm tt ymb [fo ywc,fo yvr] call60 func60 rfl results60 ntmps60 ?_;rintro⟨t,f⟩ y cx G (Z:zq38 t f=some y);unfold zq38 at Z;refine rg G ?_;obtain⟨r,h,Z⟩:=jaf Z;refine jn Z (fun v=>⟨[(4,dV v)],[],32⟩) (fun v Z=>?_) ?_
 ·rcases bf Z with⟨hb,Z⟩|⟨hb,Z⟩
  ·obtain⟨d,a,Z⟩:=jaf Z;refine re G (hC 1 (ymp.c _ h) (hO 2 (.b true) (hP hb (hC 6 (ypy.c (_,_) a) h0)))) ?_;exact wJ G Z
  ·refine re G (hC 1 (ymp.c _ h) (hO 2 (.b false) (hP hb h0))) ?_;exact wJ G Z
 rintro v Z;cases Z;exact rt [] []
def ypm:MS (Trip×Int) Bool:=⟨.x .r (.b 3),fun x=>zq54 x.1 x.2,fun y=>dV y,fun _=>[],fun x _=>[bxO 3 x.2]⟩
theorem yvc:FnOK Tryz.prog tJ 99 ypm.S:=by
 refine fm tt ypm [] call99 func99 rfl results99 ntmps99 ?_;rintro⟨x,a⟩ y cx G (Z:zq54 x a=some y);unfold zq54 at Z;refine rg G (rg G ?_);cases Z;exact rt [] []
def ykk:MS ((List Trip)×Int) Int:=⟨⟨[.rd,.fn 99 [.bx]],fun x=>[Enc.e x.1,.agg [.sc undef]],fun x=>[bxO 3 x.2],1,1,fun _=>rfl,fun _=>rfl,rfl,(by
  rintro⟨a,b⟩ ⟨b0,c⟩ h hO;have d:a=b0:=qI 0 h;have q1:b=c:=Enc.inj _ _ (congrArg (fun l=>(obD l 0).getD 0 (.sc undef)) hO);subst d;subst q1;rfl)⟩,fun x=>ysp x.1 x.2,fun y=>dV y,fun _=>[],fun x _=>[bxO 3 x.2]⟩
theorem yso:FnOK Tryz.prog tJ 98 ykk.S:=by
 refine fm tt ykk [fo yvc] call98 func98 rfl results98 ntmps98 ?_;rintro⟨s,j⟩ y cx G (Z:ysp s j=some y);obtain⟨f,i⟩:∃q,(fun(m:Trip)=>zq54 m j)=q:=⟨_,rfl⟩;have Z:ysq s f=some y:=by rw[<-i];exact Z
 unfold ysq at Z;refine rg G (jab (rs G (hN 1 s h0) ?_));refine tF Z (fun _=>⟨[(1,.fn 99 [.ref 0 0])],[bX 0 3 [dV j]],48⟩) (fun b k Z=>?_) ?_
 ·refine jaa (lp G Z (fun v=>⟨[(0,dV s),(1,.fn 99 [.ref 0 0]),(7,dV (s.length:Int)),(8,dV v)],[bX 0 3 [dV j]],48⟩) ?_);rintro v d hb Z;rw[yc4]at Z;refine rg G (jab (cd Z ?_ ?_))<;>intro Z
  ·refine jae (thN (jab (jaa (rg G ?_))));obtain⟨e,h,r,a,Z⟩:=ob2 Z;have a:zq54 e j=some r:=by rw[<-i]at a;exact a
   refine rs G (hD 3 h (hC 5 (ypm.c (_,_) a) h0)) ?_;refine cd Z ?_ ?_<;>intro Z
   ·refine rg G ?_;have Z:=eL Z hb k;cases Z;exact rt [] []
   ·exact jae (ibN (thN (rh G (wL G Z))))
  ·exact jag (thE (thE (ibE (wE G Z hb))))
 rintro⟨⟩ Z g l;refine thN (jai l ?_);refine rg G ?_;cases Z;exact rt [] []
def ycp:MS (Timetable×Int) Int:=mS zq53
theorem ycg:FnOK Tryz.prog tJ 56 ycp.S:=by
 refine fm tt ycp [fo yso] call56 func56 rfl results56 ntmps56 ?_;rintro⟨t,id⟩ y cx G (Z:zq53 t id=some y);unfold zq53 at Z;refine rg G ?_;obtain⟨r,h,Z⟩:=jaf Z;refine rs G (hC 3 (ykk.c (_,_) h) h0) ?_;cases Z;exact rt [] []
def ydr:MS (Timetable×Int) Trip:=mS zq55
theorem yjq:FnOK Tryz.prog tJ 100 ydr.S:=by
 refine fm tt ydr [fo ycg] call100 func100 rfl results100 ntmps100 ?_;rintro⟨t,id⟩ y cx G (Z:zq55 t id=some y);unfold zq55 at Z;refine rg G ?_;obtain⟨d,a,e,b,Z⟩:=ob2 Z;refine ds G [(7,[32])] (hC 4 (ycp.c (_,_) a) (hD 5 b h0)) ?_;cases Z;exact rt [] []
def yl9:MS (Timetable×Trip) Line:=mS zq44
theorem ypr:FnOK Tryz.prog tJ 165 yl9.S:=by
 refine fm tt yl9 [] call165 func165 rfl results165 ntmps165 ?_;rintro⟨t,x⟩ y cx G (Z:zq44 t x=some y);unfold zq44 at Z;refine rg G ?_;obtain⟨e,h,Z⟩:=jaf Z;refine rs G (hD 5 h h0) ?_;cases Z;exact rt [] []
def ypu:MS (Timetable×Trip) Int:=mS zq41
theorem yvk:FnOK Tryz.prog tJ 132 ypu.S:=by
 refine fm tt ypu [fo ypr] call132 func132 rfl results132 ntmps132 ?_;rintro⟨t,x⟩ y cx G (Z:zq41 t x=some y);unfold zq41 at Z;refine rg G ?_;obtain⟨r,h,Z⟩:=jaf Z;refine rs G (hC 2 (yl9.c (_,_) h) h0) ?_;obtain⟨e,a,Z⟩:=jaf Z;refine rs G (hN 2 r.Stops (hD 4 a h0)) ?_;cases Z;exact rt [] []
def yp2:MS (Timetable×Trip) Int:=mS zq30
theorem yvs:FnOK Tryz.prog tJ 133 yp2.S:=by
 refine fm tt yp2 [fo ypr] call133 func133 rfl results133 ntmps133 ?_;rintro⟨t,x⟩ y cx G (Z:zq30 t x=some y);unfold zq30 at Z;refine rg G ?_;obtain⟨r,h,e,a,Z⟩:=ob2 Z;refine rs G (hC 2 (yl9.c (_,_) h) (hD 4 a h0)) ?_;cases Z;exact rt [] []
def ymg:MS (Timetable×Fleet×Trip×Trip) Int:=⟨.x .r (.x .r (.x .r .r)),fun x=>zq27 x.1 x.2.1 x.2.2.1 x.2.2.2,fun y=>dV y,fun _=>[],fun _ _=>[]⟩
theorem yp4:FnOK Tryz.prog tJ 101 ymg.S:=by
 refine fm tt ymg [fo yvk,fo yvs] call101 func101 rfl results101 ntmps101 ?_;rintro⟨t,f,a,b⟩ y cx G (Z:zq27 t f a b=some y);unfold zq27 at Z;refine rg G ?_;obtain⟨i,d,j,e,k,g,Z⟩:=ob3 Z;obtain⟨l,h,Z⟩:=jaf Z;refine ds G [] (hC 4 (ypu.c (_,_) d) (hD 5 e (hC 9 (yp2.c (_,_) g) (hD 10 h h0)))) ?_;cases Z;exact rt [] []
def yqc:MS (Timetable×Fleet×Trip×Trip) Bool:=⟨.x .r (.x .r (.x .r .r)),fun x=>zq19 x.1 x.2.1 x.2.2.1 x.2.2.2,fun y=>dV y,fun _=>[],fun _ _=>[]⟩
theorem yv1:FnOK Tryz.prog tJ 105 yqc.S:=by
 refine fm tt yqc [fo yf0,fo yp4] call105 func105 rfl results105 ntmps105 ?_;rintro⟨t,f,a,b⟩ y cx G (Z:zq19 t f a b=some y);unfold zq19 at Z;refine rg G ?_;obtain⟨g,d,h,e,Z⟩:=ob2 Z;refine ds G [] (hC 4 (yev.c (_,_) d) (hC 12 (ymg.c (_,_,_,_) e) h0)) ?_;cases Z;exact rt [] []
def yqh:MS (Timetable×Fleet×(List (List Int))) Bool:=⟨.x .r (.x .r .r),fun x=>zq14 x.1 x.2.1 x.2.2,fun y=>dV y,fun _=>[],fun _ _=>[]⟩
theorem yv7:FnOK Tryz.prog tJ 61 yqh.S:=by
 refine fm tt yqh [fo ycg,fo yjq,fo yv1] call61 func61 rfl results61 ntmps61 ?_;rintro⟨t,f,p⟩ y cx G (Z:zq14 t f p=some y);unfold zq14 at Z;refine rg G (rg G (rg G (jab (rs G (hN 1 p h0) ?_))));refine tF Z (fun P=>⟨[(3,.ref 16 0),(8,dV P)],[bX 16 30 [dV t.Network.Stops,dV t.Network.Lines,dV t.Trips]],48⟩) (fun U hr Z=>?_) ?_
 ·refine jaa (lp G Z (fun(block,k,v,n)=>⟨[(3,.ref 16 0),(4,.ref 32 0),(7,.eref 48 1 0 0),(8,dV block),(9,dV k),(15,dV p),(16,dV (p.length:Int)),(17,dV v)],[bX 16 30 [dV t.Network.Stops,dV t.Network.Lines,dV t.Trips],bX 32 33 [dV f.Dead,dV f.Turn],aX 48 4 n],80⟩) ?_);rintro⟨block,k,v,n⟩ K hb Z;rw[yax]at Z;refine rg G (jab (cd Z ?_ ?_))<;>intro Z
  ·refine jae (thN (jab (jaa ?_)));obtain⟨e,h,Z⟩:=jaf Z;refine rs G (hD 0 h h0) ?_;refine jab (jn Z (fun o=>⟨[(3,.ref 16 0),(4,.ref 32 0),(7,.eref 48 1 0 0),(8,dV block),(11,dV e),(15,dV p),(16,dV (p.length:Int)),(17,dV v),(30,dV o)],[bX 16 30 [dV t.Network.Stops,dV t.Network.Lines,dV t.Trips],bX 32 33 [dV f.Dead,dV f.Turn],aX 48 4 n],80⟩) (fun o Z=>?_) ?_)
   ·rcases bf Z with⟨g,Z⟩|⟨g,Z⟩
    ·refine re G (hN 1 e (hO 3 (.b true) (hP g h0))) ?_;exact wJ G Z
    ·obtain⟨V,L,Z⟩:=jaf Z;refine re G (hN 1 e (hO 3 (.b false) (hP g (hD 5 L h0)))) ?_;exact wJ G Z
   rintro o Z;refine cd Z ?_ ?_<;>intro Z
   ·refine rg G ?_;have Z:=eL Z hb hr;cases Z;exact rt [] []
   ·refine jae (thN ?_);obtain⟨q,M,Z⟩:=jaf Z;refine rs G (hD 1 M h0) ?_;refine rs G (hN 1 e h0) ?_;refine tF Z (fun(J,I)=>⟨[(3,.ref 16 0),(4,.ref 32 0),(7,.eref 48 1 0 0),(8,dV J),(9,dV q),(15,dV p),(16,dV (p.length:Int)),(17,dV v)],[bX 16 30 [dV t.Network.Stops,dV t.Network.Lines,dV t.Trips],bX 32 33 [dV f.Dead,dV f.Turn],aX 48 4 I],80⟩) (fun W r Z=>?_) ?_
    ·refine jaa (lp G Z (fun(F,u,w)=>⟨[(3,.ref 16 0),(4,.ref 32 0),(7,.eref 48 1 0 0),(8,dV F),(9,dV q),(11,dV e),(15,dV p),(16,dV (p.length:Int)),(17,dV v),(34,dV e),(35,dV (e.length:Int)),(36,dV u)],[bX 16 30 [dV t.Network.Stops,dV t.Network.Lines,dV t.Trips],bX 32 33 [dV f.Dead,dV f.Turn],aX 48 4 w],80⟩) ?_);rintro⟨F,u,w⟩ K m Z;rw[ya5]at Z;refine rg G (jab (cd Z ?_ ?_))<;>intro Z
     ·refine jae (thN (jab (jaa ?_)));obtain⟨X,N,Z⟩:=jaf Z;refine rs G (hD 1 N h0) ?_;obtain⟨O,Q,Z⟩:=jaf Z;refine rs G (hC 2 (ycp.c (_,_) Q) h0) ?_;refine jab (jn Z (fun x=>⟨[(3,.ref 16 0),(4,.ref 32 0),(7,.eref 48 1 0 0),(8,dV F),(9,dV q),(11,dV e),(14,dV O),(15,dV p),(16,dV (p.length:Int)),(17,dV v),(34,dV e),(35,dV (e.length:Int)),(36,dV u),(72,dV x)],[bX 16 30 [dV t.Network.Stops,dV t.Network.Lines,dV t.Trips],bX 32 33 [dV f.Dead,dV f.Turn],aX 48 4 w],80⟩) (fun x Z=>?_) ?_)
      ·rcases bf Z with⟨a,Z⟩|⟨a,Z⟩
       ·refine de G [] (hO 2 (.b true) (hP a h0)) ?_;exact wJ G Z
       ·obtain⟨Y,i,e8,j,Z⟩:=ob2 Z;rcases bf Z with⟨d,Z⟩|⟨d,Z⟩
        ·refine de G [] (hO 2 (.b false) (hP a (hK i (hE 5 j (hO 7 (.b true) (hP d h0)))))) ?_;exact wJ G Z
        ·rcases bf Z with⟨l,Z⟩|⟨l,Z⟩
         ·obtain⟨e9,z,r4,A,R,B,Z⟩:=ob3 Z;obtain⟨r5,C,Z⟩:=jaf Z;refine de G [] (hO 2 (.b false) (hP a (hK i (hE 5 j (hO 7 (.b false) (hP d (hO 10 (.b true) (hP l (hD 17 z (hC 19 (ydr.c (_,_) A) (hD 23 B (hC 25 (yqc.c (_,_,_,_) C) h0)))))))))))) ?_;exact wJ G Z
         ·refine de G [] (hO 2 (.b false) (hP a (hK i (hE 5 j (hO 7 (.b false) (hP d (hO 10 (.b false) (hP l h0)))))))) ?_;exact wJ G Z
      rintro x Z;refine cd Z ?_ ?_<;>intro Z
      ·refine rg G ?_;have Z:=eL Z m r;have Z:=eL Z hb hr;cases Z;exact rt [] []
      ·refine jae (thN ?_);obtain⟨u2,D,T,E,Z⟩:=ob2 Z;refine rs G (hK D (hS 2 E true h0)) ?_;exact rh G (ibN (thN (rh G (wL G Z))))
     ·exact jag (thE (thE (ibE (wE G Z m))))
    rintro⟨J,I⟩ Z s hw;refine ibN (thN (jai hw ?_));exact rh G (wL G Z)
  ·exact jag (thE (thE (ibE (wE G Z hb))))
 rintro P Z s1 H;refine thN (jai H ?_);refine rs G (hN 3 t.Trips h0) ?_;cases Z;exact rt [] []
def yi8:MS (Timetable×Fleet×(List (List Int))) Bool:=⟨.x .r (.x .r .r),fun x=>zq8 x.1 x.2.1 x.2.2,fun y=>dV y,fun _=>[],fun _ _=>[]⟩
theorem yt6:FnOK Tryz.prog tJ 26 yi8.S:=by
 refine fm tt yi8 [fo yvn,fo yv7] call26 func26 rfl results26 ntmps26 ?_;rintro⟨t,f,e⟩ y cx G (Z:zq8 t f e=some y);unfold zq8 at Z;refine rg G ?_;obtain⟨r,h,Z⟩:=jaf Z;refine jn Z (fun v=>⟨[(6,dV v)],[],32⟩) (fun v Z=>?_) ?_
 ·rcases bf Z with⟨hb,Z⟩|⟨hb,Z⟩
  ·obtain⟨d,a,Z⟩:=jaf Z;refine re G (hC 2 (ymb.c (_,_) h) (hO 3 (.b true) (hP hb (hC 7 (yqh.c (_,_,_) a) h0)))) ?_;exact wJ G Z
  ·refine re G (hC 2 (ymb.c (_,_) h) (hO 3 (.b false) (hP hb h0))) ?_;exact wJ G Z
 rintro v Z;cases Z;exact rt [] []
def yqq:MS Rules Bool:=mR zq10
theorem ywg:FnOK Tryz.prog tJ 40 yqq.S:=by
 refine fm tt yqq [fo ycf] call40 func40 rfl results40 ntmps40 ?_;rintro r y cx G (Z:zq10 r=some y);unfold zq10 at Z;refine rg G (jab (rg G (tF Z (fun _=>⟨[],[],32⟩) (fun c g Z=>?_) ?_)))
 ·refine jaa (lp G Z (fun v=>⟨[(17,.dat (.agg (flatE ([r.SignOn,r.SignOff,r.MaxDrive,r.MinBreak,r.PaidBreak,r.MaxLength]:List Int)))),(18,dV v)],[],32⟩) ?_);rintro v d hb Z;rw[ykz]at Z;refine rg G (jab (cd Z ?_ ?_))<;>intro Z
  ·refine jae (thN (jab (jaa ?_)));obtain⟨u,a,e,h,Z⟩:=ob2 Z;refine ixS1 (ls:=([r.SignOn,r.SignOff,r.MaxDrive,r.MinBreak,r.PaidBreak,r.MaxLength]:List Int)) (t:=122) (el:=3) (kk:=.i64) (T:=tyE122) (E:=tyE3) (len:=6) (e:=e) G (jeb a) h h0 ?_ (fun _=>⟨rfl,rfl⟩);obtain⟨f,b,Z⟩:=jaf Z;refine rs G (hC 1 (yaw b) h0) ?_;refine cd Z ?_ ?_<;>intro Z
   ·refine rg G ?_;have Z:=eL Z hb g;cases Z;exact rt [] []
   ·exact jae (ibN (thN (rh G (wL G Z))))
  ·exact jag (thE (thE (ibE (wE G Z hb))))
 rintro⟨⟩ Z s i;refine thN (jai i ?_);refine rg G ?_;cases Z;exact rt [] []
def ydw:MS (Timetable×Fleet×(List (List Int))×Rules) Bool:=⟨.x .r (.x .r (.x .r .r)),fun x=>zq16 x.1 x.2.1 x.2.2.1 x.2.2.2,fun y=>dV y,fun _=>[],fun _ _=>[]⟩
theorem yf6:FnOK Tryz.prog tJ 18 ydw.S:=by
 refine fm tt ydw [fo yt6,fo ywg] call18 func18 rfl results18 ntmps18 ?_;rintro⟨t,f,g,r⟩ y cx G (Z:zq16 t f g r=some y);unfold zq16 at Z;refine rg G ?_;obtain⟨d,h,Z⟩:=jaf Z;refine jn Z (fun v=>⟨[(8,dV v)],[],32⟩) (fun v Z=>?_) ?_
 ·rcases bf Z with⟨hb,Z⟩|⟨hb,Z⟩
  ·obtain⟨e,a,Z⟩:=jaf Z;refine re G (hC 3 (yi8.c (_,_,_) h) (hO 4 (.b true) (hP hb (hC 6 (yqq.c _ a) h0)))) ?_;exact wJ G Z
  ·refine re G (hC 3 (yi8.c (_,_,_) h) (hO 4 (.b false) (hP hb h0))) ?_;exact wJ G Z
 rintro v Z;cases Z;exact rt [] []
def yh1:MS (Timetable×(List (List Int))×Int) Bool:=⟨.x .r (.x .r .r),fun x=>zq33 x.1 x.2.1 x.2.2,fun y=>dV y,fun _=>[],fun _ _=>[]⟩
theorem ypz:FnOK Tryz.prog tJ 27 yh1.S:=by
 refine fm tt yh1 [fo ycg] call27 func27 rfl results27 ntmps27 ?_;rintro⟨t,p,cut⟩ y cx G (Z:zq33 t p cut=some y);unfold zq33 at Z;refine rg G (jab (jn Z (fun v=>⟨[(1,dV p),(2,dV cut),(3,.ref 16 0),(18,dV v)],[bX 16 30 [dV t.Network.Stops,dV t.Network.Lines,dV t.Trips]],48⟩) (fun v Z=>?_) ?_))
 ·rcases bf Z with⟨hb,Z⟩|⟨hb,Z⟩
  ·refine re G (hO 2 (.b true) (hP hb h0)) ?_;exact wJ G Z
  ·obtain⟨u,h,Z⟩:=jaf Z;refine re G (hO 2 (.b false) (hP hb (hN 6 t.Trips (hK h h0)))) ?_;exact wJ G Z
 rintro v Z;refine cd Z ?_ ?_<;>intro Z
 ·refine rg G ?_;cases Z;exact rt [] []
 ·refine jae (thN (jab (rs G (hN 1 p h0) ?_)));refine tF Z (fun _=>⟨[],[],32⟩) (fun k q Z=>?_) ?_
  ·refine jaa (lp G Z (fun d=>⟨[(2,dV cut),(3,.ref 16 0),(19,dV p),(20,dV (p.length:Int)),(21,dV d)],[bX 16 30 [dV t.Network.Stops,dV t.Network.Lines,dV t.Trips]],48⟩) ?_);rintro d l a Z;rw[yfx]at Z;refine rg G (jab (cd Z ?_ ?_))<;>intro Z
   ·refine jae (thN (jab (jaa ?_)));obtain⟨e,f,Z⟩:=jaf Z;refine rs G (hD 0 f h0) ?_;obtain⟨m,g,n,i,o,j,Z⟩:=ob3 Z;refine ds G [] (hN 4 e (hD 6 g (hC 8 (ycp.c (_,_) i) (hK j h0)))) ?_;refine cd Z ?_ ?_<;>intro Z
    ·refine rg G ?_;have Z:=eL Z a q;cases Z;exact rt [] []
    ·exact jae (ibN (thN (rh G (wL G Z))))
   ·exact jag (thE (thE (ibE (wE G Z a))))
  rintro⟨⟩ Z s r;refine thN (jai r ?_);refine rg G ?_;cases Z;exact rt [] []
def ydx:MS (List Int) (List Int):=⟨.r,ycw,fun _=>.own 0,fun y=>[arO 3 y],fun _ _=>[]⟩
theorem ygd:FnOK Tryz.prog tJ 62 ydx.S:=by
 refine fm tt ydx [] call62 func62 rfl results62 ntmps62 ?_;rintro s y cx G (Z:ycw s=some y);unfold ycw at Z;obtain⟨u,h,Z⟩:=jaf Z;cases Z;refine rg G (jab (jrq G.t.ty G.ok 1 (ds:=List.map Enc.e s) (es:=1) [] .nil (by kernel_rfl) (by rfl) (by rfl) (by kernel_rfl) ?_));intro b hb;refine jn5 b (by kernel_rfl) (fun hc=>?_) (fun hc=>?_)
 ·have c:s=[]:=by
   cases s with
   |nil=>rfl
   |cons a r=>have:=hb (by simp);rw[hc]at this;cases this
  subst c;refine rg G (jai (Wk_J (x':=⟨[(2,.own 16)],[(16,some (.arr 3 1 []))],32⟩) G.hL ⟨[(2,[.o 16])],[],[(16,3,1,[])],32⟩ (by kernel_rfl)) ?_);exact rt [16] []
 ·refine sN (rs G (hA 2 8 h h0) ?_);exact rt [96] []
def ymi:MS (Timetable×(List (List Int))×Int) ((List (List Int))):=⟨.x .r (.x .r .r),fun x=>zq22 x.1 x.2.1 x.2.2,fun y=>dV y,fun _=>[],fun _ _=>[]⟩
theorem yvy:FnOK Tryz.prog tJ 28 ymi.S:=by
 refine fm tt ymi [fo ycg,fo ygd] call28 func28 rfl results28 ntmps28 ?_;rintro⟨t,p,cut⟩ y cx G (Z:zq22 t p cut=some y);unfold zq22 at Z;refine rg G (rg G (jab (rs G (hN 1 p h0) ?_)));refine tl Z (fun I=>⟨[(7,.own 16)],[aX 16 53 I],48⟩) (fun I Z=>?_) ?_
 ·refine jaa (lpP Z (fun(v,K)=>⟨[(2,dV cut),(3,.ref 16 0),(7,.own 32),(13,dV p),(14,dV (p.length:Int)),(15,dV v)],[bX 16 30 [dV t.Network.Stops,dV t.Network.Lines,dV t.Trips],aX 32 53 K],64⟩) (Wk_J G.hL ⟨[(2,[]),(3,[]),(7,[.o 32]),(13,[]),(14,[]),(15,[])],[(16,16,[])],[(32,53,1,[])],64⟩ (by kernel_rfl)) ?_);rintro⟨v,K⟩ l hb Z;rw[yj3]at Z;refine rg G (jab (cd Z ?_ ?_))<;>intro Z
  ·refine jae (thN (jab (jaa ?_)));obtain⟨e,h,Z⟩:=jaf Z;refine rs G (hD 0 h h0) ?_;refine rg G (rs G (hN 1 e h0) ?_);refine tl Z (fun H=>⟨[(2,dV cut),(3,.ref 16 0),(7,.own 32),(13,dV p),(14,dV (p.length:Int)),(15,dV v)],[bX 16 30 [dV t.Network.Stops,dV t.Network.Lines,dV t.Trips],aX 32 53 H],64⟩) (fun H Z=>?_) ?_
   ·refine jaa (lp G Z (fun(f,d,F)=>⟨[(2,dV cut),(3,.ref 16 0),(7,.own 32),(9,dV e),(10,dV f),(13,dV p),(14,dV (p.length:Int)),(15,dV v),(19,dV e),(20,dV (e.length:Int)),(21,dV d)],[bX 16 30 [dV t.Network.Stops,dV t.Network.Lines,dV t.Trips],aX 32 53 F],64⟩) ?_);rintro⟨f,d,F⟩ l g Z;rw[yf3]at Z;refine rg G (jab (cd Z ?_ ?_))<;>intro Z
    ·refine jae (thN (jn Z (fun(k,J)=>⟨[(2,dV cut),(3,.ref 16 0),(7,.own 32),(9,dV e),(10,dV k),(13,dV p),(14,dV (p.length:Int)),(15,dV v),(19,dV e),(20,dV (e.length:Int)),(21,dV d)],[bX 16 30 [dV t.Network.Stops,dV t.Network.Lines,dV t.Trips],aX 32 53 J],64⟩) (fun M Z=>?_) ?_))
     ·refine jaa ?_;obtain⟨A,m,Z⟩:=jaf Z;refine rs G (hD 1 m h0) ?_;refine jn Z (fun i=>⟨[(2,dV cut),(3,.ref 16 0),(7,.own 32),(9,dV e),(10,dV f),(11,dV d),(13,dV p),(14,dV (p.length:Int)),(15,dV v),(19,dV e),(20,dV (e.length:Int)),(21,dV d),(39,dV i)],[bX 16 30 [dV t.Network.Stops,dV t.Network.Lines,dV t.Trips],aX 32 53 F],64⟩) (fun i Z=>?_) ?_
      ·rcases bf Z with⟨a,Z⟩|⟨a,Z⟩
       ·refine re G (hN 2 e (hO 5 (.b true) (hP a h0))) ?_;exact wJ G Z
       ·obtain⟨r,n,u,q,Z⟩:=ob2 Z;refine re G (hN 2 e (hO 5 (.b false) (hP a (hC 9 (ycp.c (_,_) n) (hK q h0))))) ?_;exact wJ G Z
      rintro i Z;refine cd Z ?_ ?_<;>intro Z
      ·obtain⟨B,w,C,x,D,z,Z⟩:=ob3 Z;refine rs G (hU 5 w (hC 6 (ydx.c _ x) (hO 7 (.fz [160] [] []) (hA 8 24 z h0)))) ?_;exact rh G (ibN (wJ G Z))
      ·exact jae (ibN (wJ G Z))
     rintro⟨k,J⟩ Z;exact rh G (wL G Z)
    ·exact jag (thE (thE (ibE (wD G Z g))))
   rintro H Z s L;refine ibN (thN (jai L ?_));exact rh G (wL G Z)
  ·exact jag (thE (thE (ibE (wD G Z hb))))
 rintro I Z E j;refine thN (jai j ?_);refine rg G ?_;cases Z;exact rt [] []
def ypo:MS ((List (List Int))×Int) (Int×Int):=⟨.x .r .r,fun x=>zq49 x.1 x.2,fun y=>.tup [dV y.1,dV y.2],fun _=>[],fun _ _=>[]⟩
theorem yve:FnOK Tryz.prog tJ 68 ypo.S:=by
 refine fm tt ypo [fo yml] call68 func68 rfl results68 ntmps68 ?_;rintro⟨f,id⟩ y cx G (Z:zq49 f id=some y);unfold zq49 at Z;refine rg G (jab (rs G (hN 1 f h0) ?_));refine tF Z (fun _=>⟨[],[],32⟩) (fun b g Z=>?_) ?_
 ·refine jaa (lp G Z (fun v=>⟨[(1,dV id),(9,dV f),(10,dV (f.length:Int)),(11,dV v)],[],32⟩) ?_);rintro v d hb Z;rw[ych]at Z;refine rg G (jab (cd Z ?_ ?_))<;>intro Z
  ·refine jae (thN (jab (jaa ?_)));obtain⟨e,h,Z⟩:=jaf Z;refine rs G (hD 1 h h0) ?_;obtain⟨r,a,Z⟩:=jaf Z;refine rs G (hC 2 (ygc.c (_,_) a) h0) ?_;refine rg G (cd Z ?_ ?_)<;>intro Z
   ·refine rg G ?_;have Z:=eL Z hb g;cases Z;exact rt [] []
   ·exact jae (ibN (thN (rh G (wL G Z))))
  ·exact jag (thE (thE (ibE (wE G Z hb))))
 rintro⟨⟩ Z s i;refine thN (jai i ?_);refine rg G ?_;cases Z;exact rt [] []
def ykm:MS ((List Int)×(List Int)) Bool:=mS ynu
theorem ysr:FnOK Tryz.prog tJ 130 ykm.S:=by
 refine fm tt ykm [] call130 func130 rfl results130 ntmps130 ?_;rintro⟨a,b⟩ y cx G (Z:ynu a b=some y);unfold ynu at Z;refine rg G (jab (rs G (hN 1 a (hN 3 b h0)) ?_));refine cd Z ?_ ?_<;>intro Z
 ·refine rg G ?_;cases Z;exact rt [] []
 ·refine jae (thN (jab (rs G (hN 1 a h0) ?_)));refine tF Z (fun _=>⟨[],[],32⟩) (fun e i Z=>?_) ?_
  ·refine jaa (lp G Z (fun v=>⟨[(0,dV a),(1,dV b),(12,dV (a.length:Int)),(13,dV v)],[],32⟩) ?_);rintro v f hb Z;rw[yb0]at Z;refine rg G (jab (cd Z ?_ ?_))<;>intro Z
   ·refine jae (thN (jab (jaa (rg G ?_))));obtain⟨g,c,h,d,Z⟩:=ob2 Z;refine ds G [] (hD 2 c (hD 6 d h0)) ?_;refine cd Z ?_ ?_<;>intro Z
    ·refine rg G ?_;have Z:=eL Z hb i;cases Z;exact rt [] []
    ·exact jae (ibN (thN (rh G (wL G Z))))
   ·exact jag (thE (thE (ibE (wE G Z hb))))
  rintro⟨⟩ Z s j;refine thN (jai j ?_);refine rg G ?_;cases Z;exact rt [] []
def ypw:MS ((List (List Int))×(List Int)) Bool:=mS zq37
theorem yvo:FnOK Tryz.prog tJ 94 ypw.S:=by
 refine fm tt ypw [fo yve,fo ysr] call94 func94 rfl results94 ntmps94 ?_;rintro⟨p,o⟩ y cx G (Z:zq37 p o=some y);unfold zq37 at Z;refine rg G (jab (rs G (hN 1 o h0) ?_));refine cd Z ?_ ?_<;>intro Z
 ·refine rg G ?_;cases Z;exact rt [] []
 ·refine jae (thN ?_);obtain⟨e,h,r,g,Z⟩:=ob2 Z;refine rs G (hD 2 h (hC 4 (ypo.c (_,_) g) h0)) ?_;refine jn Z (fun k=>⟨[(4,dV k)],[],32⟩) (fun k Z=>?_) ?_
  ·rcases bf Z with⟨hb,Z⟩|⟨hb,Z⟩
   ·obtain⟨d,f,Z⟩:=jaf Z;rcases bf Z with⟨a,Z⟩|⟨a,Z⟩
    ·obtain⟨m,i,u,j,n,l,Z⟩:=ob3 Z;refine re G (hO 2 (.b true) (hP hb (hN 5 o (hD 9 f (hN 11 d (hO 14 (.b true) (hP a (hD 17 i (hN 22 o (hU 24 j (hC 26 (ykm.c (_,_) l) h0))))))))))) ?_;exact wJ G Z
    ·refine re G (hO 2 (.b true) (hP hb (hN 5 o (hD 9 f (hN 11 d (hO 14 (.b false) (hP a h0))))))) ?_;exact wJ G Z
   ·refine re G (hO 2 (.b false) (hP hb h0)) ?_;exact wJ G Z
  rintro k Z;cases Z;exact rt [] []
def ypk:MS (IK .u64) Int:=mR zq58
theorem yvb:FnOK Tryz.prog tJ 155 ypk.S:=by
 refine fm tt ypk [] call155 func155 rfl results155 ntmps155 ?_;rintro x y cx G (Z:zq58 x=some y);unfold zq58 at Z;refine rg G (jn Z (fun(a,v)=>⟨[(0,kV .u64 a),(2,dV v)],[],32⟩) (fun f Z=>?_) ?_)
 ·refine rg G (cd Z ?_ ?_)<;>intro Z
  ·obtain⟨u,h,Z⟩:=jaf Z;refine rs G (hK h h0) ?_;exact rh G (wJ G Z)
  ·exact jae (wJ G Z)
 rintro⟨a,v⟩ Z;refine jn Z (fun(b,c)=>⟨[(0,kV .u64 b),(2,dV c)],[],32⟩) (fun g Z=>?_) ?_
 ·refine rg G (cd Z ?_ ?_)<;>intro Z
  ·obtain⟨l,i,Z⟩:=jaf Z;refine rs G (hK i h0) ?_;exact rh G (wJ G Z)
  ·exact jae (wJ G Z)
 rintro⟨b,c⟩ Z;refine jn Z (fun(d,e)=>⟨[(0,kV .u64 d),(2,dV e)],[],32⟩) (fun o Z=>?_) ?_
 ·refine rg G (cd Z ?_ ?_)<;>intro Z
  ·obtain⟨m,j,Z⟩:=jaf Z;refine rs G (hK j h0) ?_;exact rh G (wJ G Z)
  ·exact jae (wJ G Z)
 rintro⟨d,e⟩ Z;obtain⟨n,k,Z⟩:=jaf Z;refine rs G (hK k h0) ?_;cases Z;exact rt [] []
def yl2:MS (IK .u64) Int:=mR zq57
theorem ypl:FnOK Tryz.prog tJ 128 yl2.S:=by
 refine fm tt yl2 [fo yvb] call128 func128 rfl results128 ntmps128 ?_;rintro x y cx G (Z:zq57 x=some y);unfold zq57 at Z;refine rg G (jab (cF (jae (thN ?_))));obtain⟨r,h,Z⟩:=jaf Z;refine rs G (hC 1 (ypk.c _ h) h0) ?_;cases Z;exact rt [] []
def yfv:MS Int Bool:=mR zq3
theorem yt7:FnOK Tryz.prog tJ 126 yfv.S:=by
 refine fm tt yfv [] call126 func126 rfl results126 ntmps126 ?_;rintro x y cx G (Z:zq3 x=some y);unfold zq3 at Z;refine rg G (rg G ?_);cases Z;exact rt [] []
def yv0:MS (Int×Int) Bool:=mS zq1
theorem yxo:FnOK Tryz.prog tJ 162 yv0.S:=by
 refine fm tt yv0 [fo yt7] call162 func162 rfl results162 ntmps162 ?_;rintro⟨x,f⟩ y cx G (Z:zq1 x f=some y);unfold zq1 at Z;refine rg G ?_;obtain⟨r,h,Z⟩:=jaf Z;refine jn Z (fun v=>⟨[(4,dV v)],[],32⟩) (fun v Z=>?_) ?_
 ·rcases bf Z with⟨hb,Z⟩|⟨hb,Z⟩
  ·obtain⟨e,d,Z⟩:=jaf Z;rcases bf Z with⟨a,Z⟩|⟨a,Z⟩
   ·refine re G (hC 1 (yfv.c _ h) (hO 2 (.b true) (hP hb (hC 4 (yfv.c _ d) (hO 7 (.b true) (hP a h0)))))) ?_;exact wJ G Z
   ·refine re G (hC 1 (yfv.c _ h) (hO 2 (.b true) (hP hb (hC 4 (yfv.c _ d) (hO 7 (.b false) (hP a h0)))))) ?_;exact wJ G Z
  ·refine re G (hC 1 (yfv.c _ h) (hO 2 (.b false) (hP hb h0))) ?_;exact wJ G Z
 rintro v Z;cases Z;exact rt [] []
def ykc:MS ((List Int)×Int×Int) ((List Int)):=⟨.x (.s 3) (.x .r .r),fun x=>ykd x.1 x.2.1 x.2.2,fun _=>.tup [],fun _=>[],fun _ y=>[arO 3 y]⟩
theorem ysi:FnOK Tryz.prog tJ 156 ykc.S:=by
 refine fm tt ykc [fo yxo] call156 func156 rfl results156 ntmps156 ?_;rintro⟨p,a,b⟩ y cx G (Z:ykd p a b=some y);unfold ykd at Z;refine rg G (jaa (lp G Z (fun(v,f)=>⟨[(0,.own 0),(1,dV a),(2,dV b),(6,dV v)],[aX 0 3 f],48⟩) ?_));rintro⟨v,f⟩ r hb Z;rw[yc0]at Z;refine jab (rg G (cd Z ?_ ?_))<;>intro Z
 ·refine jae (thN (jab (jaa (rg G (tl Z (fun d=>⟨[(0,.own 0),(1,dV a),(2,dV b),(6,dV v)],[aX 0 3 d],48⟩) (fun d Z=>?_) ?_)))))
  ·refine jaa (lp G Z (fun(l,e)=>⟨[(0,.own 0),(1,dV a),(2,dV b),(6,dV v),(7,dV l)],[aX 0 3 e],48⟩) ?_);rintro⟨l,e⟩ r m Z;rw[yc1]at Z;refine jab (jn Z (fun n=>⟨[(0,.own 0),(1,dV a),(2,dV b),(6,dV v),(7,dV l),(30,dV n)],[aX 0 3 e],48⟩) (fun n Z=>?_) ?_)
   ·rcases bf Z with⟨g,Z⟩|⟨g,Z⟩
    ·obtain⟨A,o,B,q,C,t,Z⟩:=ob3 Z;refine de G [] (hO 3 (.b true) (hP g (hD 6 o (hE 7 o (hD 11 q (hE 12 q (hC 13 (yv0.c (_,_) t) h0))))))) ?_;exact wJ G Z
    ·refine de G [] (hO 3 (.b false) (hP g h0)) ?_;exact wJ G Z
   rintro n Z;refine cd Z ?_ ?_<;>intro Z
   ·refine jae (thN (jab (jaa ?_)));obtain⟨u,h,w,i,x,j,Z⟩:=ob3 Z;obtain⟨z,k,Z⟩:=jaf Z;refine de G [(15,[0]),(17,[0])] (hD 8 h (hE 9 h (hD 12 i (hE 13 i (hD 14 j (hS 15 j u (hD 16 k (hS 17 k w h0)))))))) ?_;exact ibN (thN (rh G (wL G Z)))
   ·exact jag (thE (thE (ibE (wD G Z m))))
  rintro d Z s D;refine ibN (thN (jai D ?_));exact rh G (wL G Z)
 ·have Z:=eD Z hb;refine jag (thE (thE (ibE ?_)));cases Z;exact fN [] []
def yf9:MS ((List Int)×Int×Int×Int) ((List Int)):=⟨.x (.s 3) (.x .r (.x .r .r)),fun x=>yns x.1 x.2.1 x.2.2.1 x.2.2.2,fun _=>.tup [],fun _=>[],fun _ y=>[arO 3 y]⟩
theorem yv5{data a b limit y}(Z:yns data a b limit=some y):yf9.C (data,a,b,limit) y:=yf9.c (data,a,b,limit) Z
theorem ysg:FnOK Tryz.prog tJ 131 yf9.S:=by
 refine fm tt yf9 [fo ysi] call131 func131 rfl results131 ntmps131 ?_;rintro⟨f,a,b,e⟩ y cx G (Z:yns f a b e=some y);unfold yns at Z;refine rg G (rg G (jaa (lp G Z (fun _=>⟨[(0,.own 0),(1,dV a),(2,dV b),(3,dV e),(8,dV true),(9,dV true)],[aX 0 3 f],48⟩) ?_)));rintro⟨⟩ d hb Z;rw[yga]at Z;refine jaa (rg G (jab (rg G (cd Z ?_ ?_))))<;>intro Z
 ·obtain⟨r,h,Z⟩:=jaf Z;refine rs G (hC 3 (ykc.c (_,_,_) h) h0) ?_;have Z:=eD Z hb;cases Z;exact rt [] []
 ·refine jae (thN (jab (rg G (cd Z ?_ ?_))))<;>intro Z
  ·cases Z
  ·refine jae (thN (jn Z (fun _=>⟨[(0,.own 0),(1,dV a),(2,dV b),(3,dV e),(8,dV true),(9,dV true),(10,dV (w64 (b-a)))],[aX 0 3 f],48⟩) (fun g Z=>?_) ?_))
   ·exact rg G (cF (jae (wJ G Z)))
   rintro⟨⟩ Z;cases Z
def ykf:MS (List Int) (List Int):=⟨.s 3,ykg,fun _=>.tup [],fun _=>[],fun _ y=>[arO 3 y]⟩
theorem ysk:FnOK Tryz.prog tJ 95 ykf.S:=by
 refine fm tt ykf [fo ypl,fo ysg] call95 func95 rfl results95 ntmps95 ?_;rintro x y cx G (Z:ykg x=some y);unfold ykg at Z;refine rs G (hN 1 x h0) ?_;obtain⟨r,h,b,a,Z⟩:=ob2 Z;refine re G (hC 4 (yl2.c _ h) (hC 5 (yv5 a) h0)) ?_;cases Z;exact fN [] []
def yql:MS (List Int) (List Int):=⟨.m 3,ywb,fun _=>.own 0,fun y=>[arO 3 y],fun _ _=>[]⟩
def yqk:Go.Shelf.Ren:=⟨fun x=>bif Nat.beq x 20 then 96 else x,fun x=>bif Nat.beq x 22 then 53 else bif Nat.beq x 3 then 3 else bif Nat.beq x 4 then 4 else x,fun x=>x⟩
theorem ywa:Tryz.f96=Go.Proofs.Body2.n20 yqk:=by kernel_rfl
theorem yss:FnOK Tryz.prog tJ 96 yql.S:=jvh tt yqk call96 (func96.trans (congrArg some ywa)) (b0:=0) (e0:=false) ⟨Tryz.underlying0,Tryz.t0,Tryz.type0,rfl,rfl,rfl,fun h=>by cases h⟩ (by kernel_rfl) (by kernel_rfl) (by kernel_rfl)
def ycq:MS (Timetable×(List Int)) Span:=mS zq51
theorem yfr:FnOK Tryz.prog tJ 57 ycq.S:=by
 refine fm tt ycq [fo yjq,fo yf0] call57 func57 rfl results57 ntmps57 ?_;rintro⟨t,l⟩ y cx G (Z:zq51 t l=some y);unfold zq51 at Z;refine rg G ?_;obtain⟨g,a,h,b,i,d,Z⟩:=ob3 Z;obtain⟨j,e,k,f,Z⟩:=ob2 Z;refine ds G [(17,[32])] (hD 2 a (hC 4 (ydr.c (_,_) b) (hN 10 l (hD 12 d (hC 14 (ydr.c (_,_) e) (hC 15 (yev.c (_,_) f) h0)))))) ?_;cases Z;exact rt [] []
def ymf:MS (Timetable×Fleet×(List (List Int))) ((List Int)):=⟨.x .r (.x .r .r),fun x=>zq31 x.1 x.2.1 x.2.2,fun _=>.own 0,fun y=>[arO 3 y],fun _ _=>[]⟩
theorem yp1:FnOK Tryz.prog tJ 58 ymf.S:=by
 refine fm tt ymf [fo yfr,fo yjq,fo yp4] call58 func58 rfl results58 ntmps58 ?_;rintro⟨t,f,p⟩ y cx G (Z:zq31 t f p=some y);unfold zq31 at Z;refine rg G (rg G (jab (rg G (tl Z (fun E=>⟨[(7,.own 16)],[aX 16 3 E],48⟩) (fun E Z=>?_) ?_))))
 ·refine jaa (lpP Z (fun(v,b)=>⟨[(2,dV p),(3,.ref 16 0),(4,.ref 32 0),(7,.own 48),(8,dV v)],[bX 16 30 [dV t.Network.Stops,dV t.Network.Lines,dV t.Trips],bX 32 33 [dV f.Dead,dV f.Turn],aX 48 3 b],80⟩) (Wk_J G.hL ⟨[(2,[]),(3,[]),(4,[]),(7,[.o 48]),(8,[])],[(16,16,[]),(32,32,[])],[(48,3,1,[])],80⟩ (by kernel_rfl)) ?_);rintro⟨v,b⟩ q hb Z;rw[yjy]at Z;refine jab (rs G (hN 2 p h0) ?_);refine cd Z ?_ ?_<;>intro Z
  ·refine jae (thN (jab (jaa ?_)));obtain⟨l,m,r,n,Z⟩:=ob2 Z;refine ds G [] (hD 3 m (hD 7 n h0)) ?_;obtain⟨u,a,w,d,x,e,Z⟩:=ob3 Z;obtain⟨z,g,A,h,B,i,Z⟩:=ob3 Z;obtain⟨C,j,D,k,Z⟩:=ob2 Z;refine de G [(28,[48,752])] (hC 3 (ycq.c (_,_) a) (hC 7 (ycq.c (_,_) d) (hN 15 l (hD 17 e (hC 19 (ydr.c (_,_) g) (hD 22 h (hC 24 (ydr.c (_,_) i) (hC 25 (ymg.c (_,_,_,_) j) (hA 28 8 k h0))))))))) ?_;exact ibN (thN (rh G (wL G Z)))
  ·exact jag (thE (thE (ibE (wD G Z hb))))
 rintro E Z s F;refine thN (jai F ?_);refine rg G ?_;cases Z;exact rt [16] []
end
end Go.Proofs.YtimecodbnhcnoaaGreat
