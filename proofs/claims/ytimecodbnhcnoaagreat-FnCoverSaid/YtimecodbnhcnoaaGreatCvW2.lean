/- Each function computes what its model says. Made by program (dec.py). -/
import Derived.Test.YtimecodbnhcnoaaGreatCvW1
namespace Go.Proofs.YtimecodbnhcnoaaGreat
open Go Go.Ab Tryz
set_option maxRecDepth 100000
set_option maxHeartbeats 4000000
set_option linter.unusedVariables false
set_option linter.unusedSimpArgs false
noncomputable section
def ynw:MS ((List bB)×bB) ((List bB)):=⟨⟨[.sl,.ag [.sl]],fun x=>[.sc undef,.agg [.sc undef]],fun x=>[arO 50 x.1,arO 53 x.2.bE],2,0,fun _=>rfl,fun _=>rfl,rfl,(by
  rintro⟨a,b⟩ ⟨b0,c⟩ h hO;have d:a=b0:=Enc.inj _ _ (congrArg (fun l=>D.sl 1 (obL l 0)) hO);have q1:b=c:=Enc.inj _ _ (congrArg D.agg (jbc (congrArg (fun l=>D.sl 1 (obL l 1)) hO) rfl));subst d;subst q1;rfl)⟩,fun x=>zq91 x.1 x.2,fun _=>.own 0,fun y=>[arO 50 y],fun _ _=>[]⟩
theorem yxm:FnOK Tryz.prog tJ 51 ynw.S:=by
 refine fm tt ynw [] call51 func51 rfl results51 ntmps51 ?_;rintro⟨p,d⟩ y cx G (Z:zq91 p d=some y);unfold zq91 at Z;refine rg G (rs G (hN 1 p h0) ?_);refine jn Z (fun c=>⟨[(0,.own 16),(1,.aggv [.own 32]),(3,.ref 48 0),(5,dV c)],[aX 16 50 p,aX 32 53 d.bE,bX 48 50 [.own 32]],80⟩) (fun c Z=>?_) ?_
 ·refine jaa (lp G Z (fun v=>⟨[(0,.own 16),(1,.aggv [.own 32]),(3,.ref 48 0),(5,dV v)],[aX 16 50 p,aX 32 53 d.bE,bX 48 50 [.own 32]],80⟩) ?_);rintro v r hb Z;rw[yk1]at Z;refine jab (jn Z (fun f=>⟨[(0,.own 16),(1,.aggv [.own 32]),(3,.ref 48 0),(5,dV v),(28,dV f)],[aX 16 50 p,aX 32 53 d.bE,bX 48 50 [.own 32]],80⟩) (fun f Z=>?_) ?_)
  ·rcases bf Z with⟨a,Z⟩|⟨a,Z⟩
   ·obtain⟨s,l,t,n,u,o,Z⟩:=ob3 Z;obtain⟨w,m,x,q,Z⟩:=ob2 Z;refine de G [] (hO 2 (.b true) (hP a (hD 6 l (hE 8 l (hD 9 n (hD 11 o (hD 15 m (hE 16 m (hD 17 q h0))))))))) ?_;exact wJ G Z
   ·refine de G [] (hO 2 (.b false) (hP a h0)) ?_;exact wJ G Z
  rintro f Z;refine cd Z ?_ ?_<;>intro Z
  ·exact jae (thN (jaa (rh G (ibN (wL G Z)))))
  ·exact jag (thE (thE (ibE (wD G Z hb))))
 rintro c Z;refine jah (Wk_J (x':=(⟨[(0,dV p),(1,.aggv [.own 16]),(3,.ref 32 0),(5,dV c)],[aX 16 53 d.bE,bX 32 50 [.own 16]],64⟩:X)) G.hL ⟨[(0,[]),(1,[]),(3,[]),(5,[])],[(16,32,[]),(32,48,[])],[],64⟩ (by kernel_rfl)) ?_;refine jah (Wk_J (x':=(⟨[(0,dV p),(1,.dat (.agg [Enc.e d.bE])),(3,.ref 16 0),(5,dV c)],[jT 16 d],48⟩:X)) G.hL ⟨[(0,[]),(1,[]),(3,[]),(5,[])],[(16,32,[])],[],48⟩ (by kernel_rfl)) ?_;obtain⟨z,g,A,h,B,i,Z⟩:=ob3 Z;obtain⟨C,j,D,k,Z⟩:=ob2 Z;refine ds G [(0,[]),(3,[]),(4,[48]),(6,[]),(7,[112,144]),(10,[]),(11,[160])] (hU 3 g (hA 4 24 h (hA 7 24 i (hV 10 j (hA 11 24 k h0))))) ?_;cases Z;exact rt [224] []
def yro:MS (bA×bL×(List (List Int))×cB) ((List bB)×Int×Int×Bool):=⟨.x .r (.x .r (.x .r .r)),fun x=>zq81 x.1 x.2.1 x.2.2.1 x.2.2.2,fun y=>.tup [.own 0,dV y.2.1,dV y.2.2.1,dV y.2.2.2],fun y=>[arO 50 y.1],fun _ _=>[]⟩
theorem yxu:FnOK Tryz.prog tJ 21 yro.S:=by
 refine fm tt yro [fo yxs,fo yxr,fo yk3,fo yxo,fo yo6,fo yxm,fo ye2] call21 func21 rfl results21 ntmps21 ?_;rintro⟨t,f,p,r⟩ y cx G (Z:zq81 t f p r=some y);unfold zq81 at Z;refine rg G (rg G (jab (rg G (tl Z (fun(J,i)=>⟨[(2,dV p),(4,.ref 16 0),(5,.ref 32 0),(7,.ref 48 0),(12,dV J),(13,dV i)],[cu 16 t,dI 32 f,eu 48 r],80⟩) (fun N Z=>?_) ?_))))
 ·refine jaa (lp G Z (fun(out,x,F)=>⟨[(2,dV p),(4,.ref 16 0),(5,.ref 32 0),(7,.ref 48 0),(12,dV out),(13,dV x),(14,dV F)],[cu 16 t,dI 32 f,eu 48 r],80⟩) ?_);rintro⟨out,x,F⟩ O hb Z;rw[yg5]at Z;refine jab ?_;obtain⟨u,h,Z⟩:=jaf Z;refine rs G (hN 3 t.bn (hK h h0)) ?_;refine cd Z ?_ ?_<;>intro Z
  ·refine jae (thN (jn Z (fun(P,K)=>⟨[(2,dV p),(4,.ref 16 0),(5,.ref 32 0),(7,.ref 48 0),(12,dV P),(13,dV K),(14,dV F)],[cu 16 t,dI 32 f,eu 48 r],80⟩) (fun vv Z=>?_) ?_))
   ·refine jaa (jab ?_);obtain⟨r1,Q,Z⟩:=jaf Z;refine rs G (hC 3 (yrm.c (_,_,_) Q) h0) ?_;refine cd Z ?_ ?_<;>intro Z
    ·exact jag (thE (ibE (wJ G Z)))
    ·refine jae (thN ?_);obtain⟨r2,R,T,U,Z⟩:=ob2 Z;refine rs G (hC 5 (yn1.c (_,_,_,_,_) R) (hC 6 (yw5 U) h0)) ?_;refine jn Z (fun v=>⟨[(2,dV p),(4,.ref 16 0),(5,.ref 32 0),(7,.ref 48 0),(12,dV out),(13,dV x),(14,dV F),(15,dV T.1),(51,dV v)],[cu 16 t,dI 32 f,eu 48 r],80⟩) (fun v Z=>?_) ?_
     ·rcases bf Z with⟨d,Z⟩|⟨d,Z⟩
      ·rcases bf Z with⟨g,Z⟩|⟨g,Z⟩
       ·refine re G (hO 2 (.b true) (hP d (hO 5 (.b true) (hP g h0)))) ?_;exact wJ G Z
       ·refine re G (hO 2 (.b true) (hP d (hO 5 (.b false) (hP g h0)))) ?_;exact wJ G Z
      ·refine re G (hO 2 (.b false) (hP d h0)) ?_;exact wJ G Z
     rintro v Z;refine cd Z ?_ ?_<;>intro Z
     ·exact rg G (rh G (ibN (wJ G Z)))
     ·exact jae (ibN (wJ G Z))
   rintro⟨P,K⟩ Z;exact rh G (wL G Z)
  ·exact jag (thE (thE (ibE (wD G Z hb))))
 rintro⟨J,i⟩ Z s hw;refine thN (jah hw ?_);refine rg G (jab (rg G (cd Z ?_ ?_)))<;>intro Z
 ·refine rg G ?_;cases Z;exact rt [80] []
 ·refine jae (thN ?_);obtain⟨r4,V,Z⟩:=jaf Z;refine rs G (hC 5 (yn1.c (_,_,_,_,_) V) h0) ?_;obtain⟨a,W,Z⟩:=jaf Z;refine rs G (hO 1 (.fz [225] [] []) (hC 1 (yrk.c _ W) h0)) ?_;refine jab (rg G (tl Z (fun k=>⟨[(12,dV J),(13,dV i),(16,.own 16)],[aX 16 50 k],48⟩) (fun k Z=>?_) ?_))
  ·refine jaa (lp G Z (fun(l,L)=>⟨[(12,dV J),(13,dV i),(16,.own 16),(17,.ref 32 0),(18,.own 48),(19,dV l)],[aX 16 50 L,bX 32 95 [dV a.2.bP,dV a.2.gQ,dV a.2.dF,dV a.2.iB,.own 64],aX 48 3 a.1,aX 64 3 a.2.iG],96⟩) ?_);rintro⟨l,L⟩ O m Z;rw[yg4]at Z;refine jab (rs G (hN 2 a.1 h0) ?_);refine cd Z ?_ ?_<;>intro Z
   ·refine jae (thN (jn Z (fun n=>⟨[(12,dV J),(13,dV i),(16,.own 16),(17,.ref 32 0),(18,.own 48),(19,dV l)],[aX 16 50 n,bX 32 95 [dV a.2.bP,dV a.2.gQ,dV a.2.dF,dV a.2.iB,.own 64],aX 48 3 a.1,aX 64 3 a.2.iG],96⟩) (fun n Z=>?_) ?_))
    ·refine jaa (jaa ?_);obtain⟨e,M,Z⟩:=jaf Z;refine rs G (hD 2 M (hE 3 M (hN 5 a.1 h0))) ?_;refine cd Z ?_ ?_<;>intro Z
     ·obtain⟨e4,o,r9,q,e5,j,Z⟩:=ob3 Z;obtain⟨e6,w,X,z,Y,A,Z⟩:=ob3 Z;refine de G [(20,[]),(22,[16,608])] (hD 6 o (hC 8 (yfv q) (hD 15 j (hE 16 j (hD 17 w (hC 19 (yfv z) (hC 22 (ynw.c (_,_) A) h0))))))) ?_;exact ibN (ibN (wJ G Z))
     ·obtain⟨aa,B,Z⟩:=jaf Z;refine rs G (hC 2 (ycj.c (_,_) B) h0) ?_;refine cd Z ?_ ?_<;>intro Z
      ·obtain⟨e7,C,ab,D,ac,E,Z⟩:=ob3 Z;refine re G (hD 6 C (hC 8 (yfv D) (hC 11 (ynw.c (_,_) E) h0))) ?_;exact ibN (ibN (wJ G Z))
      ·exact jae (ibN (ibN (wJ G Z)))
    rintro n Z;exact rh G (wL G Z)
   ·exact jag (thE (thE (ibE (wD G Z m))))
  rintro k Z s1 H;refine thN (jah H ?_);obtain⟨u1,I,Z⟩:=jaf Z;refine rs G (hK I h0) ?_;cases Z;exact rt [16] []
def yrc:MS (bM×bA×bL×(List (List Int))×cB) ((List bB)×bM):=⟨.x (.b 58) (.x .r (.x .r (.x .r .r))),fun x=>zq96 x.1 x.2.1 x.2.2.1 x.2.2.2.1 x.2.2.2.2,fun _=>.own 0,fun y=>[arO 50 y.1],fun _ y=>[bxO 58 y.2]⟩
theorem yxj:FnOK Tryz.prog tJ 29 yrc.S:=by
 refine fm tt yrc [fo yrw,fo yxh,fo yxu,fo yb7,fo ya7] call29 func29 rfl results29 ntmps29 ?_;rintro⟨c,t,f,p,r⟩ y cx G (Z:zq96 c t f p r=some y);unfold zq96 at Z;refine rg G (jab ?_);obtain⟨I,h,Z⟩:=jaf Z;refine jn Z (fun v=>⟨[(0,.ref 0 0),(3,dV p),(6,.ref 32 0),(7,.ref 48 0),(9,.ref 64 0),(27,dV v)],[bX 0 58 [dV c.dH,dV c.at_,kV .u64 c.dL.v],cu 32 t,dI 48 f,eu 64 r],96⟩) (fun v Z=>?_) ?_
 ·rcases bf Z with⟨hb,Z⟩|⟨hb,Z⟩
  ·refine re G (hC 4 (yjo.c (_,_,_,_) h) (hO 6 (.b true) (hP hb h0))) ?_;exact wJ G Z
  ·refine re G (hC 4 (yjo.c (_,_,_,_) h) (hO 6 (.b false) (hP hb (hN 9 t.bn h0)))) ?_;exact wJ G Z
 rintro v Z;refine cd Z ?_ ?_<;>intro Z
 ·obtain⟨K,w,Z⟩:=jaf Z;refine rs G (hC 3 (ynv.c (_,_,_) w) (hO 4 (.fz [144] [] []) h0)) ?_;cases Z;exact rt [160] []
 ·refine jae (thN ?_);obtain⟨d,x,Z⟩:=jaf Z;refine rs G (hC 4 (yro.c (_,_,_,_) x) h0) ?_;refine jn Z (fun(g,i,j,k)=>⟨[(0,.ref 0 0),(11,.own 32)],[bX 0 58 [dV g,dV i,kV .u64 j],aX 32 50 k],64⟩) (fun z Z=>?_) ?_
  ·refine jn Z (fun(l,m,n,o)=>⟨[(0,.ref 0 0),(3,dV p),(6,.ref 32 0),(11,.own 48),(49,dV l)],[bX 0 58 [dV m,dV n,kV .u64 o],cu 32 t,aX 48 50 d.1],80⟩) (fun F Z=>?_) ?_
   ·rcases bf Z with⟨a,Z⟩|⟨a,Z⟩
    ·obtain⟨L,A,Z⟩:=jaf Z;refine re G (hN 1 d.1 (hO 3 (.b true) (hP a (hC 5 (yck A) h0)))) ?_;exact wJ G Z
    ·refine re G (hN 1 d.1 (hO 3 (.b false) (hP a h0))) ?_;exact wJ G Z
   rintro⟨l,m,n,o⟩ Z;refine cd Z ?_ ?_<;>intro Z
   ·obtain⟨M,B,Z⟩:=jaf Z;refine rs G (hN 2 d.1 (hC 3 (yav B) h0)) ?_;obtain⟨N,C,Z⟩:=jaf Z;refine rs G (hC 1 (yck C) h0) ?_;refine cd Z ?_ ?_<;>intro Z
    ·obtain⟨e,q,u,D,Z⟩:=ob2 Z;refine re G (hD 3 q (hE 4 q (hA 6 24 D h0))) ?_;exact wJ G Z
    ·obtain⟨E,H,O,s,Z⟩:=ob2 Z;refine re G (hC 5 (ynv.c (_,_,_) H) (hD 6 s (hO 7 (.fz [272] [] []) (hS 7 s E.1 h0)))) ?_;exact wJ G Z
   ·exact jae (wJ G Z)
  rintro⟨g,i,j,k⟩ Z;refine rg G ?_;cases Z;exact rt [32] []
def yr5:MS (List UInt8) (bA×bL×(List (List Int))×cB×(List bB)):=⟨.r,zq58,fun y=>.tup [dV y.1,dV y.2.1,dV y.2.2.1,dV y.2.2.2.1,.own 0],fun y=>[arO 50 y.2.2.2.2],fun _ _=>[]⟩
theorem yya:FnOK Tryz.prog tJ 14 yr5.S:=by
 refine fm tt yr5 [fo yxi,fo yxj] call14 func14 rfl results14 ntmps14 ?_;rintro d y cx G (Z:zq58 d=some y);unfold zq58 at Z;refine rg G (rg G ?_);obtain⟨r,h,Z⟩:=jaf Z;refine rs G (hC 1 (yrb.c _ h) h0) ?_;obtain⟨b,a,Z⟩:=jaf Z;refine ds G [(9,[128]),(10,[16]),(11,[32]),(13,[64])] (hC 9 (yrc.c (_,_,_,_,_) a) h0) ?_;cases Z;exact rt [528] []
def yoa:MS (Int×Int×Int) Bool:=⟨.x .r (.x .r .r),fun x=>zq55 x.1 x.2.1 x.2.2,fun y=>dV y,fun _=>[],fun _ _=>[]⟩
theorem ybr{n lo hi y}(Z:zq55 n lo hi=some y):yoa.C (n,lo,hi) y:=yoa.c (n,lo,hi) Z
theorem ydn:FnOK Tryz.prog tJ 78 yoa.S:=by
 refine fm tt yoa [] call78 func78 rfl results78 ntmps78 ?_;rintro⟨n,lo,hi⟩ y cx G (Z:zq55 n lo hi=some y);unfold zq55 at Z;refine rg G (jn Z (fun v=>⟨[(6,dV v)],[],32⟩) (fun v Z=>?_) ?_)
 ·rcases bf Z with⟨hb,Z⟩|⟨hb,Z⟩
  ·refine re G (hO 3 (.b true) (hP hb h0)) ?_;exact wJ G Z
  ·refine re G (hO 3 (.b false) (hP hb h0)) ?_;exact wJ G Z
 rintro v Z;cases Z;exact rt [] []
def yoj:MS ByteArray Bool:=mR zq36
theorem KP:FnOK Tryz.prog tJ 180 yoj.S:=by
 refine fm tt yoj [] call180 func180 rfl results180 ntmps180 ?_;rintro s y cx G (Z:zq36 s=some y);unfold zq36 at Z;refine rg G (jab (jn Z (fun v=>⟨[(0,dV s),(12,dV v)],[],32⟩) (fun v Z=>?_) ?_))
 ·rcases bf Z with⟨hb,Z⟩|⟨hb,Z⟩
  ·refine re G (hO 3 (.b true) (hP hb h0)) ?_;exact wJ G Z
  ·refine re G (hO 3 (.b false) (hP hb h0)) ?_;exact wJ G Z
 rintro v Z;refine cd Z ?_ ?_<;>intro Z
 ·refine rg G ?_;cases Z;exact rt [] []
 ·refine jae (thN (jab (rg G (tF Z (fun _=>⟨[],[],32⟩) (fun n p Z=>?_) ?_))))
  ·refine jaa (lp G Z (fun f=>⟨[(0,dV s),(14,dV (s.size:Int)),(15,dV f)],[],32⟩) ?_);rintro f o g Z;rw[yfk]at Z;refine rg G (jab (cd Z ?_ ?_))<;>intro Z
   ·refine jae (thN (jab (jaa (rg G ?_))));obtain⟨u,h,Z⟩:=jaf Z;refine jn Z (fun i=>⟨[(0,dV s),(3,dV f),(4,dV i),(14,dV (s.size:Int)),(15,dV f)],[],32⟩) (fun i Z=>?_) ?_
    ·rcases bf Z with⟨d,Z⟩|⟨d,Z⟩
     ·obtain⟨q,l,Z⟩:=jaf Z;refine re G (hK h (hO 4 (.b true) (hP d (hK l h0)))) ?_;exact wJ G Z
     ·refine re G (hK h (hO 4 (.b false) (hP d h0))) ?_;exact wJ G Z
    rintro i Z;refine jn Z (fun j=>⟨[(0,dV s),(14,dV (s.size:Int)),(15,dV f),(45,dV j)],[],32⟩) (fun j Z=>?_) ?_
    ·rcases bf Z with⟨a,Z⟩|⟨a,Z⟩
     ·rcases bf Z with⟨c,Z⟩|⟨c,Z⟩
      ·refine re G (hO 2 (.b true) (hP a (hO 5 (.b true) (hP c h0)))) ?_;exact wJ G Z
      ·obtain⟨r,k,Z⟩:=jaf Z;rcases bf Z with⟨e,Z⟩|⟨e,Z⟩
       ·refine re G (hO 2 (.b true) (hP a (hO 5 (.b false) (hP c (hK k (hO 11 (.b true) (hP e h0))))))) ?_;exact wJ G Z
       ·obtain⟨t,m,Z⟩:=jaf Z;refine re G (hO 2 (.b true) (hP a (hO 5 (.b false) (hP c (hK k (hO 11 (.b false) (hP e (hK m h0)))))))) ?_;exact wJ G Z
     ·refine re G (hO 2 (.b false) (hP a h0)) ?_;exact wJ G Z
    rintro j Z;refine cd Z ?_ ?_<;>intro Z
    ·refine rg G ?_;have Z:=eL Z g p;cases Z;exact rt [] []
    ·exact jae (ibN (thN (rh G (wL G Z))))
   ·exact jag (thE (thE (ibE (wE G Z g))))
  rintro⟨⟩ Z w x;refine thN (jah x ?_);refine rg G ?_;cases Z;exact rt [] []
def ymn:MS ((List ByteArray)×ByteArray) Int:=mS yqf
theorem yvp:FnOK Tryz.prog tJ 181 ymn.S:=by
 refine fm tt ymn [] call181 func181 rfl results181 ntmps181 ?_;rintro⟨s,v⟩ y cx G (Z:yqf s v=some y);unfold yqf at Z;refine rg G (jab (rs G (hN 1 s h0) ?_));refine tF Z (fun _=>⟨[],[],32⟩) (fun b f Z=>?_) ?_
 ·refine jaa (lp G Z (fun a=>⟨[(0,dV s),(1,dV v),(7,dV (s.length:Int)),(8,dV a)],[],32⟩) ?_);rintro a c hb Z;rw[yep]at Z;refine rg G (jab (cd Z ?_ ?_))<;>intro Z
  ·refine jae (thN (jab (jaa (rg G ?_))));obtain⟨e,h,Z⟩:=jaf Z;refine rs G (hD 3 h h0) ?_;refine cd Z ?_ ?_<;>intro Z
   ·refine rg G ?_;have Z:=eL Z hb f;cases Z;exact rt [] []
   ·exact jae (ibN (thN (rh G (wL G Z))))
  ·exact jag (thE (thE (ibE (wE G Z hb))))
 rintro⟨⟩ Z d g;refine thN (jah g ?_);refine rg G ?_;cases Z;exact rt [] []
def yjv:MS (List ByteArray) Bool:=mR zq13
theorem KT:FnOK Tryz.prog tJ 166 yjv.S:=by
 refine fm tt yjv [fo KP,fo yvp] call166 func166 rfl results166 ntmps166 ?_;rintro names y cx G (Z:zq13 names=some y);unfold zq13 at Z;refine rg G (jab (rs G (hN 1 names h0) ?_));refine tF Z (fun _=>⟨[],[],32⟩) (fun i l Z=>?_) ?_
 ·refine jaa (lp G Z (fun v=>⟨[(0,dV names),(5,dV names),(6,dV (names.length:Int)),(7,dV v)],[],32⟩) ?_);rintro v j hb Z;rw[yh0]at Z;refine rg G (jab (cd Z ?_ ?_))<;>intro Z
  ·refine jae (thN (jab (jaa ?_)));obtain⟨e,h,Z⟩:=jaf Z;refine rs G (hD 1 h h0) ?_;obtain⟨r,f,Z⟩:=jaf Z;refine jn Z (fun d=>⟨[(0,dV names),(5,dV names),(6,dV (names.length:Int)),(7,dV v),(21,dV d)],[],32⟩) (fun d Z=>?_) ?_
   ·rcases bf Z with⟨a,Z⟩|⟨a,Z⟩
    ·refine re G (hC 1 (yoj.c _ f) (hO 3 (.b true) (hP a h0))) ?_;exact wJ G Z
    ·obtain⟨k,g,Z⟩:=jaf Z;refine re G (hC 1 (yoj.c _ f) (hO 3 (.b false) (hP a (hC 6 (ymn.c (_,_) g) h0)))) ?_;exact wJ G Z
   rintro d Z;refine cd Z ?_ ?_<;>intro Z
   ·refine rg G ?_;have Z:=eL Z hb l;cases Z;exact rt [] []
   ·exact jae (ibN (thN (rh G (wL G Z))))
  ·exact jag (thE (thE (ibE (wE G Z hb))))
 rintro⟨⟩ Z s m;refine thN (jah m ?_);refine rg G ?_;cases Z;exact rt [] []
def ysc:MS bC (List ByteArray):=⟨.r,zq43,fun _=>.own 0,fun y=>[arO 9 y],fun _ _=>[]⟩
theorem yyh:FnOK Tryz.prog tJ 167 ysc.S:=by
 refine fm tt ysc [] call167 func167 rfl results167 ntmps167 ?_;rintro n y cx G (Z:zq43 n=some y);unfold zq43 at Z;refine rg G ?_;obtain⟨u,h,Z⟩:=jaf Z;refine rs G (hN 2 n.bG (hO 3 (.l (List.map Enc.e (List.replicate (n.bG.length:Int).toNat (ByteArray.empty:ByteArray)))) (hP (mk_p (b:=16) (ku h) rfl) (hP (jma Enc.e (n.bG.length:Int).toNat (ByteArray.empty:ByteArray)) h0)))) ?_;refine jab (rs G (hN 2 n.bG h0) ?_);refine tl Z (fun a=>⟨[(3,.own 16)],[aX 16 9 a],48⟩) (fun a Z=>?_) ?_
 ·refine jaa (lp G Z (fun(v,i)=>⟨[(3,.own 16),(11,dV n.bG),(12,dV (n.bG.length:Int)),(13,dV v)],[aX 16 9 i],48⟩) ?_);rintro⟨v,i⟩ f hb Z;rw[yhh]at Z;refine rg G (jab (cd Z ?_ ?_))<;>intro Z
  ·refine jae (thN (jab (jaa ?_)));obtain⟨e,d,Z⟩:=jaf Z;refine rs G (hD 1 d h0) ?_;obtain⟨g,c,Z⟩:=jaf Z;refine re G (hD 4 c (hS 5 c e.eH h0)) ?_;exact ibN (thN (rh G (wL G Z)))
  ·exact jag (thE (thE (ibE (wD G Z hb))))
 rintro a Z s j;refine thN (jah j ?_);refine rg G ?_;cases Z;exact rt [16] []
def yoh:MS (bC×Int) Bool:=mS zq39
theorem yyl:FnOK Tryz.prog tJ 182 yoh.S:=by
 refine fm tt yoh [] call182 func182 rfl results182 ntmps182 ?_;rintro⟨n,a⟩ y cx G (Z:zq39 n a=some y);unfold zq39 at Z;refine rg G (jn Z (fun v=>⟨[(4,dV v)],[],32⟩) (fun v Z=>?_) ?_)
 ·rcases bf Z with⟨hb,Z⟩|⟨hb,Z⟩
  ·refine re G (hO 2 (.b true) (hP hb (hN 6 n.bq h0))) ?_;exact wJ G Z
  ·refine re G (hO 2 (.b false) (hP hb h0)) ?_;exact wJ G Z
 rintro v Z;cases Z;exact rt [] []
def yhy:MS ((List Int)×Int) Int:=mS ymo
theorem yov:FnOK Tryz.prog tJ 114 yhy.S:=by
 refine fm tt yhy [] call114 func114 rfl results114 ntmps114 ?_;rintro⟨s,v⟩ y cx G (Z:ymo s v=some y);unfold ymo at Z;refine rg G (jab (rs G (hN 1 s h0) ?_));refine tF Z (fun _=>⟨[],[],32⟩) (fun b f Z=>?_) ?_
 ·refine jaa (lp G Z (fun a=>⟨[(0,dV s),(1,dV v),(7,dV (s.length:Int)),(8,dV a)],[],32⟩) ?_);rintro a c hb Z;rw[yeq]at Z;refine rg G (jab (cd Z ?_ ?_))<;>intro Z
  ·refine jae (thN (jab (jaa (rg G ?_))));obtain⟨e,h,Z⟩:=jaf Z;refine rs G (hD 3 h h0) ?_;refine cd Z ?_ ?_<;>intro Z
   ·refine rg G ?_;have Z:=eL Z hb f;cases Z;exact rt [] []
   ·exact jae (ibN (thN (rh G (wL G Z))))
  ·exact jag (thE (thE (ibE (wE G Z hb))))
 rintro⟨⟩ Z d g;refine thN (jah g ?_);refine rg G ?_;cases Z;exact rt [] []
def ysf:MS (bC×bK) Bool:=mS zq40
theorem yyk:FnOK Tryz.prog tJ 168 ysf.S:=by
 refine fm tt ysf [fo ydn,fo yyl,fo yov] call168 func168 rfl results168 ntmps168 ?_;rintro⟨n,l⟩ y cx G (Z:zq40 n l=some y);unfold zq40 at Z;refine rg G (jab ?_);obtain⟨r,h,Z⟩:=jaf Z;refine jn Z (fun v=>⟨[(2,.ref 16 0),(3,.ref 32 0),(23,dV v)],[iT 16 n,oh 32 l],64⟩) (fun v Z=>?_) ?_
 ·rcases bf Z with⟨hb,Z⟩|⟨hb,Z⟩
  ·refine re G (hN 2 l.bq (hC 3 (ybr h) (hO 5 (.b true) (hP hb h0)))) ?_;exact wJ G Z
  ·refine re G (hN 2 l.bq (hC 3 (ybr h) (hO 5 (.b false) (hP hb (hN 8 l.bY (hN 11 l.bq h0)))))) ?_;exact wJ G Z
 rintro v Z;refine cd Z ?_ ?_<;>intro Z
 ·refine rg G ?_;cases Z;exact rt [] []
 ·refine jae (thN (jab (rs G (hN 2 l.bq h0) ?_)));refine tF Z (fun _=>⟨[(3,.ref 16 0)],[oh 16 l],48⟩) (fun z p Z=>?_) ?_
  ·refine jaa (lp G Z (fun g=>⟨[(2,.ref 16 0),(3,.ref 32 0),(25,dV l.bq),(26,dV (l.bq.length:Int)),(27,dV g)],[iT 16 n,oh 32 l],64⟩) ?_);rintro g q d Z;rw[yhj]at Z;refine rg G (jab (cd Z ?_ ?_))<;>intro Z
   ·refine jae (thN (jab (jaa ?_)));obtain⟨e,t,Z⟩:=jaf Z;refine rs G (hD 1 t h0) ?_;obtain⟨A,m,Z⟩:=jaf Z;refine jn Z (fun i=>⟨[(2,.ref 16 0),(3,.ref 32 0),(25,dV l.bq),(26,dV (l.bq.length:Int)),(27,dV g),(43,dV i)],[iT 16 n,oh 32 l],64⟩) (fun i Z=>?_) ?_
    ·rcases bf Z with⟨a,Z⟩|⟨a,Z⟩
     ·refine re G (hC 2 (yoh.c (_,_) m) (hO 4 (.b true) (hP a h0))) ?_;exact wJ G Z
     ·obtain⟨B,u,Z⟩:=jaf Z;refine re G (hC 2 (yoh.c (_,_) m) (hO 4 (.b false) (hP a (hC 8 (yhy.c (_,_) u) h0)))) ?_;exact wJ G Z
    rintro i Z;refine cd Z ?_ ?_<;>intro Z
    ·refine rg G ?_;have Z:=eL Z d p;cases Z;exact rt [] []
    ·exact jae (ibN (thN (rh G (wL G Z))))
   ·exact jag (thE (thE (ibE (wE G Z d))))
  rintro⟨⟩ Z s F;refine thN (jah F ?_);refine jab (rs G (hN 2 l.bY h0) ?_);refine tF Z (fun _=>⟨[],[],32⟩) (fun C j Z=>?_) ?_
  ·refine jaa (lp G Z (fun o=>⟨[(46,dV l.bY),(47,dV (l.bY.length:Int)),(48,dV o)],[],32⟩) ?_);rintro o q f Z;rw[yhi]at Z;refine rg G (jab (cd Z ?_ ?_))<;>intro Z
   ·refine jae (thN (jab (jaa ?_)));obtain⟨D,w,Z⟩:=jaf Z;refine rs G (hD 0 w h0) ?_;obtain⟨E,x,Z⟩:=jaf Z;refine rs G (hC 1 (ybr x) h0) ?_;refine cd Z ?_ ?_<;>intro Z
    ·refine rg G ?_;have Z:=eL Z f j;cases Z;exact rt [] []
    ·exact jae (ibN (thN (rh G (wL G Z))))
   ·exact jag (thE (thE (ibE (wE G Z f))))
  rintro⟨⟩ Z H k;refine thN (jah k ?_);refine rg G ?_;cases Z;exact rt [] []
def yuy:MS bC Bool:=mR zq8
theorem LD:FnOK Tryz.prog tJ 134 yuy.S:=by
 refine fm tt yuy [fo ydn,fo KT,fo yyh,fo yyk] call134 func134 rfl results134 ntmps134 ?_;rintro n y cx G (Z:zq8 n=some y);unfold zq8 at Z;refine rg G (jab ?_);obtain⟨r,h,Z⟩:=jaf Z;refine jn Z (fun v=>⟨[(1,.ref 16 0),(28,dV v)],[iT 16 n],48⟩) (fun v Z=>?_) ?_
 ·rcases bf Z with⟨hb,Z⟩|⟨hb,Z⟩
  ·refine re G (hN 2 n.bq (hC 3 (ybr h) (hO 5 (.b true) (hP hb h0)))) ?_;exact wJ G Z
  ·obtain⟨q,g,Z⟩:=jaf Z;rcases bf Z with⟨a,Z⟩|⟨a,Z⟩
   ·refine re G (hN 2 n.bq (hC 3 (ybr h) (hO 5 (.b false) (hP hb (hN 8 n.bG (hC 9 (ybr g) (hO 12 (.b true) (hP a h0)))))))) ?_;exact wJ G Z
   ·obtain⟨t,i,Z⟩:=jaf Z;rcases bf Z with⟨d,Z⟩|⟨d,Z⟩
    ·refine re G (hN 2 n.bq (hC 3 (ybr h) (hO 5 (.b false) (hP hb (hN 8 n.bG (hC 9 (ybr g) (hO 12 (.b false) (hP a (hC 15 (yjv.c _ i) (hO 18 (.b true) (hP d h0))))))))))) ?_;exact wJ G Z
    ·obtain⟨u,k,w,l,Z⟩:=ob2 Z;refine re G (hN 2 n.bq (hC 3 (ybr h) (hO 5 (.b false) (hP hb (hN 8 n.bG (hC 9 (ybr g) (hO 12 (.b false) (hP a (hC 15 (yjv.c _ i) (hO 18 (.b false) (hP d (hC 20 (ysc.c _ k) (hC 21 (yjv.c _ l) h0))))))))))))) ?_;exact wJ G Z
 rintro v Z;refine cd Z ?_ ?_<;>intro Z
 ·refine rg G ?_;cases Z;exact rt [] []
 ·refine jae (thN (jab (rs G (hN 2 n.bG h0) ?_)));refine tF Z (fun _=>⟨[],[],32⟩) (fun x p Z=>?_) ?_
  ·refine jaa (lp G Z (fun j=>⟨[(1,.ref 16 0),(30,dV n.bG),(31,dV (n.bG.length:Int)),(32,dV j)],[iT 16 n],48⟩) ?_);rintro j z f Z;rw[yny]at Z;refine rg G (jab (cd Z ?_ ?_))<;>intro Z
   ·refine jae (thN (jab (jaa ?_)));obtain⟨e,m,Z⟩:=jaf Z;refine rs G (hD 0 m h0) ?_;obtain⟨A,o,Z⟩:=jaf Z;refine rs G (hC 2 (ysf.c (_,_) o) h0) ?_;refine cd Z ?_ ?_<;>intro Z
    ·refine rg G ?_;have Z:=eL Z f p;cases Z;exact rt [] []
    ·exact jae (ibN (thN (rh G (wL G Z))))
   ·exact jag (thE (thE (ibE (wE G Z f))))
  rintro⟨⟩ Z s B;refine thN (jah B ?_);refine rg G ?_;cases Z;exact rt [] []
def yok:MS (bC×Int) Bool:=mS zq35
theorem ysh{n line y}(Z:zq35 n line=some y):yok.C (n,line) y:=yok.c (n,line) Z
theorem KO:FnOK Tryz.prog tJ 169 yok.S:=by
 refine fm tt yok [] call169 func169 rfl results169 ntmps169 ?_;rintro⟨n,a⟩ y cx G (Z:zq35 n a=some y);unfold zq35 at Z;refine rg G (jn Z (fun v=>⟨[(4,dV v)],[],32⟩) (fun v Z=>?_) ?_)
 ·rcases bf Z with⟨hb,Z⟩|⟨hb,Z⟩
  ·refine re G (hO 2 (.b true) (hP hb (hN 6 n.bG h0))) ?_;exact wJ G Z
  ·refine re G (hO 2 (.b false) (hP hb h0)) ?_;exact wJ G Z
 rintro v Z;cases Z;exact rt [] []
def ypb:MS Int Bool:=mR zq10
theorem yta{t y}(Z:zq10 t=some y):ypb.C t y:=ypb.c t Z
theorem Km:FnOK Tryz.prog tJ 170 ypb.S:=by
 refine fm tt ypb [fo ydn] call170 func170 rfl results170 ntmps170 ?_;rintro t y cx G (Z:zq10 t=some y);unfold zq10 at Z;refine rg G ?_;obtain⟨r,h,Z⟩:=jaf Z;refine rs G (hC 1 (ybr h) h0) ?_;cases Z;exact rt [] []
def yob:MS (List Int) Int:=mR zq51
theorem Lv{list y}(Z:zq51 list=some y):yob.C list y:=yob.c list Z
theorem yyd:FnOK Tryz.prog tJ 102 yob.S:=by
 refine fm tt yob [] call102 func102 rfl results102 ntmps102 ?_;rintro d y cx G (Z:zq51 d=some y);unfold zq51 at Z;refine rg G (rg G (jab (rs G (hN 1 d h0) ?_)));refine tl Z (fun a=>⟨[(3,dV a)],[],32⟩) (fun a Z=>?_) ?_
 ·refine jaa (lp G Z (fun(v,b)=>⟨[(3,dV v),(6,dV d),(7,dV (d.length:Int)),(8,dV b)],[],32⟩) ?_);rintro⟨v,b⟩ c hb Z;rw[yhf]at Z;refine rg G (jab (cd Z ?_ ?_))<;>intro Z
  ·refine jae (thN (jab (jaa ?_)));obtain⟨e,h,Z⟩:=jaf Z;refine rs G (hD 0 h h0) ?_;exact rh G (ibN (thN (rh G (wL G Z))))
  ·exact jag (thE (thE (ibE (wD G Z hb))))
 rintro a Z s f;refine thN (jah f ?_);refine rg G ?_;cases Z;exact rt [] []
def yjr:MS (bA×cZ) Int:=mS zq27
theorem ylu:FnOK Tryz.prog tJ 59 yjr.S:=by
 refine fm tt yjr [fo yyd] call59 func59 rfl results59 ntmps59 ?_;rintro⟨t,x⟩ y cx G (Z:zq27 t x=some y);unfold zq27 at Z;refine rg G ?_;obtain⟨c,a,d,b,Z⟩:=ob2 Z;refine ds G [] (hD 7 a (hC 10 (Lv b) h0)) ?_;cases Z;exact rt [] []
def ys2:MS bA Bool:=mR zq15
theorem KW:FnOK Tryz.prog tJ 135 ys2.S:=by
 refine fm tt ys2 [fo KO,fo Km,fo ylu] call135 func135 rfl results135 ntmps135 ?_;rintro t y cx G (Z:zq15 t=some y);unfold zq15 at Z;refine rg G (jab (rs G (hN 2 t.bn h0) ?_));refine cd Z ?_ ?_<;>intro Z
 ·refine rg G ?_;cases Z;exact rt [] []
 ·refine jae (thN (rg G (jab (rs G (hN 2 t.bn h0) ?_))));refine tF Z (fun _=>⟨[],[],32⟩) (fun o p Z=>?_) ?_
  ·refine jaa (lp G Z (fun(v,i)=>⟨[(1,.ref 16 0),(3,dV v),(11,dV t.bn),(12,dV (t.bn.length:Int)),(13,dV i)],[cu 16 t],48⟩) ?_);rintro⟨v,i⟩ q hb Z;rw[ymb]at Z;refine rg G (jab (cd Z ?_ ?_))<;>intro Z
   ·refine jae (thN (jab (jaa ?_)));obtain⟨e,h,Z⟩:=jaf Z;refine rs G (hD 0 h h0) ?_;refine jab (jn Z (fun j=>⟨[(1,.ref 16 0),(5,.ref 32 0),(11,dV t.bn),(12,dV (t.bn.length:Int)),(13,dV i),(46,dV j)],[cu 16 t,bX 32 106 [dV e.Id,dV e.bK,dV e.d9]],64⟩) (fun j Z=>?_) ?_)
    ·rcases bf Z with⟨a,Z⟩|⟨a,Z⟩
     ·refine re G (hO 4 (.b true) (hP a h0)) ?_;exact wJ G Z
     ·rcases bf Z with⟨d,Z⟩|⟨d,Z⟩
      ·refine re G (hO 4 (.b false) (hP a (hO 9 (.b true) (hP d h0)))) ?_;exact wJ G Z
      ·obtain⟨r,k,Z⟩:=jaf Z;rcases bf Z with⟨f,Z⟩|⟨f,Z⟩
       ·refine re G (hO 4 (.b false) (hP a (hO 9 (.b false) (hP d (hC 14 (ysh k) (hO 17 (.b true) (hP f h0))))))) ?_;exact wJ G Z
       ·obtain⟨u,l,Z⟩:=jaf Z;rcases bf Z with⟨g,Z⟩|⟨g,Z⟩
        ·refine re G (hO 4 (.b false) (hP a (hO 9 (.b false) (hP d (hC 14 (ysh k) (hO 17 (.b false) (hP f (hC 20 (yta l) (hO 23 (.b true) (hP g h0)))))))))) ?_;exact wJ G Z
        ·obtain⟨w,m,x,n,Z⟩:=ob2 Z;refine re G (hO 4 (.b false) (hP a (hO 9 (.b false) (hP d (hC 14 (ysh k) (hO 17 (.b false) (hP f (hC 20 (yta l) (hO 23 (.b false) (hP g (hC 26 (yjr.c (_,_) m) (hC 27 (yta n) h0)))))))))))) ?_;exact wJ G Z
    rintro j Z;refine cd Z ?_ ?_<;>intro Z
    ·refine rg G ?_;have Z:=eL Z hb p;cases Z;exact rt [] []
    ·exact jae (thN (rh G (ibN (thN (rh G (wL G Z))))))
   ·exact jag (thE (thE (ibE (wE G Z hb))))
  rintro⟨⟩ Z s z;refine thN (jah z ?_);refine rg G ?_;cases Z;exact rt [] []
def yo5:MS bA Bool:=mR zq11
theorem Kn:FnOK Tryz.prog tJ 103 yo5.S:=by
 refine fm tt yo5 [fo LD,fo KW] call103 func103 rfl results103 ntmps103 ?_;rintro t y cx G (Z:zq11 t=some y);unfold zq11 at Z;refine rg G ?_;obtain⟨r,h,Z⟩:=jaf Z;refine jn Z (fun v=>⟨[(2,dV v)],[],32⟩) (fun v Z=>?_) ?_
 ·rcases bf Z with⟨hb,Z⟩|⟨hb,Z⟩
  ·obtain⟨d,a,Z⟩:=jaf Z;refine re G (hC 2 (yuy.c _ h) (hO 3 (.b true) (hP hb (hC 5 (ys2.c _ a) h0)))) ?_;exact wJ G Z
  ·refine re G (hC 2 (yuy.c _ h) (hO 3 (.b false) (hP hb h0))) ?_;exact wJ G Z
 rintro v Z;cases Z;exact rt [] []
def ysi:MS (bC×bL) Bool:=mS zq34
theorem KN:FnOK Tryz.prog tJ 104 ysi.S:=by
 refine fm tt ysi [fo ydn] call104 func104 rfl results104 ntmps104 ?_;rintro⟨n,f⟩ y cx G (Z:zq34 n f=some y);unfold zq34 at Z;refine rg G (jab (jn Z (fun v=>⟨[(2,.ref 16 0),(3,.ref 32 0),(21,dV v)],[iT 16 n,dI 32 f],64⟩) (fun v Z=>?_) ?_))
 ·rcases bf Z with⟨hb,Z⟩|⟨hb,Z⟩
  ·refine re G (hN 2 f.dR (hN 5 n.bq (hO 7 (.b true) (hP hb h0)))) ?_;exact wJ G Z
  ·obtain⟨r,h,Z⟩:=jaf Z;refine re G (hN 2 f.dR (hN 5 n.bq (hO 7 (.b false) (hP hb (hC 10 (ybr h) h0))))) ?_;exact wJ G Z
 rintro v Z;refine cd Z ?_ ?_<;>intro Z
 ·refine rg G ?_;cases Z;exact rt [] []
 ·refine jae (thN (jab (rs G (hN 2 f.dR h0) ?_)));refine tF Z (fun _=>⟨[],[],32⟩) (fun w p Z=>?_) ?_
  ·refine jaa (lp G Z (fun d=>⟨[(2,.ref 16 0),(23,dV f.dR),(24,dV (f.dR.length:Int)),(25,dV d)],[iT 16 n],48⟩) ?_);rintro d m a Z;rw[yls]at Z;refine rg G (jab (cd Z ?_ ?_))<;>intro Z
   ·refine jae (thN (jab (jaa ?_)));obtain⟨e,o,Z⟩:=jaf Z;refine rs G (hD 1 o h0) ?_;refine jab (jn Z (fun i=>⟨[(2,.ref 16 0),(6,dV e),(23,dV f.dR),(24,dV (f.dR.length:Int)),(25,dV d),(42,dV i)],[iT 16 n],48⟩) (fun i Z=>?_) ?_)
    ·rcases bf Z with⟨c,Z⟩|⟨c,Z⟩
     ·refine re G (hN 1 e (hN 4 n.bq (hO 6 (.b true) (hP c h0)))) ?_;exact wJ G Z
     ·obtain⟨x,q,Z⟩:=jaf Z;refine re G (hN 1 e (hN 4 n.bq (hO 6 (.b false) (hP c (hD 9 q h0))))) ?_;exact wJ G Z
    rintro i Z;refine cd Z ?_ ?_<;>intro Z
    ·refine rg G ?_;have Z:=eL Z a p;cases Z;exact rt [] []
    ·refine jae (thN (rs G (hN 1 e h0) ?_));refine tF Z (fun _=>⟨[(2,.ref 16 0),(23,dV f.dR),(24,dV (f.dR.length:Int)),(25,dV d)],[iT 16 n],48⟩) (fun z j Z=>?_) ?_
     ·refine jaa (lp G Z (fun l=>⟨[(2,.ref 16 0),(23,dV f.dR),(24,dV (f.dR.length:Int)),(25,dV d),(43,dV e),(44,dV (e.length:Int)),(45,dV l)],[iT 16 n],48⟩) ?_);rintro l m g Z;rw[yhl]at Z;refine rg G (jab (cd Z ?_ ?_))<;>intro Z
      ·refine jae (thN (jab (jaa ?_)));obtain⟨A,t,Z⟩:=jaf Z;refine rs G (hD 0 t h0) ?_;obtain⟨B,u,Z⟩:=jaf Z;refine rs G (hC 1 (ybr u) h0) ?_;refine cd Z ?_ ?_<;>intro Z
       ·refine rg G ?_;have Z:=eL Z g j;have Z:=eL Z a p;cases Z;exact rt [] []
       ·exact jae (ibN (thN (rh G (wL G Z))))
      ·exact jag (thE (thE (ibE (wE G Z g))))
     rintro⟨⟩ Z s D;refine ibN (thN (jah D ?_));exact rh G (wL G Z)
   ·exact jag (thE (thE (ibE (wE G Z a))))
  rintro⟨⟩ Z C k;refine thN (jah k ?_);refine rg G ?_;cases Z;exact rt [] []
def yoi:MS (bA×bL) Bool:=mS zq38
theorem KR:FnOK Tryz.prog tJ 60 yoi.S:=by
 refine fm tt yoi [fo Kn,fo KN] call60 func60 rfl results60 ntmps60 ?_;rintro⟨t,f⟩ y cx G (Z:zq38 t f=some y);unfold zq38 at Z;refine rg G ?_;obtain⟨r,h,Z⟩:=jaf Z;refine jn Z (fun v=>⟨[(4,dV v)],[],32⟩) (fun v Z=>?_) ?_
 ·rcases bf Z with⟨hb,Z⟩|⟨hb,Z⟩
  ·obtain⟨d,a,Z⟩:=jaf Z;refine re G (hC 1 (yo5.c _ h) (hO 2 (.b true) (hP hb (hC 6 (ysi.c (_,_) a) h0)))) ?_;exact wJ G Z
  ·refine re G (hC 1 (yo5.c _ h) (hO 2 (.b false) (hP hb h0))) ?_;exact wJ G Z
 rintro v Z;cases Z;exact rt [] []
def yr7:MS (cZ×Int) Bool:=⟨.x .r (.b 3),fun x=>zq53 x.1 x.2,fun y=>dV y,fun _=>[],fun x _=>[bxO 3 x.2]⟩
theorem yyc:FnOK Tryz.prog tJ 99 yr7.S:=by
 refine fm tt yr7 [] call99 func99 rfl results99 ntmps99 ?_;rintro⟨x,a⟩ y cx G (Z:zq53 x a=some y);unfold zq53 at Z;refine rg G (rg G ?_);cases Z;exact rt [] []
def ymp:MS ((List cZ)×Int) Int:=⟨⟨[.rd,.fn 99 [.bx]],fun x=>[Enc.e x.1,.agg [.sc undef]],fun x=>[bxO 3 x.2],1,1,fun _=>rfl,fun _=>rfl,rfl,(by
  rintro⟨a,b⟩ ⟨b0,c⟩ h hO;have d:a=b0:=qI 0 h;have q1:b=c:=Enc.inj _ _ (congrArg (fun l=>(obD l 0).getD 0 (.sc undef)) hO);subst d;subst q1;rfl)⟩,fun x=>yvr x.1 x.2,fun y=>dV y,fun _=>[],fun x _=>[bxO 3 x.2]⟩
theorem yvq:FnOK Tryz.prog tJ 98 ymp.S:=by
 refine fm tt ymp [fo yyc] call98 func98 rfl results98 ntmps98 ?_;rintro⟨s,j⟩ y cx G (Z:yvr s j=some y);obtain⟨f,i⟩:∃q,(fun(m:cZ)=>zq53 m j)=q:=⟨_,rfl⟩;have Z:yvs s f=some y:=by rw[<-i];exact Z
 unfold yvs at Z;refine rg G (jab (rs G (hN 1 s h0) ?_));refine tF Z (fun _=>⟨[(1,.fn 99 [.ref 0 0])],[bX 0 3 [dV j]],48⟩) (fun b k Z=>?_) ?_
 ·refine jaa (lp G Z (fun v=>⟨[(0,dV s),(1,.fn 99 [.ref 0 0]),(7,dV (s.length:Int)),(8,dV v)],[bX 0 3 [dV j]],48⟩) ?_);rintro v d hb Z;rw[yer]at Z;refine rg G (jab (cd Z ?_ ?_))<;>intro Z
  ·refine jae (thN (jab (jaa (rg G ?_))));obtain⟨e,h,r,a,Z⟩:=ob2 Z;have a:zq53 e j=some r:=by rw[<-i]at a;exact a
   refine rs G (hD 3 h (hC 5 (yr7.c (_,_) a) h0)) ?_;refine cd Z ?_ ?_<;>intro Z
   ·refine rg G ?_;have Z:=eL Z hb k;cases Z;exact rt [] []
   ·exact jae (ibN (thN (rh G (wL G Z))))
  ·exact jag (thE (thE (ibE (wE G Z hb))))
 rintro⟨⟩ Z g l;refine thN (jah l ?_);refine rg G ?_;cases Z;exact rt [] []
def yfj:MS (bA×Int) Int:=mS zq52
theorem yfi:FnOK Tryz.prog tJ 56 yfj.S:=by
 refine fm tt yfj [fo yvq] call56 func56 rfl results56 ntmps56 ?_;rintro⟨t,id⟩ y cx G (Z:zq52 t id=some y);unfold zq52 at Z;refine rg G ?_;obtain⟨r,h,Z⟩:=jaf Z;refine rs G (hC 3 (ymp.c (_,_) h) h0) ?_;cases Z;exact rt [] []
def yfh:MS (bA×Int) cZ:=mS zq54
theorem yln:FnOK Tryz.prog tJ 100 yfh.S:=by
 refine fm tt yfh [fo yfi] call100 func100 rfl results100 ntmps100 ?_;rintro⟨t,id⟩ y cx G (Z:zq54 t id=some y);unfold zq54 at Z;refine rg G ?_;obtain⟨d,a,e,b,Z⟩:=ob2 Z;refine ds G [(7,[32])] (hC 4 (yfj.c (_,_) a) (hD 5 b h0)) ?_;cases Z;exact rt [] []
def yog:MS (bA×cZ) bK:=mS zq44
theorem ysb:FnOK Tryz.prog tJ 165 yog.S:=by
 refine fm tt yog [] call165 func165 rfl results165 ntmps165 ?_;rintro⟨t,x⟩ y cx G (Z:zq44 t x=some y);unfold zq44 at Z;refine rg G ?_;obtain⟨e,h,Z⟩:=jaf Z;refine rs G (hD 5 h h0) ?_;cases Z;exact rt [] []
def yse:MS (bA×cZ) Int:=mS zq41
theorem yyj:FnOK Tryz.prog tJ 132 yse.S:=by
 refine fm tt yse [fo ysb] call132 func132 rfl results132 ntmps132 ?_;rintro⟨t,x⟩ y cx G (Z:zq41 t x=some y);unfold zq41 at Z;refine rg G ?_;obtain⟨r,h,Z⟩:=jaf Z;refine rs G (hC 2 (yog.c (_,_) h) h0) ?_;obtain⟨e,a,Z⟩:=jaf Z;refine rs G (hN 2 r.bq (hD 4 a h0)) ?_;cases Z;exact rt [] []
def ysm:MS (bA×cZ) Int:=mS zq29
theorem KJ:FnOK Tryz.prog tJ 133 ysm.S:=by
 refine fm tt ysm [fo ysb] call133 func133 rfl results133 ntmps133 ?_;rintro⟨t,x⟩ y cx G (Z:zq29 t x=some y);unfold zq29 at Z;refine rg G ?_;obtain⟨r,h,e,a,Z⟩:=ob2 Z;refine rs G (hC 2 (yog.c (_,_) h) (hD 4 a h0)) ?_;cases Z;exact rt [] []
def yoo:MS (bA×bL×cZ×cZ) Int:=⟨.x .r (.x .r (.x .r .r)),fun x=>zq24 x.1 x.2.1 x.2.2.1 x.2.2.2,fun y=>dV y,fun _=>[],fun _ _=>[]⟩
theorem ysq:FnOK Tryz.prog tJ 101 yoo.S:=by
 refine fm tt yoo [fo yyj,fo KJ] call101 func101 rfl results101 ntmps101 ?_;rintro⟨t,f,a,b⟩ y cx G (Z:zq24 t f a b=some y);unfold zq24 at Z;refine rg G ?_;obtain⟨i,d,j,e,k,g,Z⟩:=ob3 Z;obtain⟨l,h,Z⟩:=jaf Z;refine ds G [] (hC 4 (yse.c (_,_) d) (hD 5 e (hC 9 (ysm.c (_,_) g) (hD 10 h h0)))) ?_;cases Z;exact rt [] []
def ysx:MS (bA×bL×cZ×cZ) Bool:=⟨.x .r (.x .r (.x .r .r)),fun x=>zq17 x.1 x.2.1 x.2.2.1 x.2.2.2,fun y=>dV y,fun _=>[],fun _ _=>[]⟩
theorem KY:FnOK Tryz.prog tJ 105 ysx.S:=by
 refine fm tt ysx [fo ylu,fo ysq] call105 func105 rfl results105 ntmps105 ?_;rintro⟨t,f,a,b⟩ y cx G (Z:zq17 t f a b=some y);unfold zq17 at Z;refine rg G ?_;obtain⟨g,d,h,e,Z⟩:=ob2 Z;refine ds G [] (hC 4 (yjr.c (_,_) d) (hC 12 (yoo.c (_,_,_,_) e) h0)) ?_;cases Z;exact rt [] []
def ys7:MS (bA×bL×(List (List Int))) Bool:=⟨.x .r (.x .r .r),fun x=>zq12 x.1 x.2.1 x.2.2,fun y=>dV y,fun _=>[],fun _ _=>[]⟩
theorem Kq:FnOK Tryz.prog tJ 61 ys7.S:=by
 refine fm tt ys7 [fo yfi,fo yln,fo KY] call61 func61 rfl results61 ntmps61 ?_;rintro⟨t,f,p⟩ y cx G (Z:zq12 t f p=some y);unfold zq12 at Z;refine rg G (rg G (rg G (jab (rs G (hN 1 p h0) ?_))));refine tF Z (fun P=>⟨[(3,.ref 16 0),(8,dV P)],[cu 16 t],48⟩) (fun U hr Z=>?_) ?_
 ·refine jaa (lp G Z (fun(block,k,v,n)=>⟨[(3,.ref 16 0),(4,.ref 32 0),(7,.eref 48 1 0 0),(8,dV block),(9,dV k),(15,dV p),(16,dV (p.length:Int)),(17,dV v)],[cu 16 t,dI 32 f,aX 48 4 n],80⟩) ?_);rintro⟨block,k,v,n⟩ K hb Z;rw[ybs]at Z;refine rg G (jab (cd Z ?_ ?_))<;>intro Z
  ·refine jae (thN (jab (jaa ?_)));obtain⟨e,h,Z⟩:=jaf Z;refine rs G (hD 0 h h0) ?_;refine jab (jn Z (fun o=>⟨[(3,.ref 16 0),(4,.ref 32 0),(7,.eref 48 1 0 0),(8,dV block),(11,dV e),(15,dV p),(16,dV (p.length:Int)),(17,dV v),(30,dV o)],[cu 16 t,dI 32 f,aX 48 4 n],80⟩) (fun o Z=>?_) ?_)
   ·rcases bf Z with⟨g,Z⟩|⟨g,Z⟩
    ·refine re G (hN 1 e (hO 3 (.b true) (hP g h0))) ?_;exact wJ G Z
    ·obtain⟨V,L,Z⟩:=jaf Z;refine re G (hN 1 e (hO 3 (.b false) (hP g (hD 5 L h0)))) ?_;exact wJ G Z
   rintro o Z;refine cd Z ?_ ?_<;>intro Z
   ·refine rg G ?_;have Z:=eL Z hb hr;cases Z;exact rt [] []
   ·refine jae (thN ?_);obtain⟨q,M,Z⟩:=jaf Z;refine rs G (hD 1 M h0) ?_;refine rs G (hN 1 e h0) ?_;refine tF Z (fun(J,I)=>⟨[(3,.ref 16 0),(4,.ref 32 0),(7,.eref 48 1 0 0),(8,dV J),(9,dV q),(15,dV p),(16,dV (p.length:Int)),(17,dV v)],[cu 16 t,dI 32 f,aX 48 4 I],80⟩) (fun W r Z=>?_) ?_
    ·refine jaa (lp G Z (fun(F,u,w)=>⟨[(3,.ref 16 0),(4,.ref 32 0),(7,.eref 48 1 0 0),(8,dV F),(9,dV q),(11,dV e),(15,dV p),(16,dV (p.length:Int)),(17,dV v),(34,dV e),(35,dV (e.length:Int)),(36,dV u)],[cu 16 t,dI 32 f,aX 48 4 w],80⟩) ?_);rintro⟨F,u,w⟩ K m Z;rw[yb1]at Z;refine rg G (jab (cd Z ?_ ?_))<;>intro Z
     ·refine jae (thN (jab (jaa ?_)));obtain⟨X,N,Z⟩:=jaf Z;refine rs G (hD 1 N h0) ?_;obtain⟨O,Q,Z⟩:=jaf Z;refine rs G (hC 2 (yfj.c (_,_) Q) h0) ?_;refine jab (jn Z (fun x=>⟨[(3,.ref 16 0),(4,.ref 32 0),(7,.eref 48 1 0 0),(8,dV F),(9,dV q),(11,dV e),(14,dV O),(15,dV p),(16,dV (p.length:Int)),(17,dV v),(34,dV e),(35,dV (e.length:Int)),(36,dV u),(72,dV x)],[cu 16 t,dI 32 f,aX 48 4 w],80⟩) (fun x Z=>?_) ?_)
      ·rcases bf Z with⟨a,Z⟩|⟨a,Z⟩
       ·refine de G [] (hO 2 (.b true) (hP a h0)) ?_;exact wJ G Z
       ·obtain⟨Y,i,e8,j,Z⟩:=ob2 Z;rcases bf Z with⟨d,Z⟩|⟨d,Z⟩
        ·refine de G [] (hO 2 (.b false) (hP a (hK i (hE 5 j (hO 7 (.b true) (hP d h0)))))) ?_;exact wJ G Z
        ·rcases bf Z with⟨l,Z⟩|⟨l,Z⟩
         ·obtain⟨e9,z,r4,A,R,B,Z⟩:=ob3 Z;obtain⟨r5,C,Z⟩:=jaf Z;refine de G [] (hO 2 (.b false) (hP a (hK i (hE 5 j (hO 7 (.b false) (hP d (hO 10 (.b true) (hP l (hD 17 z (hC 19 (yfh.c (_,_) A) (hD 23 B (hC 25 (ysx.c (_,_,_,_) C) h0)))))))))))) ?_;exact wJ G Z
         ·refine de G [] (hO 2 (.b false) (hP a (hK i (hE 5 j (hO 7 (.b false) (hP d (hO 10 (.b false) (hP l h0)))))))) ?_;exact wJ G Z
      rintro x Z;refine cd Z ?_ ?_<;>intro Z
      ·refine rg G ?_;have Z:=eL Z m r;have Z:=eL Z hb hr;cases Z;exact rt [] []
      ·refine jae (thN ?_);obtain⟨u2,D,T,E,Z⟩:=ob2 Z;refine rs G (hK D (hS 2 E true h0)) ?_;exact rh G (ibN (thN (rh G (wL G Z))))
     ·exact jag (thE (thE (ibE (wE G Z m))))
    rintro⟨J,I⟩ Z s hw;refine ibN (thN (jah hw ?_));exact rh G (wL G Z)
  ·exact jag (thE (thE (ibE (wE G Z hb))))
 rintro P Z s1 H;refine thN (jah H ?_);refine rs G (hN 3 t.bn h0) ?_;cases Z;exact rt [] []
def yu0:MS (bA×bL×(List (List Int))) Bool:=⟨.x .r (.x .r .r),fun x=>zq7 x.1 x.2.1 x.2.2,fun y=>dV y,fun _=>[],fun _ _=>[]⟩
theorem LC:FnOK Tryz.prog tJ 26 yu0.S:=by
 refine fm tt yu0 [fo KR,fo Kq] call26 func26 rfl results26 ntmps26 ?_;rintro⟨t,f,e⟩ y cx G (Z:zq7 t f e=some y);unfold zq7 at Z;refine rg G ?_;obtain⟨r,h,Z⟩:=jaf Z;refine jn Z (fun v=>⟨[(6,dV v)],[],32⟩) (fun v Z=>?_) ?_
 ·rcases bf Z with⟨hb,Z⟩|⟨hb,Z⟩
  ·obtain⟨d,a,Z⟩:=jaf Z;refine re G (hC 2 (yoi.c (_,_) h) (hO 3 (.b true) (hP hb (hC 7 (ys7.c (_,_,_) a) h0)))) ?_;exact wJ G Z
  ·refine re G (hC 2 (yoi.c (_,_) h) (hO 3 (.b false) (hP hb h0))) ?_;exact wJ G Z
 rintro v Z;cases Z;exact rt [] []
def yxf:MS cB Bool:=mR zq9
theorem LG:FnOK Tryz.prog tJ 40 yxf.S:=by
 refine fm tt yxf [fo ydn] call40 func40 rfl results40 ntmps40 ?_;rintro r y cx G (Z:zq9 r=some y);unfold zq9 at Z;refine rg G (jab (rg G (tF Z (fun _=>⟨[],[],32⟩) (fun c g Z=>?_) ?_)))
 ·refine jaa (lp G Z (fun v=>⟨[(17,.dat (.agg (flatE ([r.iU,r.iV,r.jV,r.jM,r.jd,r.kP]:List Int)))),(18,dV v)],[],32⟩) ?_);rintro v d hb Z;rw[yq9]at Z;refine rg G (jab (cd Z ?_ ?_))<;>intro Z
  ·refine jae (thN (jab (jaa ?_)));obtain⟨u,a,e,h,Z⟩:=ob2 Z;refine ixS1 (ls:=([r.iU,r.iV,r.jV,r.jM,r.jd,r.kP]:List Int)) (t:=122) (el:=3) (kk:=.i64) (T:=tyE122) (E:=tyE3) (len:=6) (e:=e) G (ku a) h h0 ?_ (fun _=>⟨rfl,rfl⟩);obtain⟨f,b,Z⟩:=jaf Z;refine rs G (hC 1 (ybr b) h0) ?_;refine cd Z ?_ ?_<;>intro Z
   ·refine rg G ?_;have Z:=eL Z hb g;cases Z;exact rt [] []
   ·exact jae (ibN (thN (rh G (wL G Z))))
  ·exact jag (thE (thE (ibE (wE G Z hb))))
 rintro⟨⟩ Z s i;refine thN (jah i ?_);refine rg G ?_;cases Z;exact rt [] []
def ygo:MS (bA×bL×(List (List Int))×cB) Bool:=⟨.x .r (.x .r (.x .r .r)),fun x=>zq14 x.1 x.2.1 x.2.2.1 x.2.2.2,fun y=>dV y,fun _=>[],fun _ _=>[]⟩
theorem yml:FnOK Tryz.prog tJ 18 ygo.S:=by
 refine fm tt ygo [fo LC,fo LG] call18 func18 rfl results18 ntmps18 ?_;rintro⟨t,f,g,r⟩ y cx G (Z:zq14 t f g r=some y);unfold zq14 at Z;refine rg G ?_;obtain⟨d,h,Z⟩:=jaf Z;refine jn Z (fun v=>⟨[(8,dV v)],[],32⟩) (fun v Z=>?_) ?_
 ·rcases bf Z with⟨hb,Z⟩|⟨hb,Z⟩
  ·obtain⟨e,a,Z⟩:=jaf Z;refine re G (hC 3 (yu0.c (_,_,_) h) (hO 4 (.b true) (hP hb (hC 6 (yxf.c _ a) h0)))) ?_;exact wJ G Z
  ·refine re G (hC 3 (yu0.c (_,_,_) h) (hO 4 (.b false) (hP hb h0))) ?_;exact wJ G Z
 rintro v Z;cases Z;exact rt [] []
def yod:MS ((List (List Int))×Int) (Int×Int):=⟨.x .r .r,fun x=>zq48 x.1 x.2,fun y=>.tup [dV y.1,dV y.2],fun _=>[],fun _ _=>[]⟩
theorem yr9:FnOK Tryz.prog tJ 68 yod.S:=by
 refine fm tt yod [fo yov] call68 func68 rfl results68 ntmps68 ?_;rintro⟨f,id⟩ y cx G (Z:zq48 f id=some y);unfold zq48 at Z;refine rg G (jab (rs G (hN 1 f h0) ?_));refine tF Z (fun _=>⟨[],[],32⟩) (fun b g Z=>?_) ?_
 ·refine jaa (lp G Z (fun v=>⟨[(1,dV id),(9,dV f),(10,dV (f.length:Int)),(11,dV v)],[],32⟩) ?_);rintro v d hb Z;rw[ycx]at Z;refine rg G (jab (cd Z ?_ ?_))<;>intro Z
  ·refine jae (thN (jab (jaa ?_)));obtain⟨e,h,Z⟩:=jaf Z;refine rs G (hD 1 h h0) ?_;obtain⟨r,a,Z⟩:=jaf Z;refine rs G (hC 2 (yhy.c (_,_) a) h0) ?_;refine rg G (cd Z ?_ ?_)<;>intro Z
   ·refine rg G ?_;have Z:=eL Z hb g;cases Z;exact rt [] []
   ·exact jae (ibN (thN (rh G (wL G Z))))
  ·exact jag (thE (thE (ibE (wE G Z hb))))
 rintro⟨⟩ Z s i;refine thN (jah i ?_);refine rg G ?_;cases Z;exact rt [] []
def ymr:MS ((List Int)×(List Int)) Bool:=mS yqg
theorem yvw:FnOK Tryz.prog tJ 130 ymr.S:=by
 refine fm tt ymr [] call130 func130 rfl results130 ntmps130 ?_;rintro⟨a,b⟩ y cx G (Z:yqg a b=some y);unfold yqg at Z;refine rg G (jab (rs G (hN 1 a (hN 3 b h0)) ?_));refine cd Z ?_ ?_<;>intro Z
 ·refine rg G ?_;cases Z;exact rt [] []
 ·refine jae (thN (jab (rs G (hN 1 a h0) ?_)));refine tF Z (fun _=>⟨[],[],32⟩) (fun e i Z=>?_) ?_
  ·refine jaa (lp G Z (fun v=>⟨[(0,dV a),(1,dV b),(12,dV (a.length:Int)),(13,dV v)],[],32⟩) ?_);rintro v f hb Z;rw[yc6]at Z;refine rg G (jab (cd Z ?_ ?_))<;>intro Z
   ·refine jae (thN (jab (jaa (rg G ?_))));obtain⟨g,c,h,d,Z⟩:=ob2 Z;refine ds G [] (hD 2 c (hD 6 d h0)) ?_;refine cd Z ?_ ?_<;>intro Z
    ·refine rg G ?_;have Z:=eL Z hb i;cases Z;exact rt [] []
    ·exact jae (ibN (thN (rh G (wL G Z))))
   ·exact jag (thE (thE (ibE (wE G Z hb))))
  rintro⟨⟩ Z s j;refine thN (jah j ?_);refine rg G ?_;cases Z;exact rt [] []
def ysg:MS ((List (List Int))×(List Int)) Bool:=mS zq37
theorem KQ:FnOK Tryz.prog tJ 94 ysg.S:=by
 refine fm tt ysg [fo yr9,fo yvw] call94 func94 rfl results94 ntmps94 ?_;rintro⟨p,o⟩ y cx G (Z:zq37 p o=some y);unfold zq37 at Z;refine rg G (jab (rs G (hN 1 o h0) ?_));refine cd Z ?_ ?_<;>intro Z
 ·refine rg G ?_;cases Z;exact rt [] []
 ·refine jae (thN ?_);obtain⟨e,h,r,g,Z⟩:=ob2 Z;refine rs G (hD 2 h (hC 4 (yod.c (_,_) g) h0)) ?_;refine jn Z (fun k=>⟨[(4,dV k)],[],32⟩) (fun k Z=>?_) ?_
  ·rcases bf Z with⟨hb,Z⟩|⟨hb,Z⟩
   ·obtain⟨d,f,Z⟩:=jaf Z;rcases bf Z with⟨a,Z⟩|⟨a,Z⟩
    ·obtain⟨m,i,u,j,n,l,Z⟩:=ob3 Z;refine re G (hO 2 (.b true) (hP hb (hN 5 o (hD 9 f (hN 11 d (hO 14 (.b true) (hP a (hD 17 i (hN 22 o (hU 24 j (hC 26 (ymr.c (_,_) l) h0))))))))))) ?_;exact wJ G Z
    ·refine re G (hO 2 (.b true) (hP hb (hN 5 o (hD 9 f (hN 11 d (hO 14 (.b false) (hP a h0))))))) ?_;exact wJ G Z
   ·refine re G (hO 2 (.b false) (hP hb h0)) ?_;exact wJ G Z
  rintro k Z;cases Z;exact rt [] []
def yr6:MS (IK .u64) Int:=mR zq57
theorem yyb:FnOK Tryz.prog tJ 155 yr6.S:=by
 refine fm tt yr6 [] call155 func155 rfl results155 ntmps155 ?_;rintro x y cx G (Z:zq57 x=some y);unfold zq57 at Z;refine rg G (jn Z (fun(a,v)=>⟨[(0,kV .u64 a),(2,dV v)],[],32⟩) (fun f Z=>?_) ?_)
 ·refine rg G (cd Z ?_ ?_)<;>intro Z
  ·obtain⟨u,h,Z⟩:=jaf Z;refine rs G (hK h h0) ?_;exact rh G (wJ G Z)
  ·exact jae (wJ G Z)
 rintro⟨a,v⟩ Z;refine jn Z (fun(b,c)=>⟨[(0,kV .u64 b),(2,dV c)],[],32⟩) (fun g Z=>?_) ?_
 ·refine rg G (cd Z ?_ ?_)<;>intro Z
  ·obtain⟨l,i,Z⟩:=jaf Z;refine rs G (hK i h0) ?_;exact rh G (wJ G Z)
  ·exact jae (wJ G Z)
 rintro⟨b,c⟩ Z;refine jn Z (fun(d,e)=>⟨[(0,kV .u64 d),(2,dV e)],[],32⟩) (fun o Z=>?_) ?_
 ·refine rg G (cd Z ?_ ?_)<;>intro Z
  ·obtain⟨m,j,Z⟩:=jaf Z;refine rs G (hK j h0) ?_;exact rh G (wJ G Z)
  ·exact jae (wJ G Z)
 rintro⟨d,e⟩ Z;obtain⟨n,k,Z⟩:=jaf Z;refine rs G (hK k h0) ?_;cases Z;exact rt [] []
def yjq:MS (IK .u64) Int:=mR zq56
theorem ylm:FnOK Tryz.prog tJ 128 yjq.S:=by
 refine fm tt yjq [fo yyb] call128 func128 rfl results128 ntmps128 ?_;rintro x y cx G (Z:zq56 x=some y);unfold zq56 at Z;refine rg G (jab (cF (jae (thN ?_))));obtain⟨r,h,Z⟩:=jaf Z;refine rs G (hC 1 (yr6.c _ h) h0) ?_;cases Z;exact rt [] []
def yhk:MS Int Bool:=mR zq3
theorem yw6:FnOK Tryz.prog tJ 126 yhk.S:=by
 refine fm tt yhk [] call126 func126 rfl results126 ntmps126 ?_;rintro x y cx G (Z:zq3 x=some y);unfold zq3 at Z;refine rg G (rg G ?_);cases Z;exact rt [] []
def ycr:MS (Int×Int) Bool:=mS zq1
theorem yfo:FnOK Tryz.prog tJ 162 ycr.S:=by
 refine fm tt ycr [fo yw6] call162 func162 rfl results162 ntmps162 ?_;rintro⟨x,f⟩ y cx G (Z:zq1 x f=some y);unfold zq1 at Z;refine rg G ?_;obtain⟨r,h,Z⟩:=jaf Z;refine jn Z (fun v=>⟨[(4,dV v)],[],32⟩) (fun v Z=>?_) ?_
 ·rcases bf Z with⟨hb,Z⟩|⟨hb,Z⟩
  ·obtain⟨e,d,Z⟩:=jaf Z;rcases bf Z with⟨a,Z⟩|⟨a,Z⟩
   ·refine re G (hC 1 (yhk.c _ h) (hO 2 (.b true) (hP hb (hC 4 (yhk.c _ d) (hO 7 (.b true) (hP a h0)))))) ?_;exact wJ G Z
   ·refine re G (hC 1 (yhk.c _ h) (hO 2 (.b true) (hP hb (hC 4 (yhk.c _ d) (hO 7 (.b false) (hP a h0)))))) ?_;exact wJ G Z
  ·refine re G (hC 1 (yhk.c _ h) (hO 2 (.b false) (hP hb h0))) ?_;exact wJ G Z
 rintro v Z;cases Z;exact rt [] []
def yme:MS ((List Int)×Int×Int) ((List Int)):=⟨.x (.s 3) (.x .r .r),fun x=>yqb x.1 x.2.1 x.2.2,fun _=>.tup [],fun _=>[],fun _ y=>[arO 3 y]⟩
theorem yvh:FnOK Tryz.prog tJ 156 yme.S:=by
 refine fm tt yme [fo yfo] call156 func156 rfl results156 ntmps156 ?_;rintro⟨p,a,b⟩ y cx G (Z:yqb p a b=some y);unfold yqb at Z;refine rg G (jaa (lp G Z (fun(v,f)=>⟨[(0,.own 0),(1,dV a),(2,dV b),(6,dV v)],[aX 0 3 f],48⟩) ?_));rintro⟨v,f⟩ r hb Z;rw[yek]at Z;refine jab (rg G (cd Z ?_ ?_))<;>intro Z
 ·refine jae (thN (jab (jaa (rg G (tl Z (fun d=>⟨[(0,.own 0),(1,dV a),(2,dV b),(6,dV v)],[aX 0 3 d],48⟩) (fun d Z=>?_) ?_)))))
  ·refine jaa (lp G Z (fun(l,e)=>⟨[(0,.own 0),(1,dV a),(2,dV b),(6,dV v),(7,dV l)],[aX 0 3 e],48⟩) ?_);rintro⟨l,e⟩ r m Z;rw[yel]at Z;refine jab (jn Z (fun n=>⟨[(0,.own 0),(1,dV a),(2,dV b),(6,dV v),(7,dV l),(30,dV n)],[aX 0 3 e],48⟩) (fun n Z=>?_) ?_)
   ·rcases bf Z with⟨g,Z⟩|⟨g,Z⟩
    ·obtain⟨A,o,B,q,C,t,Z⟩:=ob3 Z;refine de G [] (hO 3 (.b true) (hP g (hD 6 o (hE 7 o (hD 11 q (hE 12 q (hC 13 (ycr.c (_,_) t) h0))))))) ?_;exact wJ G Z
    ·refine de G [] (hO 3 (.b false) (hP g h0)) ?_;exact wJ G Z
   rintro n Z;refine cd Z ?_ ?_<;>intro Z
   ·refine jae (thN (jab (jaa ?_)));obtain⟨u,h,w,i,x,j,Z⟩:=ob3 Z;obtain⟨z,k,Z⟩:=jaf Z;refine de G [(15,[0]),(17,[0])] (hD 8 h (hE 9 h (hD 12 i (hE 13 i (hD 14 j (hS 15 j u (hD 16 k (hS 17 k w h0)))))))) ?_;exact ibN (thN (rh G (wL G Z)))
   ·exact jag (thE (thE (ibE (wD G Z m))))
  rintro d Z s D;refine ibN (thN (jah D ?_));exact rh G (wL G Z)
 ·have Z:=eD Z hb;refine jag (thE (thE (ibE ?_)));cases Z;exact fN [] []
def yht:MS ((List Int)×Int×Int×Int) ((List Int)):=⟨.x (.s 3) (.x .r (.x .r .r)),fun x=>yl3 x.1 x.2.1 x.2.2.1 x.2.2.2,fun _=>.tup [],fun _=>[],fun _ y=>[arO 3 y]⟩
theorem yu6:FnOK Tryz.prog tJ 177 yht.S:=by
 refine fm tt yht [fo yfo] call177 func177 rfl results177 ntmps177 ?_;rintro⟨p,lo,hi,first⟩ y cx G (Z:yl3 p lo hi first=some y);unfold yl3 at Z;refine rg G (jaa (lp G Z (fun(v,a)=>⟨[(0,.own 0),(2,dV hi),(3,dV first),(8,dV v)],[aX 0 3 a],48⟩) ?_));rintro⟨v,a⟩ w hb Z;rw[yd5]at Z;refine jaa (rg G (jab (rg G (cd Z ?_ ?_))))<;>intro Z
 ·have Z:=eD Z hb;refine jag (thE (ibX rfl (thE (ibE ?_))));cases Z;exact fN [] []
 ·refine jae (thN (jn Z (fun j=>⟨[(0,.own 0),(2,dV hi),(3,dV first),(8,dV v),(9,dV j)],[aX 0 3 a],48⟩) (fun j Z=>?_) ?_))
  ·refine jn Z (fun k=>⟨[(0,.own 0),(2,dV hi),(3,dV first),(8,dV v),(9,dV (w64 ((w64 (2*v))+1))),(36,dV k)],[aX 0 3 a],48⟩) (fun k Z=>?_) ?_
   ·rcases bf Z with⟨d,Z⟩|⟨d,Z⟩
    ·obtain⟨x,o,z,q,A,s,Z⟩:=ob3 Z;refine de G [] (hO 4 (.b true) (hP d (hD 9 o (hE 10 o (hD 16 q (hE 17 q (hC 18 (ycr.c (_,_) s) h0))))))) ?_;exact wJ G Z
    ·refine de G [] (hO 4 (.b false) (hP d h0)) ?_;exact wJ G Z
   rintro k Z;refine cd Z ?_ ?_<;>intro Z
   ·exact rh G (wJ G Z)
   ·exact jae (wJ G Z)
  rintro j Z;refine jab ?_;obtain⟨B,r,C,e,D,l,Z⟩:=ob3 Z;refine ds G [] (hD 4 r (hE 5 r (hD 10 e (hE 11 e (hC 12 (ycr.c (_,_) l) h0))))) ?_;refine cd Z ?_ ?_<;>intro Z
  ·have Z:=eD Z hb;cases Z;exact rt [] []
  ·refine jae (thN ?_);obtain⟨m,f,n,g,t,h,Z⟩:=ob3 Z;obtain⟨u,i,Z⟩:=jaf Z;refine ds G [(21,[0]),(23,[0])] (hD 12 f (hE 13 f (hD 18 g (hE 19 g (hD 20 h (hS 21 h m (hD 22 i (hS 23 i n h0)))))))) ?_;exact rh G (ibN (wL G Z))
def ymg:MS ((List Int)×Int×Int) ((List Int)):=⟨.x (.s 3) (.x .r .r),fun x=>yqc x.1 x.2.1 x.2.2,fun _=>.tup [],fun _=>[],fun _ y=>[arO 3 y]⟩
theorem yvj:FnOK Tryz.prog tJ 157 ymg.S:=by
 refine fm tt ymg [fo yu6] call157 func157 rfl results157 ntmps157 ?_;rintro⟨p,a,b⟩ y cx G (Z:yqc p a b=some y);unfold yqc at Z;refine rg G (rg G (rg G (jab ?_)));obtain⟨u,h,Z⟩:=jaf Z;refine rs G (hK h h0) ?_;refine tl Z (fun d=>⟨[(0,.own 0),(6,dV a),(7,kV .i64 0),(8,dV (w64 (b-a)))],[aX 0 3 d],48⟩) (fun d Z=>?_) ?_
 ·refine jaa (lp G Z (fun(v,e)=>⟨[(0,.own 0),(6,dV a),(7,kV .i64 0),(8,dV (w64 (b-a))),(9,dV v)],[aX 0 3 e],48⟩) ?_);rintro⟨v,e⟩ o hb Z;rw[yen]at Z;refine jab (rg G (cd Z ?_ ?_))<;>intro Z
  ·refine jae (thN (jab (jaa ?_)));obtain⟨r,q,Z⟩:=jaf Z;refine re G (hC 4 (yht.c (_,_,_,_) q) h0) ?_;exact ibN (thN (rh G (wL G Z)))
  ·exact jag (thE (thE (ibE (wD G Z hb))))
 rintro d Z s B;refine thN (jah B ?_);refine rg G (jaa (lp G Z (fun(j,f)=>⟨[(0,.own 0),(6,dV a),(7,kV .i64 0),(10,dV j)],[aX 0 3 f],48⟩) ?_));rintro⟨j,f⟩ o g Z;rw[yem]at Z;refine jab (rg G (cd Z ?_ ?_))<;>intro Z
 ·refine jae (thN (jab (jaa ?_)));obtain⟨t,k,w,l,x,m,Z⟩:=ob3 Z;obtain⟨z,n,Z⟩:=jaf Z;refine ds G [(17,[0]),(19,[0])] (hD 10 k (hE 11 k (hD 14 l (hE 15 l (hD 16 m (hS 17 m t (hD 18 n (hS 19 n w h0)))))))) ?_;obtain⟨A,i,Z⟩:=jaf Z;refine re G (hC 4 (yht.c (_,_,_,_) i) h0) ?_;exact ibN (thN (rh G (wL G Z)))
 ·have Z:=eD Z g;refine jag (thE (thE (ibE ?_)));cases Z;exact fN [] []
def yhv:MS ((List Int)×Int×Int×Int) (Int×Int×Int):=⟨.x .r (.x .r (.x .r (.b 3))),fun x=>yhw x.1 x.2.1 x.2.2.1 x.2.2.2,fun y=>.tup [dV y.1,dV y.2.1],fun _=>[],fun _ y=>[bxO 3 y.2.2]⟩
theorem yma{data a b swaps y}(Z:yhw data a b swaps=some y):yhv.C (data,a,b,swaps) y:=yhv.c (data,a,b,swaps) Z
theorem yve:FnOK Tryz.prog tJ 184 yhv.S:=by
 refine fm tt yhv [fo yfo] call184 func184 rfl results184 ntmps184 ?_;rintro⟨k,a,b,j⟩ y cx G (Z:yhw k a b j=some y);unfold yhw at Z;refine rg G (jab ?_);obtain⟨g,d,h,e,i,f,Z⟩:=ob3 Z;refine ds G [] (hD 2 d (hD 6 e (hC 8 (ycr.c (_,_) f) h0))) ?_;refine cd Z ?_ ?_<;>intro Z
 ·refine rg G (rg G ?_);cases Z;exact rt [] []
 ·refine jae (thN (rg G ?_));cases Z;exact rt [] []
def yhx:MS ((List Int)×Int×Int×Int×Int) (Int×Int):=⟨.x .r (.x .r (.x .r (.x .r (.b 3)))),fun x=>ymd x.1 x.2.1 x.2.2.1 x.2.2.2.1 x.2.2.2.2,fun y=>dV y.1,fun _=>[],fun _ y=>[bxO 3 y.2]⟩
theorem yos:FnOK Tryz.prog tJ 179 yhx.S:=by
 refine fm tt yhx [fo yve] call179 func179 rfl results179 ntmps179 ?_;rintro⟨j,a,b,c,i⟩ y cx G (Z:ymd j a b c i=some y);unfold ymd at Z;refine rg G ?_;obtain⟨r,h,Z⟩:=jaf Z;refine rs G (hC 4 (yma h) h0) ?_;obtain⟨f,d,Z⟩:=jaf Z;refine rs G (hC 4 (yma d) h0) ?_;obtain⟨g,e,Z⟩:=jaf Z;refine rs G (hC 4 (yma e) h0) ?_;refine rg G ?_;cases Z;exact rt [] []
def yfq:MS ((List Int)×Int×Int) (Int×Int):=⟨.x .r (.x .r (.b 3)),fun x=>yju x.1 x.2.1 x.2.2,fun y=>dV y.1,fun _=>[],fun _ y=>[bxO 3 y.2]⟩
theorem yvg:FnOK Tryz.prog tJ 178 yfq.S:=by
 refine fm tt yfq [fo yos] call178 func178 rfl results178 ntmps178 ?_;rintro⟨d,a,b⟩ y cx G (Z:yju d a b=some y);unfold yju at Z;refine rg G ?_;obtain⟨r,h,Z⟩:=jaf Z;refine rs G (hC 7 (yhx.c (_,_,_,_,_) h) h0) ?_;cases Z;exact rt [] []
def ymh:MS ((List Int)×Int×Int) (Int×Int):=⟨.x .r (.x .r .r),fun x=>yqd x.1 x.2.1 x.2.2,fun y=>.tup [dV y.1,dV y.2],fun _=>[],fun _ _=>[]⟩
theorem yvk:FnOK Tryz.prog tJ 159 ymh.S:=by
 refine fm tt ymh [fo yvg,fo yos] call159 func159 rfl results159 ntmps159 ?_;rintro⟨p,a,b⟩ y cx G (Z:yqd p a b=some y);unfold yqd at Z;refine rg G (rg G (rg G ?_));obtain⟨u,h,Z⟩:=jaf Z;refine rs G (hK h h0) ?_;obtain⟨s,j,Z⟩:=jaf Z;refine rs G (hK j h0) ?_;obtain⟨t,k,Z⟩:=jaf Z;refine rs G (hK k h0) ?_;refine jn Z (fun(v,d)=>⟨[(9,.ref 16 0),(11,dV v)],[bX 16 3 [dV d]],48⟩) (fun l Z=>?_) ?_
 ·refine rg G (cd Z ?_ ?_)<;>intro Z
  ·refine jn Z (fun(e,f,g,i)=>⟨[(0,dV p),(9,.ref 16 0),(10,dV e),(11,dV f),(12,dV g)],[bX 16 3 [dV i]],48⟩) (fun A Z=>?_) ?_
   ·refine rg G (cd Z ?_ ?_)<;>intro Z
    ·obtain⟨r,m,Z⟩:=jaf Z;refine rs G (hC 2 (yfq.c (_,_,_) m) h0) ?_;obtain⟨w,n,Z⟩:=jaf Z;refine rs G (hC 2 (yfq.c (_,_,_) n) h0) ?_;obtain⟨x,o,Z⟩:=jaf Z;refine re G (hC 2 (yfq.c (_,_,_) o) h0) ?_;exact wJ G Z
    ·exact jae (wJ G Z)
   rintro⟨e,f,g,i⟩ Z;obtain⟨z,q,Z⟩:=jaf Z;refine re G (hC 4 (yhx.c (_,_,_,_,_) q) h0) ?_;exact wJ G Z
  ·exact jae (wJ G Z)
 rintro⟨v,d⟩ Z;refine rg G (jaa (rg G (cd Z ?_ ?_)))<;>intro Z
 ·refine rg G ?_;cases Z;exact rt [] []
 ·refine rg G (cd Z ?_ ?_)<;>intro Z
  ·refine rg G ?_;cases Z;exact rt [] []
  ·refine rg G ?_;cases Z;exact rt [] []
def yl4:MS ((List Int)×Int×Int) ((List Int)):=⟨.x (.s 3) (.x .r .r),fun x=>yp7 x.1 x.2.1 x.2.2,fun _=>.tup [],fun _=>[],fun _ y=>[arO 3 y]⟩
theorem yu7:FnOK Tryz.prog tJ 160 yl4.S:=by
 refine fm tt yl4 [] call160 func160 rfl results160 ntmps160 ?_;rintro⟨n,a,b⟩ y cx G (Z:yp7 n a b=some y);unfold yp7 at Z;refine rg G (rg G (jaa (lp G Z (fun(v,d,c)=>⟨[(0,.own 0),(6,dV v),(7,dV d)],[aX 0 3 c],48⟩) ?_)));rintro⟨v,d,c⟩ k hb Z;rw[yd6]at Z;refine jab (rg G (cd Z ?_ ?_))<;>intro Z
 ·refine jae (thN (jaa ?_));obtain⟨i,e,j,f,l,g,Z⟩:=ob3 Z;obtain⟨m,h,Z⟩:=jaf Z;refine ds G [(13,[0]),(15,[0])] (hD 6 e (hE 7 e (hD 10 f (hE 11 f (hD 12 g (hS 13 g i (hD 14 h (hS 15 h j h0)))))))) ?_;exact rg G (rh G (ibN (wL G Z)))
 ·have Z:=eD Z hb;refine jag (thE (thE (ibE ?_)));cases Z;exact fN [] []
def yl9:MS ((List Int)×Int×Int) (Bool×(List Int)):=⟨.x (.s 3) (.x .r .r),fun x=>yqa x.1 x.2.1 x.2.2,fun y=>dV y.1,fun _=>[],fun _ y=>[arO 3 y.2]⟩
theorem yvd:FnOK Tryz.prog tJ 161 yl9.S:=by
 refine fm tt yl9 [fo yfo] call161 func161 rfl results161 ntmps161 ?_;rintro⟨F,a,b⟩ y cx G (Z:yqa F a b=some y);unfold yqa at Z;refine rg G (rg G (jab (rg G (tF Z (fun h=>⟨[(0,.own 0)],[aX 0 3 h],48⟩) (fun v5 hr Z=>?_) ?_))))
 ·refine jaa (lp G Z (fun(j,v,d)=>⟨[(0,.own 0),(1,dV a),(2,dV b),(7,dV j),(8,dV v)],[aX 0 3 d],48⟩) ?_);rintro⟨j,v,d⟩ N hb Z;rw[yeg]at Z;refine jab (rg G (cd Z ?_ ?_))<;>intro Z
  ·refine jae (thN (jF Z (fun(j1,i)=>⟨[(0,.own 0),(1,dV a),(2,dV b),(7,dV j1),(8,dV v)],[aX 0 3 i],48⟩) (fun v4 n Z=>?_) ?_))
   ·refine jaa (jn Z (fun p=>⟨[(0,.own 0),(1,dV a),(2,dV b),(7,dV p),(8,dV v)],[aX 0 3 d],48⟩) (fun p Z=>?_) ?_)
    ·refine jaa (lp G Z (fun j2=>⟨[(0,.own 0),(1,dV a),(2,dV b),(7,dV j2),(8,dV v)],[aX 0 3 d],48⟩) ?_);rintro j2 N O Z;rw[yej]at Z;refine jab (jn Z (fun Q=>⟨[(0,.own 0),(1,dV a),(2,dV b),(7,dV j2),(8,dV v),(32,dV Q)],[aX 0 3 d],48⟩) (fun Q Z=>?_) ?_)
     ·rcases bf Z with⟨m,Z⟩|⟨m,Z⟩
      ·obtain⟨e2,h3,e3,h4,r1,h5,Z⟩:=ob3 Z;refine de G [] (hO 3 (.b true) (hP m (hD 6 h3 (hE 7 h3 (hD 11 h4 (hE 12 h4 (hC 13 (ycr.c (_,_) h5) h0))))))) ?_;exact wJ G Z
      ·refine de G [] (hO 3 (.b false) (hP m h0)) ?_;exact wJ G Z
     rintro Q Z;refine cd Z ?_ ?_<;>intro Z
     ·exact jae (thN (jaa (rh G (ibN (wL G Z)))))
     ·exact jag (thE (thE (ibE (wD G Z O))))
    rintro p Z;refine jab (rg G (cd Z ?_ ?_))<;>intro Z
    ·refine rg G ?_;have Z:=eR Z n;have Z:=eL Z hb hr;cases Z;exact rt [] []
    ·refine jae (thN (jab (rg G (cd Z ?_ ?_))))<;>intro Z
     ·refine rg G ?_;have Z:=eR Z n;have Z:=eL Z hb hr;cases Z;exact rt [] []
     ·refine jae (thN ?_);obtain⟨R,o,T,q,ab,r,Z⟩:=ob3 Z;obtain⟨ac,t,Z⟩:=jaf Z;refine ds G [(15,[0]),(17,[0])] (hD 8 o (hE 9 o (hD 12 q (hE 13 q (hD 14 r (hS 15 r R (hD 16 t (hS 17 t T h0)))))))) ?_;refine jn Z (fun e=>⟨[(0,.own 0),(1,dV a),(2,dV b),(7,dV p),(8,dV v)],[aX 0 3 e],48⟩) (fun e Z=>?_) ?_
      ·refine rg G (cd Z ?_ ?_)<;>intro Z
       ·refine rg G (tl Z (fun f=>⟨[(0,.own 0),(1,dV a),(2,dV b),(7,dV p),(8,dV v)],[aX 0 3 f],48⟩) (fun f Z=>?_) ?_)
        ·refine jaa (lp G Z (fun(v2,k)=>⟨[(0,.own 0),(1,dV a),(2,dV b),(7,dV p),(8,dV v),(9,dV v2)],[aX 0 3 k],48⟩) ?_);rintro⟨v2,k⟩ N u Z;rw[yei]at Z;refine jab (rg G (cd Z ?_ ?_))<;>intro Z
         ·refine jae (thN (jab (jaa (jab ?_))));obtain⟨ad,w,ae,x,r7,U,Z⟩:=ob3 Z;refine ds G [] (hD 2 w (hE 3 w (hD 7 x (hE 8 x (hC 9 (ycr.c (_,_) U) h0))))) ?_;refine cd Z ?_ ?_<;>intro Z
          ·exact jag (thE (ibX rfl (thE (thE (ibE (wD G Z u))))))
          ·refine jae (thN ?_);obtain⟨V,z,W,A,af,B,Z⟩:=ob3 Z;obtain⟨ah,C,Z⟩:=jaf Z;refine de G [(15,[0]),(17,[0])] (hD 8 z (hE 9 z (hD 12 A (hE 13 A (hD 14 B (hS 15 B V (hD 16 C (hS 17 C W h0)))))))) ?_;exact ibN (thN (rh G (wL G Z)))
         ·exact jag (thE (thE (ibE (wD G Z u))))
        rintro f Z s hw;exact wJp Z (Wk.trans hw (Wk_J G.hL ⟨[(0,[]),(1,[]),(2,[]),(7,[]),(8,[])],[(0,0,[])],[],48⟩ (by kernel_rfl)))
       ·exact jae (wJ G Z)
      rintro e Z;refine rg G (cd Z ?_ ?_)<;>intro Z
      ·refine rg G (tl Z (fun g=>⟨[(0,.own 0),(1,dV a),(2,dV b),(7,dV p),(8,dV v)],[aX 0 3 g],48⟩) (fun g Z=>?_) ?_)
       ·refine jaa (lp G Z (fun(v3,l)=>⟨[(0,.own 0),(1,dV a),(2,dV b),(7,dV p),(8,dV v),(10,dV v3)],[aX 0 3 l],48⟩) ?_);rintro⟨v3,l⟩ N D Z;rw[yeh]at Z;refine jab (rg G (cd Z ?_ ?_))<;>intro Z
        ·refine jae (thN (jab (jaa (jab ?_))));obtain⟨ai,E,aj,H,r9,X,Z⟩:=ob3 Z;refine ds G [] (hD 2 E (hE 3 E (hD 7 H (hE 8 H (hC 9 (ycr.c (_,_) X) h0))))) ?_;refine cd Z ?_ ?_<;>intro Z
         ·exact jag (thE (ibX rfl (thE (thE (ibE (wD G Z D))))))
         ·refine jae (thN ?_);obtain⟨Y,I,J,K,ak,L,Z⟩:=ob3 Z;obtain⟨am,M,Z⟩:=jaf Z;refine de G [(15,[0]),(17,[0])] (hD 8 I (hE 9 I (hD 12 K (hE 13 K (hD 14 L (hS 15 L Y (hD 16 M (hS 17 M J h0)))))))) ?_;exact ibN (thN (rh G (wL G Z)))
        ·exact jag (thE (thE (ibE (wD G Z D))))
       rintro g Z s1 P;exact ibN (wFp Z (Wk.trans P (Wk_J G.hL ⟨[(0,[]),(1,[]),(2,[]),(7,[]),(8,[])],[(0,0,[])],[],48⟩ (by kernel_rfl))))
      ·exact jae (ibN (wF G Z))
   rintro⟨j1,i⟩ Z;exact rh G (wL G Z)
  ·exact jag (thE (thE (ibE (wE G Z hb))))
 rintro h Z s2 aa;refine thN (jah aa ?_);refine rg G ?_;cases Z;exact rt [] []
def yl8:MS ((List Int)×Int×Int×Int) (Int×(List Int)):=⟨.x (.s 3) (.x .r (.x .r .r)),fun x=>yp9 x.1 x.2.1 x.2.2.1 x.2.2.2,fun y=>dV y.1,fun _=>[],fun _ y=>[arO 3 y.2]⟩
theorem yvc:FnOK Tryz.prog tJ 163 yl8.S:=by
 refine fm tt yl8 [fo yfo] call163 func163 rfl results163 ntmps163 ?_;rintro⟨F,a,b,p⟩ y cx G (Z:yp9 F a b p=some y);unfold yp9 at Z;refine rg G ?_;obtain⟨O,H,Q,I,Y,K,Z⟩:=ob3 Z;obtain⟨J,L,Z⟩:=jaf Z;refine ds G [(13,[0]),(15,[0])] (hD 6 H (hE 7 H (hD 10 I (hE 11 I (hD 12 K (hS 13 K O (hD 14 L (hS 15 L Q h0)))))))) ?_;refine rg G (jn Z (fun(M,e)=>⟨[(0,.own 0),(9,dV M)],[aX 0 3 e],48⟩) (fun vv Z=>?_) ?_)
 ·refine jaa (lp G Z (fun(v,i,d)=>⟨[(0,.own 0),(1,dV a),(9,dV v),(10,dV i)],[aX 0 3 d],48⟩) ?_);rintro⟨v,i,d⟩ N hb Z;rw[yed]at Z;refine jaa (jn Z (fun h=>⟨[(0,.own 0),(1,dV a),(9,dV h),(10,dV i)],[aX 0 3 d],48⟩) (fun h Z=>?_) ?_)
  ·refine jaa (lp G Z (fun s=>⟨[(0,.own 0),(1,dV a),(9,dV s),(10,dV i)],[aX 0 3 d],48⟩) ?_);rintro s N t Z;rw[yef]at Z;refine jab (jn Z (fun u=>⟨[(0,.own 0),(1,dV a),(9,dV s),(10,dV i),(43,dV u)],[aX 0 3 d],48⟩) (fun u Z=>?_) ?_)
   ·rcases bf Z with⟨f,Z⟩|⟨f,Z⟩
    ·obtain⟨R,j,T,k,P,w,Z⟩:=ob3 Z;refine de G [] (hO 3 (.b true) (hP f (hD 6 j (hE 7 j (hD 10 k (hE 11 k (hC 12 (ycr.c (_,_) w) h0))))))) ?_;exact wJ G Z
    ·refine de G [] (hO 3 (.b false) (hP f h0)) ?_;exact wJ G Z
   rintro u Z;refine cd Z ?_ ?_<;>intro Z
   ·exact jae (thN (jaa (rh G (ibN (wL G Z)))))
   ·exact jag (thE (thE (ibE (wD G Z t))))
  rintro h Z;refine jn Z (fun x=>⟨[(0,.own 0),(1,dV a),(9,dV h),(10,dV x)],[aX 0 3 d],48⟩) (fun x Z=>?_) ?_
  ·refine jaa (lp G Z (fun z=>⟨[(0,.own 0),(1,dV a),(9,dV h),(10,dV z)],[aX 0 3 d],48⟩) ?_);rintro z N A Z;rw[yee]at Z;refine jab (jn Z (fun B=>⟨[(0,.own 0),(1,dV a),(9,dV h),(10,dV z),(59,dV B)],[aX 0 3 d],48⟩) (fun B Z=>?_) ?_)
   ·rcases bf Z with⟨g,Z⟩|⟨g,Z⟩
    ·obtain⟨U,l,V,m,r3,C,Z⟩:=ob3 Z;refine de G [] (hO 3 (.b true) (hP g (hD 6 l (hE 7 l (hD 10 m (hE 11 m (hC 12 (ycr.c (_,_) C) h0))))))) ?_;exact wJ G Z
    ·refine de G [] (hO 3 (.b false) (hP g h0)) ?_;exact wJ G Z
   rintro B Z;refine cd Z ?_ ?_<;>intro Z
   ·exact jae (thN (jaa (rh G (ibN (wL G Z)))))
   ·exact jag (thE (thE (ibE (wD G Z A))))
  rintro x Z;refine jab (rg G (cd Z ?_ ?_))<;>intro Z
  ·exact jag (thE (ibX rfl (thE (ibE (wD G Z hb)))))
  ·refine jae (thN ?_);obtain⟨D,n,E,o,W,q,Z⟩:=ob3 Z;obtain⟨X,r,Z⟩:=jaf Z;refine ds G [(13,[0]),(15,[0])] (hD 6 n (hE 7 n (hD 10 o (hE 11 o (hD 12 q (hS 13 q D (hD 14 r (hS 15 r E h0)))))))) ?_;exact rg G (rh G (ibN (wL G Z)))
 rintro⟨M,e⟩ Z;refine rg G ?_;cases Z;exact rt [] []
def yl7:MS ((List Int)×Int×Int×Int) (Int×Bool×(List Int)):=⟨.x (.s 3) (.x .r (.x .r .r)),fun x=>yp8 x.1 x.2.1 x.2.2.1 x.2.2.2,fun y=>.tup [dV y.1,dV y.2.1],fun _=>[],fun _ y=>[arO 3 y.2.2]⟩
theorem yvb:FnOK Tryz.prog tJ 164 yl7.S:=by
 refine fm tt yl7 [fo yfo] call164 func164 rfl results164 ntmps164 ?_;rintro⟨F,a,b,p⟩ y cx G (Z:yp8 F a b p=some y);unfold yp8 at Z;refine rg G ?_;obtain⟨g,h4,h,h5,e6,h6,Z⟩:=ob3 Z;obtain⟨e7,h7,Z⟩:=jaf Z;refine ds G [(13,[0]),(15,[0])] (hD 6 h4 (hE 7 h4 (hD 10 h5 (hE 11 h5 (hD 12 h6 (hS 13 h6 g (hD 14 h7 (hS 15 h7 h h0)))))))) ?_;refine rg G (jn Z (fun q=>⟨[(0,.own 0),(1,dV a),(10,dV q),(11,dV (w64 (b-1)))],[aX 0 3 ((F.set a.toNat g).set p.toNat h)],48⟩) (fun q Z=>?_) ?_)
 ·refine jaa (lp G Z (fun v=>⟨[(0,.own 0),(1,dV a),(10,dV v),(11,dV (w64 (b-1)))],[aX 0 3 ((F.set a.toNat g).set p.toNat h)],48⟩) ?_);rintro v Y hb Z;rw[yec]at Z;refine jab (jn Z (fun v1=>⟨[(0,.own 0),(1,dV a),(10,dV v),(11,dV (w64 (b-1))),(43,dV v1)],[aX 0 3 ((F.set a.toNat g).set p.toNat h)],48⟩) (fun v1 Z=>?_) ?_)
  ·rcases bf Z with⟨i,Z⟩|⟨i,Z⟩
   ·obtain⟨ar,r,au,s,r1,ah,Z⟩:=ob3 Z;refine de G [] (hO 3 (.b true) (hP i (hD 6 r (hE 7 r (hD 10 s (hE 11 s (hC 12 (ycr.c (_,_) ah) h0))))))) ?_;exact wJ G Z
   ·refine de G [] (hO 3 (.b false) (hP i h0)) ?_;exact wJ G Z
  rintro v1 Z;refine cd Z ?_ ?_<;>intro Z
  ·exact jae (thN (jaa (rh G (ibN (wL G Z)))))
  ·exact jag (thE (thE (ibE (wD G Z hb))))
 rintro q Z;refine jn Z (fun v5=>⟨[(0,.own 0),(1,dV a),(10,dV q),(11,dV v5)],[aX 0 3 ((F.set a.toNat g).set p.toNat h)],48⟩) (fun v5 Z=>?_) ?_
 ·refine jaa (lp G Z (fun v3=>⟨[(0,.own 0),(1,dV a),(10,dV q),(11,dV v3)],[aX 0 3 ((F.set a.toNat g).set p.toNat h)],48⟩) ?_);rintro v3 Y am Z;rw[yeb]at Z;refine jab (jn Z (fun v4=>⟨[(0,.own 0),(1,dV a),(10,dV q),(11,dV v3),(60,dV v4)],[aX 0 3 ((F.set a.toNat g).set p.toNat h)],48⟩) (fun v4 Z=>?_) ?_)
  ·rcases bf Z with⟨j,Z⟩|⟨j,Z⟩
   ·obtain⟨aw,t,ax,u,r3,ai,Z⟩:=ob3 Z;refine de G [] (hO 3 (.b true) (hP j (hD 6 t (hE 7 t (hD 10 u (hE 11 u (hC 12 (ycr.c (_,_) ai) h0))))))) ?_;exact wJ G Z
   ·refine de G [] (hO 3 (.b false) (hP j h0)) ?_;exact wJ G Z
  rintro v4 Z;refine cd Z ?_ ?_<;>intro Z
  ·exact jae (thN (jaa (rh G (ibN (wL G Z)))))
  ·exact jag (thE (thE (ibE (wD G Z am))))
 rintro v5 Z;refine jab (rg G (cd Z ?_ ?_))<;>intro Z
 ·obtain⟨J,w,P,x,ay,z,Z⟩:=ob3 Z;obtain⟨az,A,Z⟩:=jaf Z;refine ds G [(13,[0]),(15,[0])] (hD 6 w (hE 7 w (hD 10 x (hE 11 x (hD 12 z (hS 13 z J (hD 14 A (hS 15 A P h0)))))))) ?_;refine rg G ?_;cases Z;exact rt [] []
 ·refine jae (thN ?_);obtain⟨aa,B,ab,C,aA,D,Z⟩:=ob3 Z;obtain⟨aB,E,Z⟩:=jaf Z;refine ds G [(13,[0]),(15,[0])] (hD 6 B (hE 7 B (hD 10 C (hE 11 C (hD 12 D (hS 13 D aa (hD 14 E (hS 15 E ab h0)))))))) ?_;refine rg G (rg G (jn Z (fun(H,f)=>⟨[(0,.own 0),(1,dV a),(11,dV H)],[aX 0 3 f],48⟩) (fun vv Z=>?_) ?_))
  ·refine jaa (lp G Z (fun(v6,I,d)=>⟨[(0,.own 0),(1,dV a),(10,dV v6),(11,dV I)],[aX 0 3 d],48⟩) ?_);rintro⟨v6,I,d⟩ Y ao Z;rw[yd8]at Z;refine jaa (jn Z (fun e=>⟨[(0,.own 0),(1,dV a),(10,dV e),(11,dV I)],[aX 0 3 d],48⟩) (fun e Z=>?_) ?_)
   ·refine jaa (lp G Z (fun v8=>⟨[(0,.own 0),(1,dV a),(10,dV v8),(11,dV I)],[aX 0 3 d],48⟩) ?_);rintro v8 Y ap Z;rw[yea]at Z;refine jab (jn Z (fun v9=>⟨[(0,.own 0),(1,dV a),(10,dV v8),(11,dV I),(112,dV v9)],[aX 0 3 d],48⟩) (fun v9 Z=>?_) ?_)
    ·rcases bf Z with⟨k,Z⟩|⟨k,Z⟩
     ·obtain⟨aC,K,aD,L,r5,aj,Z⟩:=ob3 Z;refine de G [] (hO 3 (.b true) (hP k (hD 6 K (hE 7 K (hD 10 L (hE 11 L (hC 12 (ycr.c (_,_) aj) h0))))))) ?_;exact wJ G Z
     ·refine de G [] (hO 3 (.b false) (hP k h0)) ?_;exact wJ G Z
    rintro v9 Z;refine cd Z ?_ ?_<;>intro Z
    ·exact jae (thN (jaa (rh G (ibN (wL G Z)))))
    ·exact jag (thE (thE (ibE (wD G Z ap))))
   rintro e Z;refine jn Z (fun l=>⟨[(0,.own 0),(1,dV a),(10,dV e),(11,dV l)],[aX 0 3 d],48⟩) (fun l Z=>?_) ?_
   ·refine jaa (lp G Z (fun m=>⟨[(0,.own 0),(1,dV a),(10,dV e),(11,dV m)],[aX 0 3 d],48⟩) ?_);rintro m Y aq Z;rw[yd9]at Z;refine jab (jn Z (fun n=>⟨[(0,.own 0),(1,dV a),(10,dV e),(11,dV m),(129,dV n)],[aX 0 3 d],48⟩) (fun n Z=>?_) ?_)
    ·rcases bf Z with⟨o,Z⟩|⟨o,Z⟩
     ·obtain⟨aE,M,aF,N,r7,ak,Z⟩:=ob3 Z;refine de G [] (hO 3 (.b true) (hP o (hD 6 M (hE 7 M (hD 10 N (hE 11 N (hC 12 (ycr.c (_,_) ak) h0))))))) ?_;exact wJ G Z
     ·refine de G [] (hO 3 (.b false) (hP o h0)) ?_;exact wJ G Z
    rintro n Z;refine cd Z ?_ ?_<;>intro Z
    ·exact jae (thN (jaa (rh G (ibN (wL G Z)))))
    ·exact jag (thE (thE (ibE (wD G Z aq))))
   rintro l Z;refine jab (rg G (cd Z ?_ ?_))<;>intro Z
   ·exact jag (thE (ibX rfl (thE (ibE (wD G Z ao)))))
   ·refine jae (thN ?_);obtain⟨ac,O,ad,Q,aG,R,Z⟩:=ob3 Z;obtain⟨aH,T,Z⟩:=jaf Z;refine ds G [(13,[0]),(15,[0])] (hD 6 O (hE 7 O (hD 10 Q (hE 11 Q (hD 12 R (hS 13 R ac (hD 14 T (hS 15 T ad h0)))))))) ?_;exact rg G (rh G (ibN (wL G Z)))
  rintro⟨H,f⟩ Z;obtain⟨ae,U,af,V,aI,W,Z⟩:=ob3 Z;obtain⟨aJ,X,Z⟩:=jaf Z;refine ds G [(13,[0]),(15,[0])] (hD 6 U (hE 7 U (hD 10 V (hE 11 V (hD 12 W (hS 13 W ae (hD 14 X (hS 15 X af h0)))))))) ?_;refine rg G ?_;cases Z;exact rt [] []
def ymc:MS Int (IK .u64):=mR yd4
theorem yvf:FnOK Tryz.prog tJ 173 ymc.S:=by
 refine fm tt ymc [fo ylm] call173 func173 rfl results173 ntmps173 ?_;rintro length y cx G (Z:yd4 length=some y);unfold yd4 at Z;refine rg G ?_;obtain⟨r,h,u,a,Z⟩:=ob2 Z;refine rs G (hC 2 (yjq.c _ h) (hK a h0)) ?_;cases Z;exact rt [] []
def yl2:MS (IK .u64) ((IK .u64)×(IK .u64)):=⟨.b 193,ydq,fun y=>dV y.1,fun _=>[],fun _ y=>[bxO 193 y.2]⟩
theorem yu5:FnOK Tryz.prog tJ 174 yl2.S:=by
 refine fm tt yl2 [] call174 func174 rfl results174 ntmps174 ?_;rintro r y cx G (Z:ydq r=some y);unfold ydq at Z;refine rg G ?_;obtain⟨d,a,Z⟩:=jaf Z;refine ds G [(9,[0])] (hK a h0) ?_;obtain⟨e,b,Z⟩:=jaf Z;refine ds G [(9,[0])] (hK b h0) ?_;obtain⟨f,c,Z⟩:=jaf Z;refine ds G [(9,[0])] (hK c h0) ?_;refine rg G ?_;cases Z;exact rt [] []
def ymi:MS ((List Int)×Int×Int) ((List Int)):=⟨.x (.s 3) (.x .r .r),fun x=>yqe x.1 x.2.1 x.2.2,fun _=>.tup [],fun _=>[],fun _ y=>[arO 3 y]⟩
theorem yvl:FnOK Tryz.prog tJ 158 ymi.S:=by
 refine fm tt ymi [fo yvf,fo yu5] call158 func158 rfl results158 ntmps158 ?_;rintro⟨p,a,b⟩ y cx G (Z:yqe p a b=some y);unfold yqe at Z;refine rg G (rg G (cd Z ?_ ?_))<;>intro Z
 ·refine rg G ?_;obtain⟨r,h,Z⟩:=jaf Z;refine rs G (hC 1 (ymc.c _ h) h0) ?_;obtain⟨u,l,Z⟩:=jaf Z;refine rs G (hK l h0) ?_;refine jaa (lp G Z (fun(v,d,i)=>⟨[(0,.own 0),(1,dV a),(6,dV (w64 (b-a))),(7,.ref 32 0),(8,kV .u64 r.v),(9,dV v)],[aX 0 3 d,bX 32 193 [kV .u64 i]],64⟩) ?_);rintro⟨v,d,i⟩ t hb Z;rw[yeo]at Z;refine jab ?_;obtain⟨w,m,Z⟩:=jaf Z;refine rs G (hK m h0) ?_;refine cd Z ?_ ?_<;>intro Z
  ·refine jae (thN (jab (jaa ?_)));obtain⟨n,o,Z⟩:=jaf Z;refine rs G (hC 0 (yl2.c _ o) h0) ?_;refine jn Z (fun g=>⟨[(0,.own 0),(1,dV a),(6,dV (w64 (b-a))),(7,.ref 32 0),(8,kV .u64 r.v),(9,dV v),(10,dV g)],[aX 0 3 d,bX 32 193 [kV .u64 n.2.v]],64⟩) (fun g Z=>?_) ?_
   ·refine rg G (cd Z ?_ ?_)<;>intro Z
    ·exact rh G (wJ G Z)
    ·exact jae (wJ G Z)
   rintro g Z;obtain⟨q,j,s,k,x,e,Z⟩:=ob3 Z;obtain⟨z,f,Z⟩:=jaf Z;refine de G [(17,[0]),(19,[0])] (hD 10 j (hE 11 j (hD 14 k (hE 15 k (hD 16 e (hS 17 e q (hD 18 f (hS 19 f s h0)))))))) ?_;exact ibN (thN (rh G (wL G Z)))
  ·have Z:=eD Z hb;refine jag (thE (thE (ibE ?_)));cases Z;exact fN [] []
 ·refine jae ?_;cases Z;exact fN [] []
def yb4(a:(List Int)->Int->Int->Int->Option ((List Int))):MS ((List Int)×Int×Int×Int) ((List Int)):=⟨.x (.s 3) (.x .r (.x .r .r)),fun x=>a x.1 x.2.1 x.2.2.1 x.2.2.2,fun _=>.tup [],fun _=>[],fun _ y=>[arO 3 y]⟩
def yl5:MS ((List Int)×Int×Int×Int) ((List Int)):=yb4 yu9
theorem KX{data a b limit y}(Z:yu9 data a b limit=some y):yl5.C (data,a,b,limit) y:=yl5.c (data,a,b,limit) Z
theorem yor{d:(List Int)->Int->Int->Int->Option ((List Int))}{data a b limit y}(Z:d data a b limit=some y):(yb4 d).C (data,a,b,limit) y:=(yb4 d).c (data,a,b,limit) Z
theorem ys0{ac:(List Int)->Int->Int->Int->Option ((List Int))}(ae:FnOK Tryz.prog tJ 131 (yb4 ac).S):FnOK Tryz.prog tJ 131 (yb4 (yci ac)).S:=by
 refine fm tt (yb4 (yci ac)) [fo ae,fo yvh,fo yvj,fo yvl,fo yvk,fo yu7,fo yvd,fo yfo,fo yvc,fo yvb] call131 func131 rfl results131 ntmps131 ?_;rintro⟨ad,a,b,limit⟩ y cx G (Z:yci ac ad a b limit=some y);unfold yci at Z;refine rg G (rg G (jaa (lp G Z (fun(a1,b1,ab,J,aa,f)=>⟨[(0,.own 0),(1,dV a1),(2,dV b1),(3,dV ab),(8,dV J),(9,dV aa)],[aX 0 3 f],48⟩) ?_)));rintro⟨a1,b1,ab,J,aa,f⟩ O hb Z;rw[yd7]at Z;refine jaa (rg G (jab (rg G (cd Z ?_ ?_))))<;>intro Z
 ·obtain⟨r,h,Z⟩:=jaf Z;refine rs G (hC 3 (yme.c (_,_,_) h) h0) ?_;have Z:=eD Z hb;cases Z;exact rt [] []
 ·refine jae (thN (jab (rg G (cd Z ?_ ?_))))<;>intro Z
  ·obtain⟨Q,A,Z⟩:=jaf Z;refine rs G (hC 3 (ymg.c (_,_,_) A) h0) ?_;have Z:=eD Z hb;cases Z;exact rt [] []
  ·refine jae (thN (jn Z (fun(F,g)=>⟨[(0,.own 0),(1,dV a1),(2,dV b1),(3,dV F),(8,dV J),(9,dV aa),(10,dV (w64 (b1-a1)))],[aX 0 3 g],48⟩) (fun B Z=>?_) ?_))
   ·refine rg G (cd Z ?_ ?_)<;>intro Z
    ·obtain⟨R,C,Z⟩:=jaf Z;refine rs G (hC 3 (ymi.c (_,_,_) C) h0) ?_;exact rh G (wJ G Z)
    ·exact jae (wJ G Z)
   rintro⟨F,g⟩ Z;obtain⟨T,D,Z⟩:=jaf Z;refine rs G (hC 3 (ymh.c (_,_,_) D) h0) ?_;refine jn Z (fun(p,P,d)=>⟨[(0,.own 0),(1,dV a1),(2,dV b1),(3,dV F),(8,dV J),(9,dV aa),(10,dV (w64 (b1-a1))),(11,dV p),(12,dV P)],[aX 0 3 d],48⟩) (fun vv Z=>?_) ?_
   ·refine rg G (cd Z ?_ ?_)<;>intro Z
    ·obtain⟨U,E,Z⟩:=jaf Z;refine rs G (hC 3 (yl4.c (_,_,_) E) h0) ?_;exact rg G (rh G (wJ G Z))
    ·exact jae (wJ G Z)
   rintro⟨p,P,d⟩ Z;refine jF Z (fun e=>⟨[(0,.own 0),(1,dV a1),(2,dV b1),(3,dV F),(8,dV J),(9,dV aa),(10,dV (w64 (b1-a1))),(11,dV p)],[aX 0 3 e],48⟩) (fun V m Z=>?_) ?_
   ·refine jn Z (fun v=>⟨[(0,.own 0),(1,dV a1),(2,dV b1),(3,dV F),(8,dV J),(9,dV aa),(10,dV (w64 (b1-a1))),(11,dV p),(68,dV v)],[aX 0 3 d],48⟩) (fun v Z=>?_) ?_
    ·rcases bf Z with⟨i,Z⟩|⟨i,Z⟩
     ·rcases bf Z with⟨j,Z⟩|⟨j,Z⟩
      ·refine re G (hO 1 (.b true) (hP i (hO 4 (.b true) (hP j h0)))) ?_;exact wJ G Z
      ·refine re G (hO 1 (.b true) (hP i (hO 4 (.b false) (hP j h0)))) ?_;exact wJ G Z
     ·refine re G (hO 1 (.b false) (hP i h0)) ?_;exact wJ G Z
    rintro v Z;refine cd Z ?_ ?_<;>intro Z
    ·obtain⟨W,H,Z⟩:=jaf Z;refine rs G (hC 3 (yl9.c (_,_,_) H) h0) ?_;refine cd Z ?_ ?_<;>intro Z
     ·have Z:=eR Z m;have Z:=eD Z hb;cases Z;exact rt [] []
     ·exact jae (wF G Z)
    ·exact jae (wF G Z)
   rintro e Z;refine jab (jn Z (fun n=>⟨[(0,.own 0),(1,dV a1),(2,dV b1),(3,dV F),(8,dV J),(9,dV aa),(10,dV (w64 (b1-a1))),(11,dV p),(87,dV n)],[aX 0 3 e],48⟩) (fun n Z=>?_) ?_)
   ·rcases bf Z with⟨k,Z⟩|⟨k,Z⟩
    ·obtain⟨X,z,Y,l,I,o,Z⟩:=ob3 Z;refine de G [] (hO 2 (.b true) (hP k (hD 6 z (hE 7 z (hD 10 l (hE 11 l (hC 12 (ycr.c (_,_) o) h0))))))) ?_;exact wJ G Z
    ·refine de G [] (hO 2 (.b false) (hP k h0)) ?_;exact wJ G Z
   rintro n Z;refine cd Z ?_ ?_<;>intro Z
   ·obtain⟨K,q,Z⟩:=jaf Z;refine rs G (hC 4 (yl8.c (_,_,_,_) q) h0) ?_;exact rg G (jag (thE (ibE (wL G Z))))
   ·refine jae (thN ?_);obtain⟨L,s,Z⟩:=jaf Z;refine rs G (hC 4 (yl7.c (_,_,_,_) s) h0) ?_;refine rg G (rg G ?_);obtain⟨u,t,Z⟩:=jaf Z;refine rs G (hK t h0) ?_;refine rg G (cd Z ?_ ?_)<;>intro Z
    ·refine rg G ?_;obtain⟨M,w,Z⟩:=jaf Z;refine rs G (hC 4 (yor w) h0) ?_;exact rh G (ibN (wL G Z))
    ·refine rg G ?_;obtain⟨N,x,Z⟩:=jaf Z;refine rs G (hC 5 (yor x) h0) ?_;exact rh G (ibN (wL G Z))
theorem yjt:∀k,FnOK Tryz.prog tJ 131 (yb4 (yfp k)).S
 |0=>⟨fun args w=>call131 args w,fun vs w F ds obs κ a=>by obtain⟨x,y,_,_,h⟩:=a;cases h⟩
 |k+1=>ys0 (yjt k)
theorem yu8:FnOK Tryz.prog tJ 131 yl5.S:=yjt 4294967296
def ymj:MS (List Int) (List Int):=⟨.s 3,ymk,fun _=>.tup [],fun _=>[],fun _ y=>[arO 3 y]⟩
theorem yvm:FnOK Tryz.prog tJ 95 ymj.S:=by
 refine fm tt ymj [fo ylm,fo yu8] call95 func95 rfl results95 ntmps95 ?_;rintro x y cx G (Z:ymk x=some y);unfold ymk at Z;refine rs G (hN 1 x h0) ?_;obtain⟨r,h,b,a,Z⟩:=ob2 Z;refine re G (hC 4 (yjq.c _ h) (hC 5 (KX a) h0)) ?_;cases Z;exact fN [] []
def yh1:MS (List Int) (List Int):=⟨.r,yh2,fun _=>.own 0,fun y=>[arO 3 y],fun _ _=>[]⟩
theorem yow:FnOK Tryz.prog tJ 62 yh1.S:=by
 refine fm tt yh1 [] call62 func62 rfl results62 ntmps62 ?_;rintro s y cx G (Z:yh2 s=some y);unfold yh2 at Z;obtain⟨u,h,Z⟩:=jaf Z;cases Z;refine rg G (jab (PI G.t.ty G.ok 1 (ds:=List.map Enc.e s) (es:=1) [] .nil (by kernel_rfl) (by rfl) (by rfl) (by kernel_rfl) ?_));intro b hb;refine yU b (by kernel_rfl) (fun hc=>?_) (fun hc=>?_)
 ·have c:s=[]:=by
   cases s with
   |nil=>rfl
   |cons a r=>have:=hb (by simp);rw[hc]at this;cases this
  subst c;refine rg G (jah (Wk_J (x':=⟨[(2,.own 16)],[(16,some (.arr 3 1 []))],32⟩) G.hL ⟨[(2,[.o 16])],[],[(16,3,1,[])],32⟩ (by kernel_rfl)) ?_);exact rt [16] []
 ·refine sN (rs G (hA 2 8 h h0) ?_);exact rt [96] []
def ys6:MS (List Int) (List Int):=⟨.m 3,Bc,fun _=>.own 0,fun y=>[arO 3 y],fun _ _=>[]⟩
def ys5:Go.Shelf.Ren:=⟨fun x=>bif Nat.beq x 20 then 96 else x,fun x=>bif Nat.beq x 22 then 53 else bif Nat.beq x 3 then 3 else bif Nat.beq x 4 then 4 else x,fun x=>x⟩
theorem KU:Tryz.f96=Go.Proofs.Body2.n20 ys5:=by kernel_rfl
theorem yvx:FnOK Tryz.prog tJ 96 ys6.S:=NV tt ys5 call96 (func96.trans (congrArg some KU)) (b0:=0) (e0:=false) ⟨Tryz.underlying0,Tryz.t0,Tryz.type0,rfl,rfl,rfl,nofun⟩ (by kernel_rfl) (by kernel_rfl) (by kernel_rfl)
def yd1:MS (bA×(List Int)) vT:=mS zq50
theorem yhg:FnOK Tryz.prog tJ 57 yd1.S:=by
 refine fm tt yd1 [fo yln,fo ylu] call57 func57 rfl results57 ntmps57 ?_;rintro⟨t,l⟩ y cx G (Z:zq50 t l=some y);unfold zq50 at Z;refine rg G ?_;obtain⟨g,a,h,b,i,d,Z⟩:=ob3 Z;obtain⟨j,e,k,f,Z⟩:=ob2 Z;refine ds G [(17,[32])] (hD 2 a (hC 4 (yfh.c (_,_) b) (hN 10 l (hD 12 d (hC 14 (yfh.c (_,_) e) (hC 15 (yjr.c (_,_) f) h0)))))) ?_;cases Z;exact rt [] []
def yon:MS (bA×bL×(List (List Int))) ((List Int)):=⟨.x .r (.x .r .r),fun x=>zq31 x.1 x.2.1 x.2.2,fun _=>.own 0,fun y=>[arO 3 y],fun _ _=>[]⟩
theorem ysk:FnOK Tryz.prog tJ 58 yon.S:=by
 refine fm tt yon [fo yhg,fo yln,fo ysq] call58 func58 rfl results58 ntmps58 ?_;rintro⟨t,f,pieces⟩ y cx G (Z:zq31 t f pieces=some y);unfold zq31 at Z;refine rg G (rg G (jab (rg G (tl Z (fun p=>⟨[(7,.own 16)],[aX 16 3 p],48⟩) (fun p Z=>?_) ?_))))
 ·refine jaa (lpP Z (fun(v,b)=>⟨[(2,dV pieces),(3,.ref 16 0),(4,.ref 32 0),(7,.own 48),(8,dV v)],[cu 16 t,dI 32 f,aX 48 3 b],80⟩) (Wk_J G.hL ⟨[(2,[]),(3,[]),(4,[]),(7,[.o 48]),(8,[])],[(16,16,[]),(32,32,[])],[(48,3,1,[])],80⟩ (by kernel_rfl)) ?_);rintro⟨v,b⟩ q hb Z;rw[ylt]at Z;refine jab (rs G (hN 2 pieces h0) ?_);refine cd Z ?_ ?_<;>intro Z
  ·refine jae (thN (jab (jaa ?_)));obtain⟨l,m,r,n,Z⟩:=ob2 Z;refine ds G [] (hD 3 m (hD 7 n h0)) ?_;obtain⟨u,a,w,d,x,e,Z⟩:=ob3 Z;obtain⟨z,g,A,h,B,i,Z⟩:=ob3 Z;obtain⟨C,j,D,k,Z⟩:=ob2 Z;refine de G [(28,[48,752])] (hC 3 (yd1.c (_,_) a) (hC 7 (yd1.c (_,_) d) (hN 15 l (hD 17 e (hC 19 (yfh.c (_,_) g) (hD 22 h (hC 24 (yfh.c (_,_) i) (hC 25 (yoo.c (_,_,_,_) j) (hA 28 8 k h0))))))))) ?_;exact ibN (thN (rh G (wL G Z)))
  ·exact jag (thE (thE (ibE (wD G Z hb))))
 rintro p Z s E;refine thN (jah E ?_);refine rg G ?_;cases Z;exact rt [16] []
def ysd:MS (bA×cB×bB) Int:=⟨.x .r (.x .r .r),fun x=>zq42 x.1 x.2.1 x.2.2,fun y=>dV y,fun _=>[],fun _ _=>[]⟩
theorem yyi:FnOK Tryz.prog tJ 97 ysd.S:=by
 refine fm tt ysd [fo yhg] call97 func97 rfl results97 ntmps97 ?_;rintro⟨t,r,d⟩ y cx G (Z:zq42 t r d=some y);unfold zq42 at Z;refine rg G ?_;obtain⟨g,a,h,b,i,e,Z⟩:=ob3 Z;obtain⟨j,f,Z⟩:=jaf Z;refine ds G [] (hN 7 d.bE (hD 9 a (hC 11 (yd1.c (_,_) b) (hD 17 e (hC 19 (yd1.c (_,_) f) h0))))) ?_;cases Z;exact rt [] []
def yjs:MS (bA×bL×(List (List Int))×cB×bB) Int:=⟨.x .r (.x .r (.x .r (.x .r .r))),fun x=>zq16 x.1 x.2.1 x.2.2.1 x.2.2.2.1 x.2.2.2.2,fun y=>dV y,fun _=>[],fun _ _=>[]⟩
theorem ysz:FnOK Tryz.prog tJ 55 yjs.S:=by
 refine fm tt yjs [fo ydn,fo KQ,fo yvm,fo yow,fo yvx,fo yhg,fo ysk,fo yyi] call55 func55 rfl results55 ntmps55 ?_;rintro⟨t,f,p,r,d⟩ y cx G (Z:zq16 t f p r d=some y);unfold zq16 at Z;refine rg G (jab ?_);obtain⟨Q,h,Z⟩:=jaf Z;refine rs G (hN 2 d.bE (hC 3 (ybr h) h0)) ?_;refine cd Z ?_ ?_<;>intro Z
 ·refine rg G ?_;cases Z;exact rt [] []
 ·refine jae (thN (rg G (jab (rs G (hN 2 d.bE h0) ?_))));refine tF Z (fun q=>⟨[(5,.ref 16 0),(6,.ref 32 0),(8,.ref 48 0),(9,.ref 64 0),(11,.own 80)],[cu 16 t,dI 32 f,eu 48 r,jT 64 d,aX 80 3 q],112⟩) (fun R F Z=>?_) ?_
  ·refine jaa (lpP Z (fun(v,s)=>⟨[(2,dV p),(5,.ref 16 0),(6,.ref 32 0),(8,.ref 48 0),(9,.ref 64 0),(11,.own 80),(25,dV d.bE),(26,dV (d.bE.length:Int)),(27,dV v)],[cu 16 t,dI 32 f,eu 48 r,jT 64 d,aX 80 3 s],112⟩) (Wk_J G.hL ⟨[(2,[]),(5,[]),(6,[]),(8,[]),(9,[]),(11,[.o 80]),(25,[]),(26,[]),(27,[])],[(16,16,[]),(32,32,[]),(48,48,[]),(64,64,[])],[(80,3,1,[])],112⟩ (by kernel_rfl)) ?_);rintro⟨v,s⟩ w hb Z;rw[yhs]at Z;refine rg G (jab (cd Z ?_ ?_))<;>intro Z
   ·refine jae (thN (jab (jaa ?_)));obtain⟨e,A,Z⟩:=jaf Z;refine rs G (hD 0 A h0) ?_;refine jab ?_;obtain⟨T,B,Z⟩:=jaf Z;refine rs G (hC 2 (ysg.c (_,_) B) h0) ?_;refine cd Z ?_ ?_<;>intro Z
    ·refine rg G ?_;have Z:=eL Z hb F;cases Z;exact rt [] []
    ·refine jae (thN ?_);obtain⟨u,C,Z⟩:=jaf Z;refine re G (hA 2 8 C h0) ?_;exact ibN (thN (rh G (wL G Z)))
   ·exact jag (thE (thE (ibE (wE G Z hb))))
  rintro q Z U J;refine thN (jah J ?_);obtain⟨D,E,Z⟩:=jaf Z;refine rs G (hC 1 (ymj.c _ E) h0) ?_;refine jab ?_;obtain⟨V,H,I,K,Z⟩:=ob2 Z;refine rs G (hF 1 (yh1.c _ H) ⟨(jh1 Hz zF),zF⟩ (hC 2 (ys6.c _ K) (hN 3 I (hN 5 D h0)))) ?_;refine cd Z ?_ ?_<;>intro Z
  ·refine rg G ?_;cases Z;exact rt [] []
  ·refine jae (thN (jab (rs G (hN 2 d.bE h0) ?_)));refine tF Z (fun _=>⟨[(5,.ref 16 0),(6,.ref 32 0),(8,.ref 48 0),(9,.ref 64 0)],[cu 16 t,dI 32 f,eu 48 r,jT 64 d],96⟩) (fun W i Z=>?_) ?_
   ·refine jaa (lp G Z (fun x=>⟨[(5,.ref 16 0),(6,.ref 32 0),(8,.ref 48 0),(9,.ref 64 0),(49,dV d.bE),(50,dV (d.bE.length:Int)),(51,dV x)],[cu 16 t,dI 32 f,eu 48 r,jT 64 d],96⟩) ?_);rintro x w a Z;rw[ydp]at Z;refine rg G (jab (cd Z ?_ ?_))<;>intro Z
    ·refine jae (thN (jab (jaa ?_)));obtain⟨X,L,Z⟩:=jaf Z;refine rs G (hD 0 L h0) ?_;obtain⟨Y,M,Z⟩:=jaf Z;refine rs G (hC 2 (yd1.c (_,_) M) h0) ?_;refine rg G (cd Z ?_ ?_)<;>intro Z
     ·refine rg G ?_;have Z:=eL Z a i;cases Z;exact rt [] []
     ·exact jae (ibN (thN (rh G (wL G Z))))
    ·exact jag (thE (thE (ibE (wE G Z a))))
   rintro⟨⟩ Z s3 j;refine thN (jah j ?_);refine jab ?_;obtain⟨k,N,Z⟩:=jaf Z;refine rs G (hC 4 (yon.c (_,_,_) N) (hN 5 k h0)) ?_;refine tF Z (fun _=>⟨[(5,.ref 16 0),(8,.ref 32 0),(9,.ref 48 0)],[cu 16 t,eu 32 r,jT 48 d],80⟩) (fun v3 l Z=>?_) ?_
   ·refine jaa (lp G Z (fun z=>⟨[(5,.ref 16 0),(8,.ref 32 0),(9,.ref 48 0),(71,.own 64),(72,dV (k.length:Int)),(73,dV z)],[cu 16 t,eu 32 r,jT 48 d,aX 64 3 k],96⟩) ?_);rintro z w b Z;rw[ydo]at Z;refine rg G (jab (cd Z ?_ ?_))<;>intro Z
    ·refine jae (thN (jab (jaa ?_)));obtain⟨P,g,Z⟩:=jaf Z;refine rs G (hD 0 g (hE 1 g h0)) ?_;refine rg G (cd Z ?_ ?_)<;>intro Z
     ·refine rg G ?_;have Z:=eL Z b l;cases Z;exact rt [] []
     ·exact jae (ibN (thN (rh G (wL G Z))))
    ·exact jag (thE (thE (ibE (wE G Z b))))
   rintro⟨⟩ Z s4 m;refine thN (jah m ?_);refine jab ?_;obtain⟨O,n,Z⟩:=jaf Z;refine ds G [] (hC 3 (ysd.c (_,_,_) n) h0) ?_;refine cd Z ?_ ?_<;>intro Z
   ·refine rg G ?_;cases Z;exact rt [] []
   ·refine jae (thN (rg G ?_));cases Z;exact rt [] []
def yom:MS (bA×bL×(List (List Int))×cB×(List bB)) Bool:=⟨.x .r (.x .r (.x .r (.x .r .r))),fun x=>zq32 x.1 x.2.1 x.2.2.1 x.2.2.2.1 x.2.2.2.2,fun y=>dV y,fun _=>[],fun _ _=>[]⟩
theorem ysj:FnOK Tryz.prog tJ 23 yom.S:=by
 refine fm tt yom [fo ysz,fo yfi] call23 func23 rfl results23 ntmps23 ?_;rintro⟨t,f,J,r,F⟩ y cx G (Z:zq32 t f J r F=some y);unfold zq32 at Z;refine rg G (rg G (rg G (jab (rs G (hN 1 F h0) ?_))));refine tF Z (fun p5=>⟨[(5,.ref 16 0),(12,dV p5)],[cu 16 t],48⟩) (fun M P Z=>?_) ?_
 ·refine jaa (lp G Z (fun(p,v,a,m)=>⟨[(2,dV J),(5,.ref 16 0),(6,.ref 32 0),(8,.ref 48 0),(11,.eref 64 1 0 0),(12,dV p),(13,dV v),(21,dV F),(22,dV (F.length:Int)),(23,dV a)],[cu 16 t,dI 32 f,eu 48 r,aX 64 4 m],96⟩) ?_);rintro⟨p,v,a,m⟩ D hb Z;rw[ycg]at Z;refine rg G (jab (cd Z ?_ ?_))<;>intro Z
  ·refine jae (thN (jab (jaa ?_)));obtain⟨e,h,Z⟩:=jaf Z;refine rs G (hD 0 h h0) ?_;refine jab ?_;obtain⟨r1,E,Z⟩:=jaf Z;refine jn Z (fun n=>⟨[(2,dV J),(5,.ref 16 0),(6,.ref 32 0),(8,.ref 48 0),(11,.eref 64 1 0 0),(12,dV p),(15,.ref 80 0),(21,dV F),(22,dV (F.length:Int)),(23,dV a),(43,dV n)],[cu 16 t,dI 32 f,eu 48 r,aX 64 4 m,jT 80 e],112⟩) (fun n Z=>?_) ?_
   ·rcases bf Z with⟨d,Z⟩|⟨d,Z⟩
    ·refine re G (hC 5 (yjs.c (_,_,_,_,_) E) (hO 7 (.b true) (hP d h0))) ?_;exact wJ G Z
    ·obtain⟨e1,N,e2,O,Z⟩:=ob2 Z;refine re G (hC 5 (yjs.c (_,_,_,_,_) E) (hO 7 (.b false) (hP d (hD 10 N (hD 12 O h0))))) ?_;exact wJ G Z
   rintro n Z;refine cd Z ?_ ?_<;>intro Z
   ·refine rg G ?_;have Z:=eL Z hb P;cases Z;exact rt [] []
   ·refine jae (thN ?_);obtain⟨e4,Q,k,R,Z⟩:=ob2 Z;refine rs G (hD 2 Q (hD 4 R h0)) ?_;refine rs G (hN 2 e.bE h0) ?_;refine tF Z (fun(p4,g)=>⟨[(2,dV J),(5,.ref 16 0),(6,.ref 32 0),(8,.ref 48 0),(11,.eref 64 1 0 0),(12,dV p4),(13,dV k),(21,dV F),(22,dV (F.length:Int)),(23,dV a)],[cu 16 t,dI 32 f,eu 48 r,aX 64 4 g],96⟩) (fun T o Z=>?_) ?_
    ·refine jaa (lp G Z (fun(p1,l,H)=>⟨[(2,dV J),(5,.ref 16 0),(6,.ref 32 0),(8,.ref 48 0),(11,.eref 64 1 0 0),(12,dV p1),(13,dV k),(21,dV F),(22,dV (F.length:Int)),(23,dV a),(51,dV e.bE),(52,dV (e.bE.length:Int)),(53,dV l)],[cu 16 t,dI 32 f,eu 48 r,aX 64 4 H],96⟩) ?_);rintro⟨p1,l,H⟩ D i Z;rw[yfl]at Z;refine rg G (jab (cd Z ?_ ?_))<;>intro Z
     ·refine jae (thN (jab (jaa ?_)));obtain⟨q,U,Z⟩:=jaf Z;refine rs G (hD 0 U h0) ?_;refine rs G (hN 1 q h0) ?_;refine tF Z (fun(p3,I)=>⟨[(2,dV J),(5,.ref 16 0),(6,.ref 32 0),(8,.ref 48 0),(11,.eref 64 1 0 0),(12,dV p3),(13,dV k),(21,dV F),(22,dV (F.length:Int)),(23,dV a),(51,dV e.bE),(52,dV (e.bE.length:Int)),(53,dV l)],[cu 16 t,dI 32 f,eu 48 r,aX 64 4 I],96⟩) (fun v9 w Z=>?_) ?_
      ·refine jaa (lp G Z (fun(p2,K,L)=>⟨[(2,dV J),(5,.ref 16 0),(6,.ref 32 0),(8,.ref 48 0),(11,.eref 64 1 0 0),(12,dV p2),(13,dV k),(21,dV F),(22,dV (F.length:Int)),(23,dV a),(51,dV e.bE),(52,dV (e.bE.length:Int)),(53,dV l),(57,dV q),(58,dV (q.length:Int)),(59,dV K)],[cu 16 t,dI 32 f,eu 48 r,aX 64 4 L],96⟩) ?_);rintro⟨p2,K,L⟩ D j Z;rw[yhn]at Z;refine rg G (jab (cd Z ?_ ?_))<;>intro Z
       ·refine jae (thN (jab (jaa ?_)));obtain⟨e7,V,Z⟩:=jaf Z;refine rs G (hD 0 V h0) ?_;obtain⟨r3,W,Z⟩:=jaf Z;refine rs G (hC 2 (yfj.c (_,_) W) h0) ?_;refine jab ?_;obtain⟨u,x,e8,X,Z⟩:=ob2 Z;refine rs G (hK x (hE 2 X h0)) ?_;refine cd Z ?_ ?_<;>intro Z
        ·refine rg G ?_;have Z:=eL Z j w;have Z:=eL Z i o;have Z:=eL Z hb P;cases Z;exact rt [] []
        ·refine jae (thN ?_);obtain⟨u1,z,Y,A,Z⟩:=ob2 Z;refine rs G (hK z (hS 2 A true h0)) ?_;exact rh G (ibN (thN (rh G (wL G Z))))
       ·exact jag (thE (thE (ibE (wE G Z j))))
      rintro⟨p3,I⟩ Z s hw;refine ibN (thN (jah hw ?_));exact rh G (wL G Z)
     ·exact jag (thE (thE (ibE (wE G Z i))))
    rintro⟨p4,g⟩ Z s1 B;refine ibN (thN (jah B ?_));exact rh G (wL G Z)
  ·exact jag (thE (thE (ibE (wE G Z hb))))
 rintro p5 Z s2 C;refine thN (jah C ?_);refine rs G (hN 3 t.bn h0) ?_;cases Z;exact rt [] []
def yx1:MS (bA×bL×(List (List Int))×cB×(List bB)) (Bool×Bool):=⟨.x .r (.x .r (.x .r (.x .r .r))),fun x=>zq6 x.1 x.2.1 x.2.2.1 x.2.2.2.1 x.2.2.2.2,fun y=>.tup [dV y.1,dV y.2],fun _=>[],fun _ _=>[]⟩
theorem LA:FnOK Tryz.prog tJ 10 yx1.S:=by
 refine fm tt yx1 [fo yml,fo ysj] call10 func10 rfl results10 ntmps10 ?_;rintro⟨t,f,e,r,g⟩ y cx G (Z:zq6 t f e r g=some y);unfold zq6 at Z;refine rg G (jab ?_);obtain⟨b,h,Z⟩:=jaf Z;refine rs G (hC 4 (ygo.c (_,_,_,_) h) h0) ?_;refine cd Z ?_ ?_<;>intro Z
 ·refine rg G ?_;cases Z;exact rt [] []
 ·refine jae (thN ?_);obtain⟨d,a,Z⟩:=jaf Z;refine rs G (hC 5 (yom.c (_,_,_,_,_) a) h0) ?_;cases Z;exact rt [] []
def yrn:MS (bA×bL×(List (List Int))×cB×(List bB)) Bool:=⟨.x .r (.x .r (.x .r (.x .r .r))),fun x=>zq82 x.1 x.2.1 x.2.2.1 x.2.2.2.1 x.2.2.2.2,fun y=>dV y,fun _=>[],fun _ _=>[]⟩
theorem yxt:FnOK Tryz.prog tJ 30 yrn.S:=by
 refine fm tt yrn [fo yrv,fo ye2] call30 func30 rfl results30 ntmps30 ?_;rintro⟨t,f,p,r,F⟩ y cx G (Z:zq82 t f p r F=some y);unfold zq82 at Z;refine rg G (rg G (jab (rg G (tF Z (fun d=>⟨[(5,.ref 16 0),(11,.own 32)],[cu 16 t,aX 32 3 d],64⟩) (fun ap J Z=>?_) ?_))))
 ·refine jaa (lp G Z (fun(v,j)=>⟨[(2,dV p),(4,dV F),(5,.ref 16 0),(6,.ref 32 0),(8,.ref 48 0),(11,.own 64),(12,dV v)],[cu 16 t,dI 32 f,eu 48 r,aX 64 3 j],96⟩) ?_);rintro⟨v,j⟩ W hb Z;rw[yb3]at Z;refine jab (rs G (hN 2 F h0) ?_);refine cd Z ?_ ?_<;>intro Z
  ·refine jae (thN (jab (jaa (jab ?_))));obtain⟨e7,k,r2,l,Z⟩:=ob2 Z;refine jn Z (fun m=>⟨[(2,dV p),(4,dV F),(5,.ref 16 0),(6,.ref 32 0),(8,.ref 48 0),(11,.own 64),(12,dV v),(57,dV m)],[cu 16 t,dI 32 f,eu 48 r,aX 64 3 j],96⟩) (fun m Z=>?_) ?_
   ·rcases bf Z with⟨a,Z⟩|⟨a,Z⟩
    ·refine de G [] (hD 6 k (hC 8 (ygk.c (_,_,_,_,_) l) (hO 10 (.b true) (hP a h0)))) ?_;exact wJ G Z
    ·rcases bf Z with⟨e,Z⟩|⟨e,Z⟩
     ·obtain⟨e8,n,e9,o,aa,q,Z⟩:=ob3 Z;obtain⟨ab,w,ac,x,ad,z,Z⟩:=ob3 Z;refine de G [] (hD 6 k (hC 8 (ygk.c (_,_,_,_,_) l) (hO 10 (.b false) (hP a (hO 13 (.b true) (hP e (hD 17 n (hD 20 o (hD 22 q (hD 26 w (hD 29 x (hD 31 z h0)))))))))))) ?_;exact wJ G Z
     ·refine de G [] (hD 6 k (hC 8 (ygk.c (_,_,_,_,_) l) (hO 10 (.b false) (hP a (hO 13 (.b false) (hP e h0)))))) ?_;exact wJ G Z
   rintro m Z;refine cd Z ?_ ?_<;>intro Z
   ·refine rg G ?_;have Z:=eL Z hb J;cases Z;exact rt [] []
   ·refine jae (thN (rg G (tF Z (fun X=>⟨[(2,dV p),(4,dV F),(5,.ref 16 0),(6,.ref 32 0),(8,.ref 48 0),(11,.own 64),(12,dV v)],[cu 16 t,dI 32 f,eu 48 r,aX 64 3 X],96⟩) (fun ao A Z=>?_) ?_)))
    ·refine jaa (lp G Z (fun(i,Y)=>⟨[(2,dV p),(4,dV F),(5,.ref 16 0),(6,.ref 32 0),(8,.ref 48 0),(11,.own 64),(12,dV v),(13,dV i)],[cu 16 t,dI 32 f,eu 48 r,aX 64 3 Y],96⟩) ?_);rintro⟨i,Y⟩ W g Z;rw[yfe]at Z;refine jab ?_;obtain⟨B,C,Z⟩:=jaf Z;refine rs G (hD 3 C (hN 6 B.bE h0)) ?_;refine cd Z ?_ ?_<;>intro Z
     ·refine jae (thN (jab (jaa (rg G (tF Z (fun v7=>⟨[(2,dV p),(4,dV F),(5,.ref 16 0),(6,.ref 32 0),(8,.ref 48 0),(11,.own 64),(12,dV v),(13,dV i)],[cu 16 t,dI 32 f,eu 48 r,aX 64 3 v7],96⟩) (fun v8 D Z=>?_) ?_)))))
      ·refine jaa (lp G Z (fun(P,v6)=>⟨[(2,dV p),(4,dV F),(5,.ref 16 0),(6,.ref 32 0),(8,.ref 48 0),(11,.own 64),(12,dV v),(13,dV i),(14,dV P)],[cu 16 t,dI 32 f,eu 48 r,aX 64 3 v6],96⟩) ?_);rintro⟨P,v6⟩ W h Z;rw[yg3]at Z;refine jab ?_;obtain⟨ae,E,H,I,Z⟩:=ob2 Z;refine rs G (hD 3 E (hD 7 I (hN 9 H h0))) ?_;refine cd Z ?_ ?_<;>intro Z
       ·refine jae (thN (jab (jaa (jab ?_))));obtain⟨af,K,ah,L,ai,M,Z⟩:=ob3 Z;obtain⟨r4,N,Z⟩:=jaf Z;refine rs G (hD 3 K (hD 7 L (hD 10 M (hC 12 (ycj.c (_,_) N) h0)))) ?_;refine cd Z ?_ ?_<;>intro Z
        ·refine rg G ?_;have Z:=eL Z h D;have Z:=eL Z g A;have Z:=eL Z hb J;cases Z;exact rt [] []
        ·refine jae (thN ?_);obtain⟨aj,O,ak,Q,am,R,Z⟩:=ob3 Z;obtain⟨u,T,Z⟩:=jaf Z;refine re G (hD 3 O (hD 7 Q (hD 10 R (hA 13 8 T h0)))) ?_;exact ibN (thN (rh G (wL G Z)))
       ·exact jag (thE (thE (ibE (wE G Z h))))
      rintro v7 Z s hw;refine ibN (thN (jah hw ?_));exact rh G (wL G Z)
     ·exact jag (thE (thE (ibE (wE G Z g))))
    rintro X Z s1 U;refine ibN (thN (jah U ?_));exact rh G (wL G Z)
  ·exact jag (thE (thE (ibE (wE G Z hb))))
 rintro d Z s2 V;refine thN (jah V ?_);refine rs G (hN 1 d (hN 4 t.bn h0)) ?_;cases Z;exact rt [] []
def yr4:MS (bA×bL×(List (List Int))×cB×(List bB)) (Bool×Bool):=⟨.x .r (.x .r (.x .r (.x .r .r))),fun x=>zq59 x.1 x.2.1 x.2.2.1 x.2.2.2.1 x.2.2.2.2,fun y=>.tup [dV y.1,dV y.2],fun _=>[],fun _ _=>[]⟩
theorem yx9:FnOK Tryz.prog tJ 15 yr4.S:=by
 refine fm tt yr4 [fo yrw,fo yxt] call15 func15 rfl results15 ntmps15 ?_;rintro⟨t,f,e,r,g⟩ y cx G (Z:zq59 t f e r g=some y);unfold zq59 at Z;refine rg G (jab ?_);obtain⟨b,h,Z⟩:=jaf Z;refine rs G (hC 4 (yjo.c (_,_,_,_) h) h0) ?_;refine cd Z ?_ ?_<;>intro Z
 ·refine rg G ?_;cases Z;exact rt [] []
 ·refine jae (thN ?_);obtain⟨d,a,Z⟩:=jaf Z;refine rs G (hC 5 (yrn.c (_,_,_,_,_) a) h0) ?_;cases Z;exact rt [] []
def yso:MS (bB×Int) Bool:=⟨.x .r (.b 3),fun x=>zq26 x.1 x.2,fun y=>dV y,fun _=>[],fun x _=>[bxO 3 x.2]⟩
theorem KH:FnOK Tryz.prog tJ 67 yso.S:=by
 refine fm tt yso [fo yr9] call67 func67 rfl results67 ntmps67 ?_;rintro⟨d,a⟩ y cx G (Z:zq26 d a=some y);unfold zq26 at Z;refine rg G ?_;obtain⟨r,h,Z⟩:=jaf Z;refine rs G (hC 3 (yod.c (_,_) h) h0) ?_;refine rg G ?_;cases Z;exact rt [] []
def ymq:MS ((List bB)×Int) Int:=⟨⟨[.rd,.fn 67 [.bx]],fun x=>[Enc.e x.1,.agg [.sc undef]],fun x=>[bxO 3 x.2],1,1,fun _=>rfl,fun _=>rfl,rfl,(by
  rintro⟨a,b⟩ ⟨b0,c⟩ h hO;have d:a=b0:=qI 0 h;have q1:b=c:=Enc.inj _ _ (congrArg (fun l=>(obD l 0).getD 0 (.sc undef)) hO);subst d;subst q1;rfl)⟩,fun x=>yvu x.1 x.2,fun y=>dV y,fun _=>[],fun x _=>[bxO 3 x.2]⟩
theorem yvt:FnOK Tryz.prog tJ 66 ymq.S:=by
 refine fm tt ymq [fo KH] call66 func66 rfl results66 ntmps66 ?_;rintro⟨s,j⟩ y cx G (Z:yvu s j=some y);obtain⟨f,i⟩:∃q,(fun(m:bB)=>zq26 m j)=q:=⟨_,rfl⟩;have Z:yvv s f=some y:=by rw[<-i];exact Z
 unfold yvv at Z;refine rg G (jab (rs G (hN 1 s h0) ?_));refine tF Z (fun _=>⟨[(1,.fn 67 [.ref 0 0])],[bX 0 3 [dV j]],48⟩) (fun b k Z=>?_) ?_
 ·refine jaa (lp G Z (fun v=>⟨[(0,dV s),(1,.fn 67 [.ref 0 0]),(7,dV (s.length:Int)),(8,dV v)],[bX 0 3 [dV j]],48⟩) ?_);rintro v d hb Z;rw[yhz]at Z;refine rg G (jab (cd Z ?_ ?_))<;>intro Z
  ·refine jae (thN (jab (jaa (rg G ?_))));obtain⟨e,h,r,a,Z⟩:=ob2 Z;have a:zq26 e j=some r:=by rw[<-i]at a;exact a
   refine rs G (hD 3 h (hC 5 (yso.c (_,_) a) h0)) ?_;refine cd Z ?_ ?_<;>intro Z
   ·refine rg G ?_;have Z:=eL Z hb k;cases Z;exact rt [] []
   ·exact jae (ibN (thN (rh G (wL G Z))))
  ·exact jag (thE (thE (ibE (wE G Z hb))))
 rintro⟨⟩ Z g l;refine thN (jah l ?_);refine rg G ?_;cases Z;exact rt [] []
def ysp:MS ((List bB)×Int) Int:=mS zq25
theorem KG:FnOK Tryz.prog tJ 32 ysp.S:=by
 refine fm tt ysp [fo yvt] call32 func32 rfl results32 ntmps32 ?_;rintro⟨a,id⟩ y cx G (Z:zq25 a id=some y);unfold zq25 at Z;refine rg G ?_;obtain⟨r,h,Z⟩:=jaf Z;refine rs G (hC 2 (ymq.c (_,_) h) h0) ?_;cases Z;exact rt [] []
def ysl:MS Int (Int×Bool):=⟨.r,zq30,fun y=>.tup [dV y.1,dV y.2],fun _=>[],fun _ _=>[]⟩
theorem KL:FnOK Tryz.prog tJ 31 ysl.S:=by
 refine fm tt ysl [] call31 func31 rfl results31 ntmps31 ?_;rintro i y cx G (Z:zq30 i=some y);unfold zq30 at Z;refine rg G (jab (rg G (cd Z ?_ ?_)))<;>intro Z
 ·refine rg G ?_;cases Z;exact rt [] []
 ·refine jae (thN (rg G ?_));cases Z;exact rt [] []
def yu2:MS (bA×bL×(List (List Int))×cB×(List bB)×Int) (Int×Bool):=⟨.x .r (.x .r (.x .r (.x .r (.x .r .r)))),fun x=>zq4 x.1 x.2.1 x.2.2.1 x.2.2.2.1 x.2.2.2.2.1 x.2.2.2.2.2,fun y=>.tup [dV y.1,dV y.2],fun _=>[],fun _ _=>[]⟩
theorem K8{t f blocks r list id y}(Z:zq4 t f blocks r list id=some y):yu2.C (t,f,blocks,r,list,id) y:=yu2.c (t,f,blocks,r,list,id) Z
theorem Lu:FnOK Tryz.prog tJ 16 yu2.S:=by
 refine fm tt yu2 [fo yml,fo ysj,fo KG,fo KL] call16 func16 rfl results16 ntmps16 ?_;rintro⟨t,f,l,r,m,id⟩ y cx G (Z:zq4 t f l r m id=some y);unfold zq4 at Z;refine rg G (jab ?_);obtain⟨g,h,Z⟩:=jaf Z;refine jn Z (fun v=>⟨[(4,dV m),(5,dV id),(28,dV v)],[],32⟩) (fun v Z=>?_) ?_
 ·rcases bf Z with⟨hb,Z⟩|⟨hb,Z⟩
  ·refine re G (hC 4 (ygo.c (_,_,_,_) h) (hO 6 (.b true) (hP hb h0))) ?_;exact wJ G Z
  ·obtain⟨i,a,Z⟩:=jaf Z;refine re G (hC 4 (ygo.c (_,_,_,_) h) (hO 6 (.b false) (hP hb (hC 12 (yom.c (_,_,_,_,_) a) h0)))) ?_;exact wJ G Z
 rintro v Z;refine cd Z ?_ ?_<;>intro Z
 ·refine rg G ?_;cases Z;exact rt [] []
 ·refine jae (thN ?_);obtain⟨j,d,k,e,Z⟩:=ob2 Z;refine rs G (hC 2 (ysp.c (_,_) d) (hC 3 (ysl.c _ e) h0)) ?_;cases Z;exact rt [] []
def yol:MS (bA×(List (List Int))×Int) Bool:=⟨.x .r (.x .r .r),fun x=>zq33 x.1 x.2.1 x.2.2,fun y=>dV y,fun _=>[],fun _ _=>[]⟩
theorem KM:FnOK Tryz.prog tJ 27 yol.S:=by
 refine fm tt yol [fo yfi] call27 func27 rfl results27 ntmps27 ?_;rintro⟨t,p,cut⟩ y cx G (Z:zq33 t p cut=some y);unfold zq33 at Z;refine rg G (jab (jn Z (fun v=>⟨[(1,dV p),(2,dV cut),(3,.ref 16 0),(18,dV v)],[cu 16 t],48⟩) (fun v Z=>?_) ?_))
 ·rcases bf Z with⟨hb,Z⟩|⟨hb,Z⟩
  ·refine re G (hO 2 (.b true) (hP hb h0)) ?_;exact wJ G Z
  ·obtain⟨u,h,Z⟩:=jaf Z;refine re G (hO 2 (.b false) (hP hb (hN 6 t.bn (hK h h0)))) ?_;exact wJ G Z
 rintro v Z;refine cd Z ?_ ?_<;>intro Z
 ·refine rg G ?_;cases Z;exact rt [] []
 ·refine jae (thN (jab (rs G (hN 1 p h0) ?_)));refine tF Z (fun _=>⟨[],[],32⟩) (fun k q Z=>?_) ?_
  ·refine jaa (lp G Z (fun d=>⟨[(2,dV cut),(3,.ref 16 0),(19,dV p),(20,dV (p.length:Int)),(21,dV d)],[cu 16 t],48⟩) ?_);rintro d l a Z;rw[yhm]at Z;refine rg G (jab (cd Z ?_ ?_))<;>intro Z
   ·refine jae (thN (jab (jaa ?_)));obtain⟨e,f,Z⟩:=jaf Z;refine rs G (hD 0 f h0) ?_;obtain⟨m,g,n,i,o,j,Z⟩:=ob3 Z;refine ds G [] (hN 4 e (hD 6 g (hC 8 (yfj.c (_,_) i) (hK j h0)))) ?_;refine cd Z ?_ ?_<;>intro Z
    ·refine rg G ?_;have Z:=eL Z a q;cases Z;exact rt [] []
    ·exact jae (ibN (thN (rh G (wL G Z))))
   ·exact jag (thE (thE (ibE (wE G Z a))))
  rintro⟨⟩ Z s r;refine thN (jah r ?_);refine rg G ?_;cases Z;exact rt [] []
def yoq:MS (bA×(List (List Int))×Int) ((List (List Int))):=⟨.x .r (.x .r .r),fun x=>zq19 x.1 x.2.1 x.2.2,fun y=>dV y,fun _=>[],fun _ _=>[]⟩
theorem KZ:FnOK Tryz.prog tJ 28 yoq.S:=by
 refine fm tt yoq [fo yfi,fo yow] call28 func28 rfl results28 ntmps28 ?_;rintro⟨t,p,cut⟩ y cx G (Z:zq19 t p cut=some y);unfold zq19 at Z;refine rg G (rg G (jab (rs G (hN 1 p h0) ?_)));refine tl Z (fun I=>⟨[(7,.own 16)],[aX 16 53 I],48⟩) (fun I Z=>?_) ?_
 ·refine jaa (lpP Z (fun(v,K)=>⟨[(2,dV cut),(3,.ref 16 0),(7,.own 32),(13,dV p),(14,dV (p.length:Int)),(15,dV v)],[cu 16 t,aX 32 53 K],64⟩) (Wk_J G.hL ⟨[(2,[]),(3,[]),(7,[.o 32]),(13,[]),(14,[]),(15,[])],[(16,16,[])],[(32,53,1,[])],64⟩ (by kernel_rfl)) ?_);rintro⟨v,K⟩ l hb Z;rw[ylz]at Z;refine rg G (jab (cd Z ?_ ?_))<;>intro Z
  ·refine jae (thN (jab (jaa ?_)));obtain⟨e,h,Z⟩:=jaf Z;refine rs G (hD 0 h h0) ?_;refine rg G (rs G (hN 1 e h0) ?_);refine tl Z (fun H=>⟨[(2,dV cut),(3,.ref 16 0),(7,.own 32),(13,dV p),(14,dV (p.length:Int)),(15,dV v)],[cu 16 t,aX 32 53 H],64⟩) (fun H Z=>?_) ?_
   ·refine jaa (lp G Z (fun(f,d,F)=>⟨[(2,dV cut),(3,.ref 16 0),(7,.own 32),(9,dV e),(10,dV f),(13,dV p),(14,dV (p.length:Int)),(15,dV v),(19,dV e),(20,dV (e.length:Int)),(21,dV d)],[cu 16 t,aX 32 53 F],64⟩) ?_);rintro⟨f,d,F⟩ l g Z;rw[yhr]at Z;refine rg G (jab (cd Z ?_ ?_))<;>intro Z
    ·refine jae (thN (jn Z (fun(k,J)=>⟨[(2,dV cut),(3,.ref 16 0),(7,.own 32),(9,dV e),(10,dV k),(13,dV p),(14,dV (p.length:Int)),(15,dV v),(19,dV e),(20,dV (e.length:Int)),(21,dV d)],[cu 16 t,aX 32 53 J],64⟩) (fun M Z=>?_) ?_))
     ·refine jaa ?_;obtain⟨A,m,Z⟩:=jaf Z;refine rs G (hD 1 m h0) ?_;refine jn Z (fun i=>⟨[(2,dV cut),(3,.ref 16 0),(7,.own 32),(9,dV e),(10,dV f),(11,dV d),(13,dV p),(14,dV (p.length:Int)),(15,dV v),(19,dV e),(20,dV (e.length:Int)),(21,dV d),(39,dV i)],[cu 16 t,aX 32 53 F],64⟩) (fun i Z=>?_) ?_
      ·rcases bf Z with⟨a,Z⟩|⟨a,Z⟩
       ·refine re G (hN 2 e (hO 5 (.b true) (hP a h0))) ?_;exact wJ G Z
       ·obtain⟨r,n,u,q,Z⟩:=ob2 Z;refine re G (hN 2 e (hO 5 (.b false) (hP a (hC 9 (yfj.c (_,_) n) (hK q h0))))) ?_;exact wJ G Z
      rintro i Z;refine cd Z ?_ ?_<;>intro Z
      ·obtain⟨B,w,C,x,D,z,Z⟩:=ob3 Z;refine rs G (hU 5 w (hC 6 (yh1.c _ x) (hO 7 (.fz [160] [] []) (hA 8 24 z h0)))) ?_;exact rh G (ibN (wJ G Z))
      ·exact jae (ibN (wJ G Z))
     rintro⟨k,J⟩ Z;exact rh G (wL G Z)
    ·exact jag (thE (thE (ibE (wD G Z g))))
   rintro H Z s L;refine ibN (thN (jah L ?_));exact rh G (wL G Z)
  ·exact jag (thE (thE (ibE (wD G Z hb))))
 rintro I Z E j;refine thN (jah j ?_);refine rg G ?_;cases Z;exact rt [] []
def ysa:MS (bA×bL×cB×bB) Int:=⟨.x .r (.x .r (.x .r .r)),fun x=>zq47 x.1 x.2.1 x.2.2.1 x.2.2.2,fun y=>dV y,fun _=>[],fun _ _=>[]⟩
theorem yye:FnOK Tryz.prog tJ 24 ysa.S:=by
 refine fm tt ysa [fo yhg,fo ysk] call24 func24 rfl results24 ntmps24 ?_;rintro⟨t,f,r,d⟩ y cx G (Z:zq47 t f r d=some y);unfold zq47 at Z;refine rg G (rg G (jab (rs G (hN 2 d.bE h0) ?_)));refine tl Z (fun a=>⟨[(4,.ref 16 0),(5,.ref 32 0),(6,.ref 48 0),(7,.ref 64 0),(9,dV a)],[cu 16 t,dI 32 f,eu 48 r,jT 64 d],96⟩) (fun a Z=>?_) ?_
 ·refine jaa (lp G Z (fun(v,k)=>⟨[(4,.ref 16 0),(5,.ref 32 0),(6,.ref 48 0),(7,.ref 64 0),(9,dV v),(21,dV d.bE),(22,dV (d.bE.length:Int)),(23,dV k)],[cu 16 t,dI 32 f,eu 48 r,jT 64 d],96⟩) ?_);rintro⟨v,k⟩ o hb Z;rw[ylp]at Z;refine rg G (jab (cd Z ?_ ?_))<;>intro Z
  ·refine jae (thN (jab (jaa ?_)));obtain⟨e,h,Z⟩:=jaf Z;refine rs G (hD 0 h h0) ?_;obtain⟨w,q,Z⟩:=jaf Z;refine rs G (hC 2 (yd1.c (_,_) q) h0) ?_;exact rh G (ibN (thN (rh G (wL G Z))))
  ·exact jag (thE (thE (ibE (wD G Z hb))))
 rintro a Z s p;refine thN (jah p ?_);refine jab ?_;obtain⟨b,u,Z⟩:=jaf Z;refine rs G (hC 4 (yon.c (_,_,_) u) (hN 5 b h0)) ?_;refine tl Z (fun g=>⟨[(9,dV g)],[],32⟩) (fun g Z=>?_) ?_
 ·refine jaa (lp G Z (fun(l,m)=>⟨[(6,.ref 16 0),(9,dV l),(42,.own 32),(43,dV (b.length:Int)),(44,dV m)],[eu 16 r,aX 32 3 b],64⟩) ?_);rintro⟨l,m⟩ o i Z;rw[ylo]at Z;refine rg G (jab (cd Z ?_ ?_))<;>intro Z
  ·refine jae (thN (jab (jaa ?_)));obtain⟨x,n,Z⟩:=jaf Z;refine rs G (hD 0 n (hE 1 n h0)) ?_;exact rh G (ibN (thN (rh G (wL G Z))))
  ·exact jag (thE (thE (ibE (wD G Z i))))
 rintro g Z z j;refine thN (jah j ?_);refine rg G ?_;cases Z;exact rt [] []
def yof:MS ((List (List Int))×bA×bL×(List (List Int))×cB) bI:=⟨.x (.s 53) (.x (.b 30) (.x (.b 33) (.x (.b 31) (.b 35)))),fun x=>zq45 x.1 x.2.1 x.2.2.1 x.2.2.2.1 x.2.2.2.2,fun y=>dV y,fun _=>[],fun x _=>[arO 53 x.1,bxO 30 x.2.1,bxO 33 x.2.2.1,bxO 31 x.2.2.2.1,bxO 35 x.2.2.2.2]⟩
theorem yyg:FnOK Tryz.prog tJ 79 yof.S:=by
 refine fm tt yof [fo ysz,fo yye] call79 func79 rfl results79 ntmps79 ?_;rintro⟨own,d,e,f,g⟩ y cx G (Z:zq45 own d e f g=some y);unfold zq45 at Z;refine rg G (rg G (jab ?_));obtain⟨r,h,Z⟩:=jaf Z;refine rs G (hC 5 (yjs.c (_,_,_,_,_) h) h0) ?_;refine cd Z ?_ ?_<;>intro Z
 ·refine rg G ?_;cases Z;exact rt [] []
 ·refine jae (thN ?_);obtain⟨b,a,Z⟩:=jaf Z;refine rs G (hC 4 (ysa.c (_,_,_,_) a) h0) ?_;cases Z;exact rt [] []
def yoe:MS (bA×bL×(List (List Int))×cB×(List (List Int))) fq:=⟨.x .r (.x .r (.x .r (.x .r .r))),fun x=>zq46 x.1 x.2.1 x.2.2.1 x.2.2.2.1 x.2.2.2.2,fun _=>.ref 0 0,fun y=>[.box 128 [dV y.bP,dV y.eX,dV y.dF,.own 1],mpO 126 y.je],fun _ _=>[]⟩
theorem yyf:FnOK Tryz.prog tJ 41 yoe.S:=by
 refine fm tt yoe [fo yyg] call41 func41 rfl results41 ntmps41 ?_;rintro⟨t,f,p,r,pieces⟩ y cx G (Z:zq46 t f p r pieces=some y);unfold zq46 at Z;refine rg G ?_;obtain⟨U,L,V,M,Z⟩:=ob2 Z;refine ds G [] (hN 2 pieces (hO 3 (.l (List.map Enc.e (List.replicate (pieces.length:Int).toNat ((⟨0,0⟩:bI):bI)))) (hP (mk_p (b:=16) (ku L) rfl) (hP (jma Enc.e (pieces.length:Int).toNat ((⟨0,0⟩:bI):bI)) (hN 5 pieces (hO 6 (.l (List.map Enc.e (List.replicate (pieces.length:Int).toNat (([]:List bI):List bI)))) (hP (mk_p (b:=24) (ku M) rfl) (hP (jma Enc.e (pieces.length:Int).toNat (([]:List bI):List bI)) h0)))))))) ?_;refine rg G (jab (rs G (hN 1 pieces h0) ?_));refine tl Z (fun(q,u)=>⟨[(11,.ref 16 0)],[bX 16 128 [dV pieces,.own 32,.own 48,.own 64],aX 32 82 q,tX 48 124 [some 82] u 48 none,mX 64 126 ([]:List ((Int×Int)×bI))],96⟩) (fun P Z=>?_) ?_
 ·refine jaa (lp G Z (fun(v,i,I)=>⟨[(4,dV pieces),(11,.ref 16 0),(12,.fn 79 [.ref 32 0,.ref 48 0,.ref 64 0,.ref 80 0]),(28,dV pieces),(29,dV (pieces.length:Int)),(30,dV v)],[bX 16 128 [dV pieces,.own 96,.own 112,.own 128],cu 32 t,dI 48 f,bX 64 31 [dV p],eu 80 r,aX 96 82 i,tX 112 124 [some 82] I 112 none,mX 128 126 ([]:List ((Int×Int)×bI))],160⟩) ?_);rintro⟨v,i,I⟩ N hb Z;rw[ylq]at Z;refine rg G (jab (cd Z ?_ ?_))<;>intro Z
  ·refine jae (thN (jab (jaa ?_)));obtain⟨e,O,Z⟩:=jaf Z;refine rs G (hD 1 O h0) ?_;obtain⟨n,Q,W,K,Z⟩:=ob2 Z;refine ds G [(7,[]),(8,[32,48,64,80,368]),(10,[96])] (hC 8 (yof.c (_,_,_,_,_) Q) (hD 9 K (hS 10 K n h0))) ?_;obtain⟨X,w,Y,j,Z⟩:=ob2 Z;refine ds G [(9,[112,544])] (hN 6 pieces (hO 7 (.l (List.map Enc.e (List.replicate (pieces.length:Int).toNat ((⟨0,0⟩:bI):bI)))) (hP (mk_p (b:=16) (ku w) rfl) (hP (jma Enc.e (pieces.length:Int).toNat ((⟨0,0⟩:bI):bI)) (hD 8 j (hS 9 j (List.replicate (pieces.length:Int).toNat ((⟨0,0⟩:bI):bI)) h0)))))) ?_;refine rs G (hN 1 pieces h0) ?_;refine tl Z (fun x=>⟨[(4,dV pieces),(11,.ref 16 0),(12,.fn 79 [.ref 32 0,.ref 48 0,.ref 64 0,.ref 80 0]),(28,dV pieces),(29,dV (pieces.length:Int)),(30,dV v)],[bX 16 128 [dV pieces,.own 96,.own 112,.own 128],cu 32 t,dI 48 f,bX 64 31 [dV p],eu 80 r,aX 96 82 (i.set v.toNat n),tX 112 124 [some 82] x 112 none,mX 128 126 ([]:List ((Int×Int)×bI))],160⟩) (fun x Z=>?_) ?_
   ·refine jaa (lp G Z (fun(a,h)=>⟨[(4,dV pieces),(11,.ref 16 0),(12,.fn 79 [.ref 32 0,.ref 48 0,.ref 64 0,.ref 80 0]),(13,dV v),(14,dV e),(28,dV pieces),(29,dV (pieces.length:Int)),(30,dV v),(54,dV pieces),(55,dV (pieces.length:Int)),(56,dV a)],[bX 16 128 [dV pieces,.own 96,.own 112,.own 128],cu 32 t,dI 48 f,bX 64 31 [dV p],eu 80 r,aX 96 82 (i.set v.toNat n),tX 112 124 [some 82] h 112 none,mX 128 126 ([]:List ((Int×Int)×bI))],160⟩) ?_);rintro⟨a,h⟩ N z Z;rw[ylr]at Z;refine rg G (jab (cd Z ?_ ?_))<;>intro Z
    ·refine jae (thN (jn Z (fun A=>⟨[(4,dV pieces),(11,.ref 16 0),(12,.fn 79 [.ref 32 0,.ref 48 0,.ref 64 0,.ref 80 0]),(13,dV v),(14,dV e),(28,dV pieces),(29,dV (pieces.length:Int)),(30,dV v),(54,dV pieces),(55,dV (pieces.length:Int)),(56,dV a)],[bX 16 128 [dV pieces,.own 96,.own 112,.own 128],cu 32 t,dI 48 f,bX 64 31 [dV p],eu 80 r,aX 96 82 (i.set v.toNat n),tX 112 124 [some 82] A 112 none,mX 128 126 ([]:List ((Int×Int)×bI))],160⟩) (fun A Z=>?_) ?_))
     ·refine jaa ?_;obtain⟨J,B,Z⟩:=jaf Z;refine rs G (hD 1 B h0) ?_;obtain⟨d,g,R,k,Z⟩:=ob2 Z;refine rs G (hD 5 g (hE 6 g (hE 9 g (hP (jkc (f:=Enc.e) k) (hO 10 (.sd2 (Enc.e d) (Enc.e R) (List.map Enc.e (d.set a.toNat (⟨1073741824,0⟩:bI))) (List.map Enc.e (h.set v.toNat (d.set a.toNat (⟨1073741824,0⟩:bI))))) (hP (jbo (f:=Enc.e) g) (hP (jbo (f:=Enc.e) k) (hP (je1 Enc.e d a.toNat (⟨1073741824,0⟩:bI)) (hP (je1 Enc.e h v.toNat (d.set a.toNat (⟨1073741824,0⟩:bI))) h0))))))))) ?_;refine rg G (cd Z ?_ ?_)<;>intro Z
      ·obtain⟨T,C,o,D,E,m,Z⟩:=ob3 Z;refine de G [(11,[]),(12,[32,48,64,80,656]),(14,[112])] (hD 5 C (hE 6 (w9 (y:=(d.set a.toNat (⟨1073741824,0⟩:bI))) g) (hC 12 (yof.c (_,_,_,_,_) D) (hE 13 (w9 (y:=(d.set a.toNat (⟨1073741824,0⟩:bI))) g) (hP (jkc (f:=Enc.e) m) (hO 14 (.sd2 (Enc.e (d.set a.toNat (⟨1073741824,0⟩:bI))) (Enc.e E) (List.map Enc.e ((d.set a.toNat (⟨1073741824,0⟩:bI)).set a.toNat o)) (List.map Enc.e ((h.set v.toNat (d.set a.toNat (⟨1073741824,0⟩:bI))).set v.toNat ((d.set a.toNat (⟨1073741824,0⟩:bI)).set a.toNat o)))) (hP (jbo (f:=Enc.e) (w9 (y:=(d.set a.toNat (⟨1073741824,0⟩:bI))) g)) (hP (jbo (f:=Enc.e) m) (hP (je1 Enc.e (d.set a.toNat (⟨1073741824,0⟩:bI)) a.toNat o) (hP (je1 Enc.e (h.set v.toNat (d.set a.toNat (⟨1073741824,0⟩:bI))) v.toNat ((d.set a.toNat (⟨1073741824,0⟩:bI)).set a.toNat o)) h0)))))))))) ?_;exact ibN (wJ G Z)
      ·exact jae (ibN (wJ G Z))
     rintro A Z;exact rh G (wL G Z)
    ·exact jag (thE (thE (ibE (wD G Z z))))
   rintro x Z s F;refine ibN (thN (jah F ?_));exact rh G (wL G Z)
  ·exact jag (thE (thE (ibE (wD G Z hb))))
 rintro⟨q,u⟩ Z s1 H;refine thN (jah H ?_);refine rg G ?_;cases Z;refine wR (x':=⟨[(10,.ref 16 0)],[bX 16 128 [dV pieces,dV q,dV u,.own 32],mX 32 126 ([]:List ((Int×Int)×bI))],64⟩) (wkA G (by kernel_rfl)) ?_;exact rt [16,32] []
def yoc:MS (bI×bI) bI:=mS zq49
theorem yr8:FnOK Tryz.prog tJ 80 yoc.S:=by
 refine fm tt yoc [] call80 func80 rfl results80 ntmps80 ?_;rintro⟨a,b⟩ y cx G (Z:zq49 a b=some y);unfold zq49 at Z;refine rg G (rg G ?_);cases Z;exact rt [] []
def ytb:MS (Int×Int) Int:=mS zq0
theorem yw7:FnOK Tryz.prog tJ 83 ytb.S:=by
 refine fm tt ytb [fo yw6] call83 func83 rfl results83 ntmps83 ?_;rintro⟨x,d⟩ y cx G (Z:zq0 x d=some y);unfold zq0 at Z;refine rg G ?_;obtain⟨r,h,Z⟩:=jaf Z;refine rs G (hC 1 (yhk.c _ h) h0) ?_;obtain⟨b,a,Z⟩:=jaf Z;refine rs G (hC 1 (yhk.c _ a) h0) ?_;refine jab (rg G (cd Z ?_ ?_))<;>intro Z
 ·refine jab (rg G (cd Z ?_ ?_))<;>intro Z
  ·refine rg G ?_;cases Z;exact rt [] []
  ·refine jae (thN (rg G ?_));cases Z;exact rt [] []
 ·refine jae (thN (jab (rg G (cd Z ?_ ?_))))<;>intro Z
  ·refine rg G ?_;cases Z;exact rt [] []
  ·refine jae (thN (jab (rg G (cd Z ?_ ?_))))<;>intro Z
   ·refine rg G ?_;cases Z;exact rt [] []
   ·refine jae (thN (jab (rg G (cd Z ?_ ?_))))<;>intro Z
    ·refine rg G ?_;cases Z;exact rt [] []
    ·refine jae (thN (rg G ?_));cases Z;exact rt [] []
def Bb:MS (List Int) Int:=mR zq2
theorem Ls:FnOK Tryz.prog tJ 82 Bb.S:=by
 refine fm tt Bb [] call82 func82 rfl results82 ntmps82 ?_;rintro c y cx G (Z:zq2 c=some y);unfold zq2 at Z;refine rg G (rg G (jab (rs G (hN 1 c h0) ?_)));refine tF Z (fun _=>⟨[(3,kV .i64 0)],[],32⟩) (fun a d Z=>?_) ?_
 ·refine jaa (lp G Z (fun v=>⟨[(3,kV .i64 0),(6,dV c),(7,dV (c.length:Int)),(8,dV v)],[],32⟩) ?_);rintro v b hb Z;rw[ycd]at Z;refine rg G (jab (cd Z ?_ ?_))<;>intro Z
  ·refine jae (thN (jab (jaa ?_)));obtain⟨e,h,Z⟩:=jaf Z;refine rs G (hD 0 h h0) ?_;refine rg G (cd Z ?_ ?_)<;>intro Z
   ·refine rg G ?_;have Z:=eL Z hb d;cases Z;exact rt [] []
   ·exact jae (ibN (thN (rh G (wL G Z))))
  ·exact jag (thE (thE (ibE (wE G Z hb))))
 rintro⟨⟩ Z s f;refine thN (jah f ?_);refine rg G ?_;cases Z;exact rt [] []
def ygn:MS (bI×bI) Int:=mS zq18
theorem yl0:FnOK Tryz.prog tJ 43 ygn.S:=by
 refine fm tt ygn [fo yw7,fo Ls] call43 func43 rfl results43 ntmps43 ?_;rintro⟨a,b⟩ y cx G (Z:zq18 a b=some y);unfold zq18 at Z;refine rg G ?_;obtain⟨g,d,h,e,i,f,Z⟩:=ob3 Z;refine ds G [] (hC 4 (ytb.c (_,_) d) (hC 9 (ytb.c (_,_) e) (hC 11 (Bb.c _ f) h0))) ?_;cases Z;exact rt [] []
def ych(a:fq->Int->Int->Option (bI×(List ((Int×Int)×bI)))):MS (fq×Int×Int) (bI×(List ((Int×Int)×bI))):=⟨⟨[.bo 1,.rd,.rd],fun x=>[.sc undef,Enc.e x.2.1,Enc.e x.2.2],fun x=>[.box 128 [dV x.1.bP,dV x.1.eX,dV x.1.dF,.own 1],mpO 126 x.1.je],2,2,fun _=>rfl,fun _=>rfl,rfl,(by
  rintro⟨b,c,d⟩ ⟨b0,f,g⟩ h hO;have i:b=b0:=Enc.inj _ _ (congrArg D.agg (jbc (congrArg (fun l=>obC l 0 0) hO) (jbc (congrArg (fun l=>obC l 0 1) hO) (jbc (congrArg (fun l=>obC l 0 2) hO) (jbc (mpL (congrArg (fun l=>obM l 1) hO)) rfl)))));have q1:c=f:=qI 1 h;have j:d=g:=qI 2 h;subst i;subst q1;subst j;rfl)⟩,fun x=>a x.1 x.2.1 x.2.2,fun y=>dV y.1,fun _=>[],fun x y=>[.box 128 [dV x.1.bP,dV x.1.eX,dV x.1.dF,.own 1],mpO 126 y.2]⟩
def ysw:MS (fq×Int×Int) (bI×(List ((Int×Int)×bI))):=ych zq20
theorem ysv{x i paired y}(Z:zq20 x i paired=some y):ysw.C (x,i,paired) y:=ysw.c (x,i,paired) Z
theorem ysu{a:fq->Int->Int->Option (bI×(List ((Int×Int)×bI)))}{x i paired y}(Z:a x i paired=some y):(ych a).C (x,i,paired) y:=(ych a).c (x,i,paired) Z
def yfm(a:fq->Int->Int->Option (bI×(List ((Int×Int)×bI)))):MS (fq×Int×Int×Int) (bI×Bool×(List ((Int×Int)×bI))):=⟨⟨[.bo 1,.rd,.rd,.rd],fun x=>[.sc undef,Enc.e x.2.1,Enc.e x.2.2.1,Enc.e x.2.2.2],fun x=>[.box 128 [dV x.1.bP,dV x.1.eX,dV x.1.dF,.own 1],mpO 126 x.1.je],2,2,fun _=>rfl,fun _=>rfl,rfl,(by
  rintro⟨b,c,d,f⟩ ⟨b0,g,i,j⟩ h hO;have k:b=b0:=Enc.inj _ _ (congrArg D.agg (jbc (congrArg (fun l=>obC l 0 0) hO) (jbc (congrArg (fun l=>obC l 0 1) hO) (jbc (congrArg (fun l=>obC l 0 2) hO) (jbc (mpL (congrArg (fun l=>obM l 1) hO)) rfl)))));have q1:c=g:=qI 1 h;have m:d=i:=qI 2 h;have n:f=j:=qI 3 h;subst k;subst q1;subst m;subst n;rfl)⟩,fun x=>zq23 a x.1 x.2.1 x.2.2.1 x.2.2.2,fun y=>.tup [dV y.1,dV y.2.1],fun _=>[],fun x y=>[.box 128 [dV x.1.bP,dV x.1.eX,dV x.1.dF,.own 1],mpO 126 y.2.2]⟩
theorem ysr{a:fq->Int->Int->Option (bI×(List ((Int×Int)×bI)))}{x i k paired y}(Z:zq23 a x i k paired=some y):(yfm a).C (x,i,k,paired) y:=(yfm a).c (x,i,k,paired) Z
theorem ybe{E:fq->Int->Int->Option (bI×(List ((Int×Int)×bI)))}(F:FnOK Tryz.prog tJ 42 (ych E).S):FnOK Tryz.prog tJ 81 (yfm E).S:=by
 refine fm tt (yfm E) [foK F [0] (fun _ _=>rfl) (fun _ _=>rfl),fo yr8] call81 func81 rfl results81 ntmps81 ?_;rintro⟨x,i,k,p⟩ y cx G (Z:zq23 E x i k p=some y);unfold zq23 at Z;refine rg G (jab (jn Z (fun v=>⟨[(0,.ref 0 0),(1,dV i),(2,dV k),(3,dV p),(8,.ref 32 0),(40,dV v)],[bX 0 128 [dV x.bP,dV x.eX,dV x.dF,.own 1],mX 1 126 x.je,bX 32 82 [kV .i64 0,kV .i64 0]],64⟩) (fun v Z=>?_) ?_))
 ·rcases bf Z with⟨hb,Z⟩|⟨hb,Z⟩
  ·refine re G (hO 3 (.b true) (hP hb h0)) ?_;exact wJ G Z
  ·obtain⟨u,h,Z⟩:=jaf Z;rcases bf Z with⟨a,Z⟩|⟨a,Z⟩
   ·refine re G (hO 3 (.b false) (hP hb (hK h (hO 10 (.b true) (hP a h0))))) ?_;exact wJ G Z
   ·obtain⟨s,o,Z⟩:=jaf Z;rcases bf Z with⟨d,Z⟩|⟨d,Z⟩
    ·refine re G (hO 3 (.b false) (hP hb (hK h (hO 10 (.b false) (hP a (hK o (hO 17 (.b true) (hP d h0)))))))) ?_;exact wJ G Z
    ·obtain⟨e,q,t,r,Z⟩:=ob2 Z;refine re G (hO 3 (.b false) (hP hb (hK h (hO 10 (.b false) (hP a (hK o (hO 17 (.b false) (hP d (hD 23 q (hD 26 r h0)))))))))) ?_;exact wJ G Z
 rintro v Z;refine cd Z ?_ ?_<;>intro Z
 ·refine rg G ?_;cases Z;exact rt [] []
 ·refine jae (thN ?_);obtain⟨w,f,z,g,A,j,Z⟩:=ob3 Z;obtain⟨B,l,C,m,D,n,Z⟩:=ob3 Z;refine ds G [(20,[1]),(22,[32])] (hD 5 f (hD 8 g (hK j (hK l (hC 20 (ysu m) (hC 21 (yoc.c (_,_) n) h0)))))) ?_;cases Z;exact rt [] []
theorem yu3{F:fq->Int->Int->Option (bI×(List ((Int×Int)×bI)))}(J:FnOK Tryz.prog tJ 42 (ych F).S):FnOK Tryz.prog tJ 42 (ych (yfn F)).S:=by
 refine fm tt (ych (yfn F)) [fo J,fo yr8,fo (ybe J),fo yl0] call42 func42 rfl results42 ntmps42 ?_;rintro⟨x,i,p⟩ y cx G (Z:yfn F x i p=some y);unfold yfn at Z;refine rg G (rg G (jab ?_));obtain⟨C,D,Z⟩:=jaf Z;refine ds G [(10,[256])] (hO 5 (.mg (Enc.e C.1) C.2) (hP (mg_1 D) (hP (mg_2 D) h0))) ?_;refine rg G (cd Z ?_ ?_)<;>intro Z
 ·refine rg G ?_;cases Z;exact rt [] []
 ·refine jae (thN (rg G (jn Z (fun(v,r,t)=>⟨[(0,.ref 0 0),(6,.ref 32 0),(7,.ref 48 0),(10,.ref 64 0)],[bX 0 128 [dV x.bP,dV x.eX,dV x.dF,.own 1],mX 1 126 v,bX 32 82 [kV .i64 0,kV .i64 0],bX 48 130 [dV i,dV p],bX 64 82 [dV r,dV t]],96⟩) (fun N Z=>?_) ?_)))
  ·refine rs G (hN 5 x.bP h0) ?_;refine cd Z ?_ ?_<;>intro Z
   ·refine rs G (hN 4 x.eX h0) ?_;refine tl Z (fun(E,H)=>⟨[(0,.ref 0 0),(6,.ref 32 0),(7,.ref 48 0),(10,.ref 64 0)],[bX 0 128 [dV x.bP,dV x.eX,dV x.dF,.own 1],mX 1 126 x.je,bX 32 82 [kV .i64 0,kV .i64 0],bX 48 130 [dV i,dV p],bX 64 82 [dV E,dV H]],96⟩) (fun O Z=>?_) ?_
    ·refine jaa (lp G Z (fun(w,I,K)=>⟨[(0,.ref 0 0),(2,dV p),(6,.ref 32 0),(7,.ref 48 0),(10,.ref 64 0),(40,dV x.eX),(41,dV (x.eX.length:Int)),(42,dV w)],[bX 0 128 [dV x.bP,dV x.eX,dV x.dF,.own 1],mX 1 126 x.je,bX 32 82 [kV .i64 0,kV .i64 0],bX 48 130 [dV i,dV p],bX 64 82 [dV I,dV K]],96⟩) ?_);rintro⟨w,I,K⟩ Q hb Z;rw[yly]at Z;refine rg G (jab (cd Z ?_ ?_))<;>intro Z
     ·refine jae (thN (jn Z (fun(L,M)=>⟨[(0,.ref 0 0),(2,dV p),(6,.ref 32 0),(7,.ref 48 0),(10,.ref 64 0),(40,dV x.eX),(41,dV (x.eX.length:Int)),(42,dV w)],[bX 0 128 [dV x.bP,dV x.eX,dV x.dF,.own 1],mX 1 126 x.je,bX 32 82 [kV .i64 0,kV .i64 0],bX 48 130 [dV i,dV p],bX 64 82 [dV L,dV M]],96⟩) (fun vv Z=>?_) ?_))
      ·refine jaa ?_;obtain⟨e,R,Z⟩:=jaf Z;refine rs G (hD 1 R h0) ?_;obtain⟨u,T,Z⟩:=jaf Z;refine rs G (hK T h0) ?_;refine cd Z ?_ ?_<;>intro Z
       ·obtain⟨r2,U,Z⟩:=jaf Z;refine re G (hC 2 (yoc.c (_,_) U) h0) ?_;exact ibN (wJ G Z)
       ·exact jae (ibN (wJ G Z))
      rintro⟨L,M⟩ Z;exact rh G (wL G Z)
     ·exact jag (thE (thE (ibE (wD G Z hb))))
    rintro⟨E,H⟩ Z s hw;exact wJp Z (Wk.trans hw (Wk_J G.hL ⟨[(0,[]),(6,[]),(7,[]),(10,[])],[(0,0,[]),(1,1,[]),(32,32,[]),(48,48,[]),(64,64,[])],[],96⟩ (by kernel_rfl)))
   ·obtain⟨r3,V,Z⟩:=jaf Z;refine rs G (hC 4 (ysu V) h0) ?_;refine rs G (hN 4 x.bP h0) ?_;refine tl Z (fun(j,k,l)=>⟨[(0,.ref 0 0),(6,.ref 32 0),(7,.ref 48 0),(10,.ref 64 0)],[bX 0 128 [dV x.bP,dV x.eX,dV x.dF,.own 1],mX 1 126 j,bX 32 82 [kV .i64 0,kV .i64 0],bX 48 130 [dV i,dV p],bX 64 82 [dV k,dV l]],96⟩) (fun W Z=>?_) ?_
    ·refine jaa (lp G Z (fun(a,m,d,f)=>⟨[(0,.ref 0 0),(1,dV i),(2,dV p),(6,.ref 32 0),(7,.ref 48 0),(10,.ref 64 0),(65,dV (x.bP.length:Int)),(66,dV a)],[bX 0 128 [dV x.bP,dV x.eX,dV x.dF,.own 1],mX 1 126 m,bX 32 82 [kV .i64 0,kV .i64 0],bX 48 130 [dV i,dV p],bX 64 82 [dV d,dV f]],96⟩) ?_);rintro⟨a,m,d,f⟩ Q z Z;rw[ylx]at Z;refine rg G (jab (cd Z ?_ ?_))<;>intro Z
     ·refine jae (thN (jn Z (fun(n,o,q)=>⟨[(0,.ref 0 0),(1,dV i),(2,dV p),(6,.ref 32 0),(7,.ref 48 0),(10,.ref 64 0),(65,dV (x.bP.length:Int)),(66,dV a)],[bX 0 128 [dV x.bP,dV x.eX,dV x.dF,.own 1],mX 1 126 n,bX 32 82 [kV .i64 0,kV .i64 0],bX 48 130 [dV i,dV p],bX 64 82 [dV o,dV q]],96⟩) (fun X Z=>?_) ?_))
      ·refine jaa (rg G ?_);obtain⟨A,Y,Z⟩:=jaf Z;refine rs G (hC 4 (ysr Y) h0) ?_;refine jn Z (fun g=>⟨[(0,.ref 0 0),(1,dV i),(2,dV p),(6,.ref 32 0),(7,.ref 48 0),(10,.ref 64 0),(14,.ref 80 0),(65,dV (x.bP.length:Int)),(66,dV a),(83,dV g)],[bX 0 128 [dV x.bP,dV x.eX,dV x.dF,.own 1],mX 1 126 A.2.2,bX 32 82 [kV .i64 0,kV .i64 0],bX 48 130 [dV i,dV p],bX 64 82 [dV d,dV f],bX 80 82 [dV A.1.lZ,dV A.1.lT]],112⟩) (fun g Z=>?_) ?_
       ·rcases bf Z with⟨h,Z⟩|⟨h,Z⟩
        ·obtain⟨r5,P,Z⟩:=jaf Z;refine re G (hO 1 (.b true) (hP h (hC 4 (ygn.c (_,_) P) h0))) ?_;exact wJ G Z
        ·refine re G (hO 1 (.b false) (hP h h0)) ?_;exact wJ G Z
       rintro g Z;refine cd Z ?_ ?_<;>intro Z
       ·exact rh G (ibN (wJ G Z))
       ·exact jae (ibN (wJ G Z))
      rintro⟨n,o,q⟩ Z;exact rh G (wL G Z)
     ·exact jag (thE (thE (ibE (wD G Z z))))
    rintro⟨j,k,l⟩ Z s1 B;exact wJp Z (Wk.trans B (Wk_J G.hL ⟨[(0,[]),(6,[]),(7,[]),(10,[])],[(0,0,[]),(1,1,[]),(32,32,[]),(48,48,[]),(64,64,[])],[],96⟩ (by kernel_rfl)))
  rintro⟨v,r,t⟩ Z;refine ds G [(6,[1])] (hO 6 (.mp (encM (putL (i,p) (⟨r,t⟩:bI) v))) (hP (Gh (i,p) (⟨r,t⟩:bI) v) h0)) ?_;refine rg G ?_;cases Z;exact rt [] []
theorem yop:∀k,FnOK Tryz.prog tJ 42 (ych (ygm k)).S
 |0=>⟨fun args w=>call42 args w,fun vs w F ds obs κ a=>by obtain⟨x,y,_,_,h⟩:=a;cases h⟩
 |k+1=>yu3 (yop k)
theorem ylw:FnOK Tryz.prog tJ 42 ysw.S:=yop 4294967296
theorem KF:FnOK Tryz.prog tJ 81 (yfm zq20).S:=ybe ylw
def yst:MS (bB×bB) Int:=mS zq21
theorem K3:FnOK Tryz.prog tJ 85 yst.S:=by
 refine fm tt yst [fo yw7] call85 func85 rfl results85 ntmps85 ?_;rintro⟨a,b⟩ y cx G (Z:zq21 a b=some y);unfold zq21 at Z;refine rg G ?_;obtain⟨i,d,j,e,k,f,Z⟩:=ob3 Z;obtain⟨l,g,m,h,Z⟩:=ob2 Z;refine ds G [] (hD 2 d (hD 4 e (hD 8 f (hD 10 g (hC 12 (ytb.c (_,_) h) h0))))) ?_;cases Z;exact rt [] []
def ymf:MS ((List bB)×Int×Int) ((List bB)):=⟨⟨[.sl,.rd,.rd,.fn 85 []],fun x=>[.sc undef,Enc.e x.2.1,Enc.e x.2.2,.agg []],fun x=>[arO 50 x.1],1,1,fun _=>rfl,fun _=>rfl,rfl,(by
  rintro⟨a,b,c⟩ ⟨b0,d,f⟩ h hO;have g:a=b0:=Enc.inj _ _ (congrArg (fun l=>D.sl 1 (obL l 0)) hO);have q1:b=d:=qI 1 h;have i:c=f:=qI 2 h;subst g;subst q1;subst i;rfl)⟩,fun x=>Bf x.1 x.2.1 x.2.2,fun _=>.tup [],fun _=>[],fun _ y=>[arO 50 y]⟩
theorem yvi:FnOK Tryz.prog tJ 146 ymf.S:=by
 refine fm tt ymf [fo K3] call146 func146 rfl results146 ntmps146 ?_;rintro⟨E,a,b⟩ y cx G (Z:Bf E a b=some y);obtain⟨cmp,p⟩:∃q,(fun(H:bB)(I:bB)=>zq21 H I)=q:=⟨_,rfl⟩;have Z:ys3 E a b cmp=some y:=by rw[<-p];exact Z
 unfold ys3 at Z;refine rg G (jaa (lp G Z (fun(v,f)=>⟨[(0,.own 0),(1,dV a),(2,dV b),(3,.fn 85 []),(8,dV v)],[aX 0 50 f],48⟩) ?_));rintro⟨v,f⟩ u hb Z;rw[yot]at Z;refine jab (rg G (cd Z ?_ ?_))<;>intro Z
 ·refine jae (thN (jab (jaa (rg G (tl Z (fun d=>⟨[(0,.own 0),(1,dV a),(2,dV b),(3,.fn 85 []),(8,dV v)],[aX 0 50 d],48⟩) (fun d Z=>?_) ?_)))))
  ·refine jaa (lp G Z (fun(m,e)=>⟨[(0,.own 0),(1,dV a),(2,dV b),(3,.fn 85 []),(8,dV v),(9,dV m)],[aX 0 50 e],48⟩) ?_);rintro⟨m,e⟩ u n Z;rw[you]at Z;refine jab (jn Z (fun o=>⟨[(0,.own 0),(1,dV a),(2,dV b),(3,.fn 85 []),(8,dV v),(9,dV m),(34,dV o)],[aX 0 50 e],48⟩) (fun o Z=>?_) ?_)
   ·rcases bf Z with⟨g,Z⟩|⟨g,Z⟩
    ·obtain⟨w,r,x,t,z,l,Z⟩:=ob3 Z;have l:zq21 w x=some z:=by rw[<-p]at l;exact l
     refine de G [(14,[])] (hO 3 (.b true) (hP g (hD 7 r (hE 8 r (hD 12 t (hE 13 t (hC 14 (yst.c (_,_) l) h0))))))) ?_;exact wJ G Z
    ·refine de G [(14,[])] (hO 3 (.b false) (hP g h0)) ?_;exact wJ G Z
   rintro o Z;refine cd Z ?_ ?_<;>intro Z
   ·refine jae (thN (jab (jaa ?_)));obtain⟨A,h,B,i,C,j,Z⟩:=ob3 Z;obtain⟨D,k,Z⟩:=jaf Z;refine de G [(15,[0]),(17,[0])] (hD 8 h (hE 9 h (hD 12 i (hE 13 i (hD 14 j (hS 15 j A (hD 16 k (hS 17 k B h0)))))))) ?_;exact ibN (thN (rh G (wL G Z)))
   ·exact jag (thE (thE (ibE (wD G Z n))))
  rintro d Z s F;refine ibN (thN (jah F ?_));exact rh G (wL G Z)
 ·have Z:=eD Z hb;refine jag (thE (thE (ibE ?_)));cases Z;exact fN [] []
def yl6:MS ((List bB)×Int×Int×Int) ((List bB)):=⟨⟨[.sl,.rd,.rd,.rd,.fn 85 []],fun x=>[.sc undef,Enc.e x.2.1,Enc.e x.2.2.1,Enc.e x.2.2.2,.agg []],fun x=>[arO 50 x.1],1,1,fun _=>rfl,fun _=>rfl,rfl,(by
  rintro⟨a,b,c,d⟩ ⟨b0,f,g,i⟩ h hO;have j:a=b0:=Enc.inj _ _ (congrArg (fun l=>D.sl 1 (obL l 0)) hO);have q1:b=f:=qI 1 h;have k:c=g:=qI 2 h;have m:d=i:=qI 3 h;subst j;subst q1;subst k;subst m;rfl)⟩,fun x=>Bg x.1 x.2.1 x.2.2.1 x.2.2.2,fun _=>.tup [],fun _=>[],fun _ y=>[arO 50 y]⟩
theorem yva:FnOK Tryz.prog tJ 127 yl6.S:=by
 refine fm tt yl6 [fo yvi] call127 func127 rfl results127 ntmps127 ?_;rintro⟨e,a,b,limit⟩ y cx G (Z:Bg e a b limit=some y);obtain⟨cmp,f⟩:∃q,(fun(g:bB)(i:bB)=>zq21 g i)=q:=⟨_,rfl⟩;have Z:ys1 e a b limit cmp=some y:=by rw[<-f];exact Z
 unfold ys1 at Z;refine rg G (rg G (jaa (lp G Z (fun _=>⟨[(0,.own 0),(1,dV a),(2,dV b),(3,dV limit),(4,.fn 85 []),(10,dV true),(11,dV true)],[aX 0 50 e],48⟩) ?_)));rintro⟨⟩ d hb Z;rw[yhu]at Z;refine jaa (rg G (jab (rg G (cd Z ?_ ?_))))<;>intro Z
 ·obtain⟨r,h,Z⟩:=jaf Z;have h:Bf e a b=some r:=by rw[<-f]at h;exact h
  refine rs G (hC 4 (ymf.c (_,_,_) h) h0) ?_;have Z:=eD Z hb;cases Z;exact rt [] []
 ·refine jae (thN (jab (rg G (cd Z ?_ ?_))))<;>intro Z
  ·cases Z
  ·refine jae (thN (jn Z (fun _=>⟨[(0,.own 0),(1,dV a),(2,dV b),(3,dV limit),(4,.fn 85 []),(10,dV true),(11,dV true),(12,dV (w64 (b-a)))],[aX 0 50 e],48⟩) (fun j Z=>?_) ?_))
   ·exact rg G (cF (jae (wJ G Z)))
   rintro⟨⟩ Z;cases Z
end
end Go.Proofs.YtimecodbnhcnoaaGreat
