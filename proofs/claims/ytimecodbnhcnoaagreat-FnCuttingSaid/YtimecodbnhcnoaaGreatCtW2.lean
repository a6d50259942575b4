/- Each function computes what its model says. Made by program (dec.py). -/
import Derived.Test.YtimecodbnhcnoaaGreatCtW1
namespace Go.Proofs.YtimecodbnhcnoaaGreat
open Go Go.Ab Tryz
set_option maxRecDepth 100000
set_option maxHeartbeats 4000000
set_option linter.unusedVariables false
set_option linter.unusedSimpArgs false
noncomputable section
def ypt:MS (Timetable×Rules×Duty) Int:=⟨.x .r (.x .r .r),fun x=>zq42 x.1 x.2.1 x.2.2,fun y=>dV y,fun _=>[],fun _ _=>[]⟩
theorem yvj:FnOK Tryz.prog tJ 97 ypt.S:=by
 refine fm tt ypt [fo yfr] call97 func97 rfl results97 ntmps97 ?_;rintro⟨t,r,d⟩ y cx G (Z:zq42 t r d=some y);unfold zq42 at Z;refine rg G ?_;obtain⟨g,a,h,b,i,e,Z⟩:=ob3 Z;obtain⟨j,f,Z⟩:=jaf Z;refine ds G [] (hN 7 d.Pieces (hD 9 a (hC 11 (ycq.c (_,_) b) (hD 17 e (hC 19 (ycq.c (_,_) f) h0))))) ?_;cases Z;exact rt [] []
def yh2:MS (Timetable×Fleet×(List (List Int))×Rules×Duty) Int:=⟨.x .r (.x .r (.x .r (.x .r .r))),fun x=>zq18 x.1 x.2.1 x.2.2.1 x.2.2.2.1 x.2.2.2.2,fun y=>dV y,fun _=>[],fun _ _=>[]⟩
theorem yqd:FnOK Tryz.prog tJ 55 yh2.S:=by
 refine fm tt yh2 [fo ycf,fo yvo,fo ysk,fo ygd,fo yss,fo yfr,fo yp1,fo yvj] call55 func55 rfl results55 ntmps55 ?_;rintro⟨t,f,p,r,d⟩ y cx G (Z:zq18 t f p r d=some y);unfold zq18 at Z;refine rg G (jab ?_);obtain⟨Q,h,Z⟩:=jaf Z;refine rs G (hN 2 d.Pieces (hC 3 (yaw h) h0)) ?_;refine cd Z ?_ ?_<;>intro Z
 ·refine rg G ?_;cases Z;exact rt [] []
 ·refine jae (thN (rg G (jab (rs G (hN 2 d.Pieces h0) ?_))));refine tF Z (fun q=>⟨[(5,.ref 16 0),(6,.ref 32 0),(8,.ref 48 0),(9,.ref 64 0),(11,.own 80)],[bX 16 30 [dV t.Network.Stops,dV t.Network.Lines,dV t.Trips],bX 32 33 [dV f.Dead,dV f.Turn],bX 48 35 [dV r.SignOn,dV r.SignOff,dV r.MaxDrive,dV r.MinBreak,dV r.PaidBreak,dV r.MaxLength],bX 64 50 [dV d.Pieces],aX 80 3 q],112⟩) (fun R F Z=>?_) ?_
  ·refine jaa (lpP Z (fun(v,s)=>⟨[(2,dV p),(5,.ref 16 0),(6,.ref 32 0),(8,.ref 48 0),(9,.ref 64 0),(11,.own 80),(25,dV d.Pieces),(26,dV (d.Pieces.length:Int)),(27,dV v)],[bX 16 30 [dV t.Network.Stops,dV t.Network.Lines,dV t.Trips],bX 32 33 [dV f.Dead,dV f.Turn],bX 48 35 [dV r.SignOn,dV r.SignOff,dV r.MaxDrive,dV r.MinBreak,dV r.PaidBreak,dV r.MaxLength],bX 64 50 [dV d.Pieces],aX 80 3 s],112⟩) (Wk_J G.hL ⟨[(2,[]),(5,[]),(6,[]),(8,[]),(9,[]),(11,[.o 80]),(25,[]),(26,[]),(27,[])],[(16,16,[]),(32,32,[]),(48,48,[]),(64,64,[])],[(80,3,1,[])],112⟩ (by kernel_rfl)) ?_);rintro⟨v,s⟩ w hb Z;rw[yf5]at Z;refine rg G (jab (cd Z ?_ ?_))<;>intro Z
   ·refine jae (thN (jab (jaa ?_)));obtain⟨e,A,Z⟩:=jaf Z;refine rs G (hD 0 A h0) ?_;refine jab ?_;obtain⟨T,B,Z⟩:=jaf Z;refine rs G (hC 2 (ypw.c (_,_) B) h0) ?_;refine cd Z ?_ ?_<;>intro Z
    ·refine rg G ?_;have Z:=eL Z hb F;cases Z;exact rt [] []
    ·refine jae (thN ?_);obtain⟨u,C,Z⟩:=jaf Z;refine re G (hA 2 8 C h0) ?_;exact ibN (thN (rh G (wL G Z)))
   ·exact jag (thE (thE (ibE (wE G Z hb))))
  rintro q Z U J;refine thN (jai J ?_);obtain⟨D,E,Z⟩:=jaf Z;refine rs G (hC 1 (ykf.c _ E) h0) ?_;refine jab ?_;obtain⟨V,H,I,K,Z⟩:=ob2 Z;refine rs G (hF 1 (ydx.c _ H) ⟨(jh1 jno jg0),jg0⟩ (hC 2 (yql.c _ K) (hN 3 I (hN 5 D h0)))) ?_;refine cd Z ?_ ?_<;>intro Z
  ·refine rg G ?_;cases Z;exact rt [] []
  ·refine jae (thN (jab (rs G (hN 2 d.Pieces h0) ?_)));refine tF Z (fun _=>⟨[(5,.ref 16 0),(6,.ref 32 0),(8,.ref 48 0),(9,.ref 64 0)],[bX 16 30 [dV t.Network.Stops,dV t.Network.Lines,dV t.Trips],bX 32 33 [dV f.Dead,dV f.Turn],bX 48 35 [dV r.SignOn,dV r.SignOff,dV r.MaxDrive,dV r.MinBreak,dV r.PaidBreak,dV r.MaxLength],bX 64 50 [dV d.Pieces]],96⟩) (fun W i Z=>?_) ?_
   ·refine jaa (lp G Z (fun x=>⟨[(5,.ref 16 0),(6,.ref 32 0),(8,.ref 48 0),(9,.ref 64 0),(49,dV d.Pieces),(50,dV (d.Pieces.length:Int)),(51,dV x)],[bX 16 30 [dV t.Network.Stops,dV t.Network.Lines,dV t.Trips],bX 32 33 [dV f.Dead,dV f.Turn],bX 48 35 [dV r.SignOn,dV r.SignOff,dV r.MaxDrive,dV r.MinBreak,dV r.PaidBreak,dV r.MaxLength],bX 64 50 [dV d.Pieces]],96⟩) ?_);rintro x w a Z;rw[ycj]at Z;refine rg G (jab (cd Z ?_ ?_))<;>intro Z
    ·refine jae (thN (jab (jaa ?_)));obtain⟨X,L,Z⟩:=jaf Z;refine rs G (hD 0 L h0) ?_;obtain⟨Y,M,Z⟩:=jaf Z;refine rs G (hC 2 (ycq.c (_,_) M) h0) ?_;refine rg G (cd Z ?_ ?_)<;>intro Z
     ·refine rg G ?_;have Z:=eL Z a i;cases Z;exact rt [] []
     ·exact jae (ibN (thN (rh G (wL G Z))))
    ·exact jag (thE (thE (ibE (wE G Z a))))
   rintro⟨⟩ Z s3 j;refine thN (jai j ?_);refine jab ?_;obtain⟨k,N,Z⟩:=jaf Z;refine rs G (hC 4 (ymf.c (_,_,_) N) (hN 5 k h0)) ?_;refine tF Z (fun _=>⟨[(5,.ref 16 0),(8,.ref 32 0),(9,.ref 48 0)],[bX 16 30 [dV t.Network.Stops,dV t.Network.Lines,dV t.Trips],bX 32 35 [dV r.SignOn,dV r.SignOff,dV r.MaxDrive,dV r.MinBreak,dV r.PaidBreak,dV r.MaxLength],bX 48 50 [dV d.Pieces]],80⟩) (fun v3 l Z=>?_) ?_
   ·refine jaa (lp G Z (fun z=>⟨[(5,.ref 16 0),(8,.ref 32 0),(9,.ref 48 0),(71,.own 64),(72,dV (k.length:Int)),(73,dV z)],[bX 16 30 [dV t.Network.Stops,dV t.Network.Lines,dV t.Trips],bX 32 35 [dV r.SignOn,dV r.SignOff,dV r.MaxDrive,dV r.MinBreak,dV r.PaidBreak,dV r.MaxLength],bX 48 50 [dV d.Pieces],aX 64 3 k],96⟩) ?_);rintro z w b Z;rw[yci]at Z;refine rg G (jab (cd Z ?_ ?_))<;>intro Z
    ·refine jae (thN (jab (jaa ?_)));obtain⟨P,g,Z⟩:=jaf Z;refine rs G (hD 0 g (hE 1 g h0)) ?_;refine rg G (cd Z ?_ ?_)<;>intro Z
     ·refine rg G ?_;have Z:=eL Z b l;cases Z;exact rt [] []
     ·exact jae (ibN (thN (rh G (wL G Z))))
    ·exact jag (thE (thE (ibE (wE G Z b))))
   rintro⟨⟩ Z s4 m;refine thN (jai m ?_);refine jab ?_;obtain⟨O,n,Z⟩:=jaf Z;refine ds G [] (hC 3 (ypt.c (_,_,_) n) h0) ?_;refine cd Z ?_ ?_<;>intro Z
   ·refine rg G ?_;cases Z;exact rt [] []
   ·refine jae (thN (rg G ?_));cases Z;exact rt [] []
def yl6:MS (Timetable×Fleet×Rules×Duty) Int:=⟨.x .r (.x .r (.x .r .r)),fun x=>zq47 x.1 x.2.1 x.2.2.1 x.2.2.2,fun y=>dV y,fun _=>[],fun _ _=>[]⟩
theorem ypq:FnOK Tryz.prog tJ 24 yl6.S:=by
 refine fm tt yl6 [fo yfr,fo yp1] call24 func24 rfl results24 ntmps24 ?_;rintro⟨t,f,r,d⟩ y cx G (Z:zq47 t f r d=some y);unfold zq47 at Z;refine rg G (rg G (jab (rs G (hN 2 d.Pieces h0) ?_)));refine tl Z (fun a=>⟨[(4,.ref 16 0),(5,.ref 32 0),(6,.ref 48 0),(7,.ref 64 0),(9,dV a)],[bX 16 30 [dV t.Network.Stops,dV t.Network.Lines,dV t.Trips],bX 32 33 [dV f.Dead,dV f.Turn],bX 48 35 [dV r.SignOn,dV r.SignOff,dV r.MaxDrive,dV r.MinBreak,dV r.PaidBreak,dV r.MaxLength],bX 64 50 [dV d.Pieces]],96⟩) (fun a Z=>?_) ?_
 ·refine jaa (lp G Z (fun(v,k)=>⟨[(4,.ref 16 0),(5,.ref 32 0),(6,.ref 48 0),(7,.ref 64 0),(9,dV v),(21,dV d.Pieces),(22,dV (d.Pieces.length:Int)),(23,dV k)],[bX 16 30 [dV t.Network.Stops,dV t.Network.Lines,dV t.Trips],bX 32 33 [dV f.Dead,dV f.Turn],bX 48 35 [dV r.SignOn,dV r.SignOff,dV r.MaxDrive,dV r.MinBreak,dV r.PaidBreak,dV r.MaxLength],bX 64 50 [dV d.Pieces]],96⟩) ?_);rintro⟨v,k⟩ o hb Z;rw[yju]at Z;refine rg G (jab (cd Z ?_ ?_))<;>intro Z
  ·refine jae (thN (jab (jaa ?_)));obtain⟨e,h,Z⟩:=jaf Z;refine rs G (hD 0 h h0) ?_;obtain⟨w,q,Z⟩:=jaf Z;refine rs G (hC 2 (ycq.c (_,_) q) h0) ?_;exact rh G (ibN (thN (rh G (wL G Z))))
  ·exact jag (thE (thE (ibE (wD G Z hb))))
 rintro a Z s p;refine thN (jai p ?_);refine jab ?_;obtain⟨b,u,Z⟩:=jaf Z;refine rs G (hC 4 (ymf.c (_,_,_) u) (hN 5 b h0)) ?_;refine tl Z (fun g=>⟨[(9,dV g)],[],32⟩) (fun g Z=>?_) ?_
 ·refine jaa (lp G Z (fun(l,m)=>⟨[(6,.ref 16 0),(9,dV l),(42,.own 32),(43,dV (b.length:Int)),(44,dV m)],[bX 16 35 [dV r.SignOn,dV r.SignOff,dV r.MaxDrive,dV r.MinBreak,dV r.PaidBreak,dV r.MaxLength],aX 32 3 b],64⟩) ?_);rintro⟨l,m⟩ o i Z;rw[yjt]at Z;refine rg G (jab (cd Z ?_ ?_))<;>intro Z
  ·refine jae (thN (jab (jaa ?_)));obtain⟨x,n,Z⟩:=jaf Z;refine rs G (hD 0 n (hE 1 n h0)) ?_;exact rh G (ibN (thN (rh G (wL G Z))))
  ·exact jag (thE (thE (ibE (wD G Z i))))
 rintro g Z z j;refine thN (jai j ?_);refine rg G ?_;cases Z;exact rt [] []
def yl8:MS ((List (List Int))×Timetable×Fleet×(List (List Int))×Rules) price:=⟨.x (.s 53) (.x (.b 30) (.x (.b 33) (.x (.b 31) (.b 35)))),fun x=>zq45 x.1 x.2.1 x.2.2.1 x.2.2.2.1 x.2.2.2.2,fun y=>dV y,fun _=>[],fun x _=>[arO 53 x.1,bxO 30 x.2.1,bxO 33 x.2.2.1,bxO 31 x.2.2.2.1,bxO 35 x.2.2.2.2]⟩
theorem yvh:FnOK Tryz.prog tJ 79 yl8.S:=by
 refine fm tt yl8 [fo yqd,fo ypq] call79 func79 rfl results79 ntmps79 ?_;rintro⟨own,d,e,f,g⟩ y cx G (Z:zq45 own d e f g=some y);unfold zq45 at Z;refine rg G (rg G (jab ?_));obtain⟨r,h,Z⟩:=jaf Z;refine rs G (hC 5 (yh2.c (_,_,_,_,_) h) h0) ?_;refine cd Z ?_ ?_<;>intro Z
 ·refine rg G ?_;cases Z;exact rt [] []
 ·refine jae (thN ?_);obtain⟨b,a,Z⟩:=jaf Z;refine rs G (hC 4 (yl6.c (_,_,_,_) a) h0) ?_;cases Z;exact rt [] []
def yl7:MS (Timetable×Fleet×(List (List Int))×Rules×(List (List Int))) cutter:=⟨.x .r (.x .r (.x .r (.x .r .r))),fun x=>zq46 x.1 x.2.1 x.2.2.1 x.2.2.2.1 x.2.2.2.2,fun _=>.ref 0 0,fun y=>[.box 128 [dV y.pieces_,dV y.single_,dV y.pair_,.own 1],mpO 126 y.memo_],fun _ _=>[]⟩
theorem yvg:FnOK Tryz.prog tJ 41 yl7.S:=by
 refine fm tt yl7 [fo yvh] call41 func41 rfl results41 ntmps41 ?_;rintro⟨t,f,F,r,p⟩ y cx G (Z:zq46 t f F r p=some y);unfold zq46 at Z;refine rg G ?_;obtain⟨U,L,V,M,Z⟩:=ob2 Z;refine ds G [] (hN 2 p (hO 3 (.l (List.map Enc.e (List.replicate (p.length:Int).toNat ((⟨0,0⟩:price):price)))) (hP (mk_p (b:=16) (jeb L) rfl) (hP (jma Enc.e (p.length:Int).toNat ((⟨0,0⟩:price):price)) (hN 5 p (hO 6 (.l (List.map Enc.e (List.replicate (p.length:Int).toNat (([]:List price):List price)))) (hP (mk_p (b:=24) (jeb M) rfl) (hP (jma Enc.e (p.length:Int).toNat (([]:List price):List price)) h0)))))))) ?_;refine rg G (jab (rs G (hN 1 p h0) ?_));refine tl Z (fun(q,u)=>⟨[(11,.ref 16 0)],[bX 16 128 [dV p,.own 32,.own 48,.own 64],aX 32 82 q,tX 48 124 [some 82] u 48 none,mX 64 126 ([]:List ((Int×Int)×price))],96⟩) (fun vv Z=>?_) ?_
 ·refine jaa (lp G Z (fun(v,i,I)=>⟨[(4,dV p),(11,.ref 16 0),(12,.fn 79 [.ref 32 0,.ref 48 0,.ref 64 0,.ref 80 0]),(28,dV p),(29,dV (p.length:Int)),(30,dV v)],[bX 16 128 [dV p,.own 96,.own 112,.own 128],bX 32 30 [dV t.Network.Stops,dV t.Network.Lines,dV t.Trips],bX 48 33 [dV f.Dead,dV f.Turn],bX 64 31 [dV F],bX 80 35 [dV r.SignOn,dV r.SignOff,dV r.MaxDrive,dV r.MinBreak,dV r.PaidBreak,dV r.MaxLength],aX 96 82 i,tX 112 124 [some 82] I 112 none,mX 128 126 ([]:List ((Int×Int)×price))],160⟩) ?_);rintro⟨v,i,I⟩ N hb Z;rw[yjv]at Z;refine rg G (jab (cd Z ?_ ?_))<;>intro Z
  ·refine jae (thN (jab (jaa ?_)));obtain⟨e,O,Z⟩:=jaf Z;refine rs G (hD 1 O h0) ?_;obtain⟨n,Q,W,K,Z⟩:=ob2 Z;refine ds G [(7,[]),(8,[32,48,64,80,368]),(10,[96])] (hC 8 (yl8.c (_,_,_,_,_) Q) (hD 9 K (hS 10 K n h0))) ?_;obtain⟨X,w,Y,j,Z⟩:=ob2 Z;refine ds G [(9,[112,544])] (hN 6 p (hO 7 (.l (List.map Enc.e (List.replicate (p.length:Int).toNat ((⟨0,0⟩:price):price)))) (hP (mk_p (b:=16) (jeb w) rfl) (hP (jma Enc.e (p.length:Int).toNat ((⟨0,0⟩:price):price)) (hD 8 j (hS 9 j (List.replicate (p.length:Int).toNat ((⟨0,0⟩:price):price)) h0)))))) ?_;refine rs G (hN 1 p h0) ?_;refine tl Z (fun x=>⟨[(4,dV p),(11,.ref 16 0),(12,.fn 79 [.ref 32 0,.ref 48 0,.ref 64 0,.ref 80 0]),(28,dV p),(29,dV (p.length:Int)),(30,dV v)],[bX 16 128 [dV p,.own 96,.own 112,.own 128],bX 32 30 [dV t.Network.Stops,dV t.Network.Lines,dV t.Trips],bX 48 33 [dV f.Dead,dV f.Turn],bX 64 31 [dV F],bX 80 35 [dV r.SignOn,dV r.SignOff,dV r.MaxDrive,dV r.MinBreak,dV r.PaidBreak,dV r.MaxLength],aX 96 82 (i.set v.toNat n),tX 112 124 [some 82] x 112 none,mX 128 126 ([]:List ((Int×Int)×price))],160⟩) (fun x Z=>?_) ?_
   ·refine jaa (lp G Z (fun(a,h)=>⟨[(4,dV p),(11,.ref 16 0),(12,.fn 79 [.ref 32 0,.ref 48 0,.ref 64 0,.ref 80 0]),(13,dV v),(14,dV e),(28,dV p),(29,dV (p.length:Int)),(30,dV v),(54,dV p),(55,dV (p.length:Int)),(56,dV a)],[bX 16 128 [dV p,.own 96,.own 112,.own 128],bX 32 30 [dV t.Network.Stops,dV t.Network.Lines,dV t.Trips],bX 48 33 [dV f.Dead,dV f.Turn],bX 64 31 [dV F],bX 80 35 [dV r.SignOn,dV r.SignOff,dV r.MaxDrive,dV r.MinBreak,dV r.PaidBreak,dV r.MaxLength],aX 96 82 (i.set v.toNat n),tX 112 124 [some 82] h 112 none,mX 128 126 ([]:List ((Int×Int)×price))],160⟩) ?_);rintro⟨a,h⟩ N z Z;rw[yjw]at Z;refine rg G (jab (cd Z ?_ ?_))<;>intro Z
    ·refine jae (thN (jn Z (fun A=>⟨[(4,dV p),(11,.ref 16 0),(12,.fn 79 [.ref 32 0,.ref 48 0,.ref 64 0,.ref 80 0]),(13,dV v),(14,dV e),(28,dV p),(29,dV (p.length:Int)),(30,dV v),(54,dV p),(55,dV (p.length:Int)),(56,dV a)],[bX 16 128 [dV p,.own 96,.own 112,.own 128],bX 32 30 [dV t.Network.Stops,dV t.Network.Lines,dV t.Trips],bX 48 33 [dV f.Dead,dV f.Turn],bX 64 31 [dV F],bX 80 35 [dV r.SignOn,dV r.SignOff,dV r.MaxDrive,dV r.MinBreak,dV r.PaidBreak,dV r.MaxLength],aX 96 82 (i.set v.toNat n),tX 112 124 [some 82] A 112 none,mX 128 126 ([]:List ((Int×Int)×price))],160⟩) (fun A Z=>?_) ?_))
     ·refine jaa ?_;obtain⟨P,B,Z⟩:=jaf Z;refine rs G (hD 1 B h0) ?_;obtain⟨d,g,R,k,Z⟩:=ob2 Z;refine rs G (hD 5 g (hE 6 g (hE 9 g (hP (jkd (f:=Enc.e) k) (hO 10 (.sd2 (Enc.e d) (Enc.e R) (List.map Enc.e (d.set a.toNat (⟨1073741824,0⟩:price))) (List.map Enc.e (h.set v.toNat (d.set a.toNat (⟨1073741824,0⟩:price))))) (hP (jbo (f:=Enc.e) g) (hP (jbo (f:=Enc.e) k) (hP (je1 Enc.e d a.toNat (⟨1073741824,0⟩:price)) (hP (je1 Enc.e h v.toNat (d.set a.toNat (⟨1073741824,0⟩:price))) h0))))))))) ?_;refine rg G (cd Z ?_ ?_)<;>intro Z
      ·obtain⟨T,C,o,D,E,m,Z⟩:=ob3 Z;refine de G [(11,[]),(12,[32,48,64,80,656]),(14,[112])] (hD 5 C (hE 6 (jhu (y:=(d.set a.toNat (⟨1073741824,0⟩:price))) g) (hC 12 (yl8.c (_,_,_,_,_) D) (hE 13 (jhu (y:=(d.set a.toNat (⟨1073741824,0⟩:price))) g) (hP (jkd (f:=Enc.e) m) (hO 14 (.sd2 (Enc.e (d.set a.toNat (⟨1073741824,0⟩:price))) (Enc.e E) (List.map Enc.e ((d.set a.toNat (⟨1073741824,0⟩:price)).set a.toNat o)) (List.map Enc.e ((h.set v.toNat (d.set a.toNat (⟨1073741824,0⟩:price))).set v.toNat ((d.set a.toNat (⟨1073741824,0⟩:price)).set a.toNat o)))) (hP (jbo (f:=Enc.e) (jhu (y:=(d.set a.toNat (⟨1073741824,0⟩:price))) g)) (hP (jbo (f:=Enc.e) m) (hP (je1 Enc.e (d.set a.toNat (⟨1073741824,0⟩:price)) a.toNat o) (hP (je1 Enc.e (h.set v.toNat (d.set a.toNat (⟨1073741824,0⟩:price))) v.toNat ((d.set a.toNat (⟨1073741824,0⟩:price)).set a.toNat o)) h0)))))))))) ?_;exact ibN (wJ G Z)
      ·exact jae (ibN (wJ G Z))
     rintro A Z;exact rh G (wL G Z)
    ·exact jag (thE (thE (ibE (wD G Z z))))
   rintro x Z s J;refine ibN (thN (jai J ?_));exact rh G (wL G Z)
  ·exact jag (thE (thE (ibE (wD G Z hb))))
 rintro⟨q,u⟩ Z s1 H;refine thN (jai H ?_);refine rg G ?_;cases Z;refine wR (x':=⟨[(10,.ref 16 0)],[bX 16 128 [dV p,dV q,dV u,.own 32],mX 32 126 ([]:List ((Int×Int)×price))],64⟩) (wkA G (by kernel_rfl)) ?_;exact rt [16,32] []
def yl5:MS (price×price) price:=mS zq50
theorem ypn:FnOK Tryz.prog tJ 80 yl5.S:=by
 refine fm tt yl5 [] call80 func80 rfl results80 ntmps80 ?_;rintro⟨a,b⟩ y cx G (Z:zq50 a b=some y);unfold zq50 at Z;refine rg G (rg G ?_);cases Z;exact rt [] []
def yqr:MS (Int×Int) Int:=mS zq0
theorem yt8:FnOK Tryz.prog tJ 83 yqr.S:=by
 refine fm tt yqr [fo yt7] call83 func83 rfl results83 ntmps83 ?_;rintro⟨x,d⟩ y cx G (Z:zq0 x d=some y);unfold zq0 at Z;refine rg G ?_;obtain⟨r,h,Z⟩:=jaf Z;refine rs G (hC 1 (yfv.c _ h) h0) ?_;obtain⟨b,a,Z⟩:=jaf Z;refine rs G (hC 1 (yfv.c _ a) h0) ?_;refine jab (rg G (cd Z ?_ ?_))<;>intro Z
 ·refine jab (rg G (cd Z ?_ ?_))<;>intro Z
  ·refine rg G ?_;cases Z;exact rt [] []
  ·refine jae (thN (rg G ?_));cases Z;exact rt [] []
 ·refine jae (thN (jab (rg G (cd Z ?_ ?_))))<;>intro Z
  ·refine rg G ?_;cases Z;exact rt [] []
  ·refine jae (thN (jab (rg G (cd Z ?_ ?_))))<;>intro Z
   ·refine rg G ?_;cases Z;exact rt [] []
   ·refine jae (thN (jab (rg G (cd Z ?_ ?_))))<;>intro Z
    ·refine rg G ?_;cases Z;exact rt [] []
    ·refine jae (thN (rg G ?_));cases Z;exact rt [] []
def yvt:MS (List Int) Int:=mR zq2
theorem yxn:FnOK Tryz.prog tJ 82 yvt.S:=by
 refine fm tt yvt [] call82 func82 rfl results82 ntmps82 ?_;rintro c y cx G (Z:zq2 c=some y);unfold zq2 at Z;refine rg G (rg G (jab (rs G (hN 1 c h0) ?_)));refine tF Z (fun _=>⟨[(3,kV .i64 0)],[],32⟩) (fun a d Z=>?_) ?_
 ·refine jaa (lp G Z (fun v=>⟨[(3,kV .i64 0),(6,dV c),(7,dV (c.length:Int)),(8,dV v)],[],32⟩) ?_);rintro v b hb Z;rw[ybd]at Z;refine rg G (jab (cd Z ?_ ?_))<;>intro Z
  ·refine jae (thN (jab (jaa ?_)));obtain⟨e,h,Z⟩:=jaf Z;refine rs G (hD 0 h h0) ?_;refine rg G (cd Z ?_ ?_)<;>intro Z
   ·refine rg G ?_;have Z:=eL Z hb d;cases Z;exact rt [] []
   ·exact jae (ibN (thN (rh G (wL G Z))))
  ·exact jag (thE (thE (ibE (wE G Z hb))))
 rintro⟨⟩ Z s f;refine thN (jai f ?_);refine rg G ?_;cases Z;exact rt [] []
def yex:MS (price×price) Int:=mS zq20
theorem yj5:FnOK Tryz.prog tJ 43 yex.S:=by
 refine fm tt yex [fo yt8,fo yxn] call43 func43 rfl results43 ntmps43 ?_;rintro⟨a,b⟩ y cx G (Z:zq20 a b=some y);unfold zq20 at Z;refine rg G ?_;obtain⟨g,d,h,e,i,f,Z⟩:=ob3 Z;refine ds G [] (hC 4 (yqr.c (_,_) d) (hC 9 (yqr.c (_,_) e) (hC 11 (yvt.c _ f) h0))) ?_;cases Z;exact rt [] []
def ybj(a:cutter->Int->Int->Option (price×(List ((Int×Int)×price)))):MS (cutter×Int×Int) (price×(List ((Int×Int)×price))):=⟨⟨[.bo 1,.rd,.rd],fun x=>[.sc undef,Enc.e x.2.1,Enc.e x.2.2],fun x=>[.box 128 [dV x.1.pieces_,dV x.1.single_,dV x.1.pair_,.own 1],mpO 126 x.1.memo_],2,2,fun _=>rfl,fun _=>rfl,rfl,(by
  rintro⟨b,c,d⟩ ⟨b0,f,g⟩ h hO;have i:b=b0:=Enc.inj _ _ (congrArg D.agg (jbc (congrArg (fun l=>obC l 0 0) hO) (jbc (congrArg (fun l=>obC l 0 1) hO) (jbc (congrArg (fun l=>obC l 0 2) hO) (jbc (mpL (congrArg (fun l=>obM l 1) hO)) rfl)))));have q1:c=f:=qI 1 h;have j:d=g:=qI 2 h;subst i;subst q1;subst j;rfl)⟩,fun x=>a x.1 x.2.1 x.2.2,fun y=>dV y.1,fun _=>[],fun x y=>[.box 128 [dV x.1.pieces_,dV x.1.single_,dV x.1.pair_,.own 1],mpO 126 y.2]⟩
def yqa:MS (cutter×Int×Int) (price×(List ((Int×Int)×price))):=ybj zq23
theorem yp9{x i paired y}(Z:zq23 x i paired=some y):yqa.C (x,i,paired) y:=yqa.c (x,i,paired) Z
theorem yp8{a:cutter->Int->Int->Option (price×(List ((Int×Int)×price)))}{x i paired y}(Z:a x i paired=some y):(ybj a).C (x,i,paired) y:=(ybj a).c (x,i,paired) Z
def ydu(a:cutter->Int->Int->Option (price×(List ((Int×Int)×price)))):MS (cutter×Int×Int×Int) (price×Bool×(List ((Int×Int)×price))):=⟨⟨[.bo 1,.rd,.rd,.rd],fun x=>[.sc undef,Enc.e x.2.1,Enc.e x.2.2.1,Enc.e x.2.2.2],fun x=>[.box 128 [dV x.1.pieces_,dV x.1.single_,dV x.1.pair_,.own 1],mpO 126 x.1.memo_],2,2,fun _=>rfl,fun _=>rfl,rfl,(by
  rintro⟨b,c,d,f⟩ ⟨b0,g,i,j⟩ h hO;have k:b=b0:=Enc.inj _ _ (congrArg D.agg (jbc (congrArg (fun l=>obC l 0 0) hO) (jbc (congrArg (fun l=>obC l 0 1) hO) (jbc (congrArg (fun l=>obC l 0 2) hO) (jbc (mpL (congrArg (fun l=>obM l 1) hO)) rfl)))));have q1:c=g:=qI 1 h;have m:d=i:=qI 2 h;have n:f=j:=qI 3 h;subst k;subst q1;subst m;subst n;rfl)⟩,fun x=>zq26 a x.1 x.2.1 x.2.2.1 x.2.2.2,fun y=>.tup [dV y.1,dV y.2.1],fun _=>[],fun x y=>[.box 128 [dV x.1.pieces_,dV x.1.single_,dV x.1.pair_,.own 1],mpO 126 y.2.2]⟩
theorem yp5{a:cutter->Int->Int->Option (price×(List ((Int×Int)×price)))}{x i k paired y}(Z:zq26 a x i k paired=some y):(ydu a).C (x,i,k,paired) y:=(ydu a).c (x,i,k,paired) Z
theorem yaj{E:cutter->Int->Int->Option (price×(List ((Int×Int)×price)))}(F:FnOK Tryz.prog tJ 42 (ybj E).S):FnOK Tryz.prog tJ 81 (ydu E).S:=by
 refine fm tt (ydu E) [foK F [0] (fun _ _=>rfl) (fun _ _=>rfl),fo ypn] call81 func81 rfl results81 ntmps81 ?_;rintro⟨x,i,k,p⟩ y cx G (Z:zq26 E x i k p=some y);unfold zq26 at Z;refine rg G (jab (jn Z (fun v=>⟨[(0,.ref 0 0),(1,dV i),(2,dV k),(3,dV p),(8,.ref 32 0),(40,dV v)],[bX 0 128 [dV x.pieces_,dV x.single_,dV x.pair_,.own 1],mX 1 126 x.memo_,bX 32 82 [kV .i64 0,kV .i64 0]],64⟩) (fun v Z=>?_) ?_))
 ·rcases bf Z with⟨hb,Z⟩|⟨hb,Z⟩
  ·refine re G (hO 3 (.b true) (hP hb h0)) ?_;exact wJ G Z
  ·obtain⟨u,h,Z⟩:=jaf Z;rcases bf Z with⟨a,Z⟩|⟨a,Z⟩
   ·refine re G (hO 3 (.b false) (hP hb (hK h (hO 10 (.b true) (hP a h0))))) ?_;exact wJ G Z
   ·obtain⟨s,o,Z⟩:=jaf Z;rcases bf Z with⟨d,Z⟩|⟨d,Z⟩
    ·refine re G (hO 3 (.b false) (hP hb (hK h (hO 10 (.b false) (hP a (hK o (hO 17 (.b true) (hP d h0)))))))) ?_;exact wJ G Z
    ·obtain⟨e,q,t,r,Z⟩:=ob2 Z;refine re G (hO 3 (.b false) (hP hb (hK h (hO 10 (.b false) (hP a (hK o (hO 17 (.b false) (hP d (hD 23 q (hD 26 r h0)))))))))) ?_;exact wJ G Z
 rintro v Z;refine cd Z ?_ ?_<;>intro Z
 ·refine rg G ?_;cases Z;exact rt [] []
 ·refine jae (thN ?_);obtain⟨w,f,z,g,A,j,Z⟩:=ob3 Z;obtain⟨B,l,C,m,D,n,Z⟩:=ob3 Z;refine ds G [(20,[1]),(22,[32])] (hD 5 f (hD 8 g (hK j (hK l (hC 20 (yp8 m) (hC 21 (yl5.c (_,_) n) h0)))))) ?_;cases Z;exact rt [] []
theorem ysb{F:cutter->Int->Int->Option (price×(List ((Int×Int)×price)))}(J:FnOK Tryz.prog tJ 42 (ybj F).S):FnOK Tryz.prog tJ 42 (ybj (ydv F)).S:=by
 refine fm tt (ybj (ydv F)) [fo J,fo ypn,fo (yaj J),fo yj5] call42 func42 rfl results42 ntmps42 ?_;rintro⟨x,i,p⟩ y cx G (Z:ydv F x i p=some y);unfold ydv at Z;refine rg G (rg G (jab ?_));obtain⟨C,D,Z⟩:=jaf Z;refine ds G [(10,[256])] (hO 5 (.mg (Enc.e C.1) C.2) (hP (mg_1 D) (hP (mg_2 D) h0))) ?_;refine rg G (cd Z ?_ ?_)<;>intro Z
 ·refine rg G ?_;cases Z;exact rt [] []
 ·refine jae (thN (rg G (jn Z (fun(v,r,t)=>⟨[(0,.ref 0 0),(6,.ref 32 0),(7,.ref 48 0),(10,.ref 64 0)],[bX 0 128 [dV x.pieces_,dV x.single_,dV x.pair_,.own 1],mX 1 126 v,bX 32 82 [kV .i64 0,kV .i64 0],bX 48 130 [dV i,dV p],bX 64 82 [dV r,dV t]],96⟩) (fun N Z=>?_) ?_)))
  ·refine rs G (hN 5 x.pieces_ h0) ?_;refine cd Z ?_ ?_<;>intro Z
   ·refine rs G (hN 4 x.single_ h0) ?_;refine tl Z (fun(E,H)=>⟨[(0,.ref 0 0),(6,.ref 32 0),(7,.ref 48 0),(10,.ref 64 0)],[bX 0 128 [dV x.pieces_,dV x.single_,dV x.pair_,.own 1],mX 1 126 x.memo_,bX 32 82 [kV .i64 0,kV .i64 0],bX 48 130 [dV i,dV p],bX 64 82 [dV E,dV H]],96⟩) (fun O Z=>?_) ?_
    ·refine jaa (lp G Z (fun(w,I,K)=>⟨[(0,.ref 0 0),(2,dV p),(6,.ref 32 0),(7,.ref 48 0),(10,.ref 64 0),(40,dV x.single_),(41,dV (x.single_.length:Int)),(42,dV w)],[bX 0 128 [dV x.pieces_,dV x.single_,dV x.pair_,.own 1],mX 1 126 x.memo_,bX 32 82 [kV .i64 0,kV .i64 0],bX 48 130 [dV i,dV p],bX 64 82 [dV I,dV K]],96⟩) ?_);rintro⟨w,I,K⟩ Q hb Z;rw[yj2]at Z;refine rg G (jab (cd Z ?_ ?_))<;>intro Z
     ·refine jae (thN (jn Z (fun(L,M)=>⟨[(0,.ref 0 0),(2,dV p),(6,.ref 32 0),(7,.ref 48 0),(10,.ref 64 0),(40,dV x.single_),(41,dV (x.single_.length:Int)),(42,dV w)],[bX 0 128 [dV x.pieces_,dV x.single_,dV x.pair_,.own 1],mX 1 126 x.memo_,bX 32 82 [kV .i64 0,kV .i64 0],bX 48 130 [dV i,dV p],bX 64 82 [dV L,dV M]],96⟩) (fun vv Z=>?_) ?_))
      ·refine jaa ?_;obtain⟨e,R,Z⟩:=jaf Z;refine rs G (hD 1 R h0) ?_;obtain⟨u,T,Z⟩:=jaf Z;refine rs G (hK T h0) ?_;refine cd Z ?_ ?_<;>intro Z
       ·obtain⟨r2,U,Z⟩:=jaf Z;refine re G (hC 2 (yl5.c (_,_) U) h0) ?_;exact ibN (wJ G Z)
       ·exact jae (ibN (wJ G Z))
      rintro⟨L,M⟩ Z;exact rh G (wL G Z)
     ·exact jag (thE (thE (ibE (wD G Z hb))))
    rintro⟨E,H⟩ Z s hw;exact wJp Z (Wk.trans hw (Wk_J G.hL ⟨[(0,[]),(6,[]),(7,[]),(10,[])],[(0,0,[]),(1,1,[]),(32,32,[]),(48,48,[]),(64,64,[])],[],96⟩ (by kernel_rfl)))
   ·obtain⟨r3,V,Z⟩:=jaf Z;refine rs G (hC 4 (yp8 V) h0) ?_;refine rs G (hN 4 x.pieces_ h0) ?_;refine tl Z (fun(j,k,l)=>⟨[(0,.ref 0 0),(6,.ref 32 0),(7,.ref 48 0),(10,.ref 64 0)],[bX 0 128 [dV x.pieces_,dV x.single_,dV x.pair_,.own 1],mX 1 126 j,bX 32 82 [kV .i64 0,kV .i64 0],bX 48 130 [dV i,dV p],bX 64 82 [dV k,dV l]],96⟩) (fun W Z=>?_) ?_
    ·refine jaa (lp G Z (fun(a,m,d,f)=>⟨[(0,.ref 0 0),(1,dV i),(2,dV p),(6,.ref 32 0),(7,.ref 48 0),(10,.ref 64 0),(65,dV (x.pieces_.length:Int)),(66,dV a)],[bX 0 128 [dV x.pieces_,dV x.single_,dV x.pair_,.own 1],mX 1 126 m,bX 32 82 [kV .i64 0,kV .i64 0],bX 48 130 [dV i,dV p],bX 64 82 [dV d,dV f]],96⟩) ?_);rintro⟨a,m,d,f⟩ Q z Z;rw[yj1]at Z;refine rg G (jab (cd Z ?_ ?_))<;>intro Z
     ·refine jae (thN (jn Z (fun(n,o,q)=>⟨[(0,.ref 0 0),(1,dV i),(2,dV p),(6,.ref 32 0),(7,.ref 48 0),(10,.ref 64 0),(65,dV (x.pieces_.length:Int)),(66,dV a)],[bX 0 128 [dV x.pieces_,dV x.single_,dV x.pair_,.own 1],mX 1 126 n,bX 32 82 [kV .i64 0,kV .i64 0],bX 48 130 [dV i,dV p],bX 64 82 [dV o,dV q]],96⟩) (fun X Z=>?_) ?_))
      ·refine jaa (rg G ?_);obtain⟨A,Y,Z⟩:=jaf Z;refine rs G (hC 4 (yp5 Y) h0) ?_;refine jn Z (fun g=>⟨[(0,.ref 0 0),(1,dV i),(2,dV p),(6,.ref 32 0),(7,.ref 48 0),(10,.ref 64 0),(14,.ref 80 0),(65,dV (x.pieces_.length:Int)),(66,dV a),(83,dV g)],[bX 0 128 [dV x.pieces_,dV x.single_,dV x.pair_,.own 1],mX 1 126 A.2.2,bX 32 82 [kV .i64 0,kV .i64 0],bX 48 130 [dV i,dV p],bX 64 82 [dV d,dV f],bX 80 82 [dV A.1.duties_,dV A.1.paid_]],112⟩) (fun g Z=>?_) ?_
       ·rcases bf Z with⟨h,Z⟩|⟨h,Z⟩
        ·obtain⟨r5,P,Z⟩:=jaf Z;refine re G (hO 1 (.b true) (hP h (hC 4 (yex.c (_,_) P) h0))) ?_;exact wJ G Z
        ·refine re G (hO 1 (.b false) (hP h h0)) ?_;exact wJ G Z
       rintro g Z;refine cd Z ?_ ?_<;>intro Z
       ·exact rh G (ibN (wJ G Z))
       ·exact jae (ibN (wJ G Z))
      rintro⟨n,o,q⟩ Z;exact rh G (wL G Z)
     ·exact jag (thE (thE (ibE (wD G Z z))))
    rintro⟨j,k,l⟩ Z s1 B;exact wJp Z (Wk.trans B (Wk_J G.hL ⟨[(0,[]),(6,[]),(7,[]),(10,[])],[(0,0,[]),(1,1,[]),(32,32,[]),(48,48,[]),(64,64,[])],[],96⟩ (by kernel_rfl)))
  rintro⟨v,r,t⟩ Z;refine ds G [(6,[1])] (hO 6 (.mp (encM (putL (i,p) (⟨r,t⟩:price) v))) (hP (juo (i,p) (⟨r,t⟩:price) v) h0)) ?_;refine rg G ?_;cases Z;exact rt [] []
theorem ymh:∀k,FnOK Tryz.prog tJ 42 (ybj (yew k)).S
 |0=>⟨fun args w=>call42 args w,fun vs w F ds obs κ a=>by obtain⟨x,y,_,_,h⟩:=a;cases h⟩
 |k+1=>ysb (ymh k)
theorem yj0:FnOK Tryz.prog tJ 42 yqa.S:=ymh 4294967296
theorem yvv:FnOK Tryz.prog tJ 81 (ydu zq23).S:=yaj yj0
def yp7:MS (Duty×Duty) Int:=mS zq24
theorem yvx:FnOK Tryz.prog tJ 85 yp7.S:=by
 refine fm tt yp7 [fo yt8] call85 func85 rfl results85 ntmps85 ?_;rintro⟨a,b⟩ y cx G (Z:zq24 a b=some y);unfold zq24 at Z;refine rg G ?_;obtain⟨i,d,j,e,k,f,Z⟩:=ob3 Z;obtain⟨l,g,m,h,Z⟩:=ob2 Z;refine ds G [] (hD 2 d (hD 4 e (hD 8 f (hD 10 g (hC 12 (yqr.c (_,_) h) h0))))) ?_;cases Z;exact rt [] []
def yke:MS ((List Duty)×Int×Int) ((List Duty)):=⟨⟨[.sl,.rd,.rd,.fn 85 []],fun x=>[.sc undef,Enc.e x.2.1,Enc.e x.2.2,.agg []],fun x=>[arO 50 x.1],1,1,fun _=>rfl,fun _=>rfl,rfl,(by
  rintro⟨a,b,c⟩ ⟨b0,d,f⟩ h hO;have g:a=b0:=Enc.inj _ _ (congrArg (fun l=>D.sl 1 (obL l 0)) hO);have q1:b=d:=qI 1 h;have i:c=f:=qI 2 h;subst g;subst q1;subst i;rfl)⟩,fun x=>yv8 x.1 x.2.1 x.2.2,fun _=>.tup [],fun _=>[],fun _ y=>[arO 50 y]⟩
theorem ysj:FnOK Tryz.prog tJ 146 yke.S:=by
 refine fm tt yke [fo yvx] call146 func146 rfl results146 ntmps146 ?_;rintro⟨E,a,b⟩ y cx G (Z:yv8 E a b=some y);obtain⟨cmp,p⟩:∃q,(fun(H:Duty)(I:Duty)=>zq24 H I)=q:=⟨_,rfl⟩;have Z:yqi E a b cmp=some y:=by rw[<-p];exact Z
 unfold yqi at Z;refine rg G (jaa (lp G Z (fun(v,f)=>⟨[(0,.own 0),(1,dV a),(2,dV b),(3,.fn 85 []),(8,dV v)],[aX 0 50 f],48⟩) ?_));rintro⟨v,f⟩ u hb Z;rw[ymj]at Z;refine jab (rg G (cd Z ?_ ?_))<;>intro Z
 ·refine jae (thN (jab (jaa (rg G (tl Z (fun d=>⟨[(0,.own 0),(1,dV a),(2,dV b),(3,.fn 85 []),(8,dV v)],[aX 0 50 d],48⟩) (fun d Z=>?_) ?_)))))
  ·refine jaa (lp G Z (fun(m,e)=>⟨[(0,.own 0),(1,dV a),(2,dV b),(3,.fn 85 []),(8,dV v),(9,dV m)],[aX 0 50 e],48⟩) ?_);rintro⟨m,e⟩ u n Z;rw[ymk]at Z;refine jab (jn Z (fun o=>⟨[(0,.own 0),(1,dV a),(2,dV b),(3,.fn 85 []),(8,dV v),(9,dV m),(34,dV o)],[aX 0 50 e],48⟩) (fun o Z=>?_) ?_)
   ·rcases bf Z with⟨g,Z⟩|⟨g,Z⟩
    ·obtain⟨w,r,x,t,z,l,Z⟩:=ob3 Z;have l:zq24 w x=some z:=by rw[<-p]at l;exact l
     refine de G [(14,[])] (hO 3 (.b true) (hP g (hD 7 r (hE 8 r (hD 12 t (hE 13 t (hC 14 (yp7.c (_,_) l) h0))))))) ?_;exact wJ G Z
    ·refine de G [(14,[])] (hO 3 (.b false) (hP g h0)) ?_;exact wJ G Z
   rintro o Z;refine cd Z ?_ ?_<;>intro Z
   ·refine jae (thN (jab (jaa ?_)));obtain⟨A,h,B,i,C,j,Z⟩:=ob3 Z;obtain⟨D,k,Z⟩:=jaf Z;refine de G [(15,[0]),(17,[0])] (hD 8 h (hE 9 h (hD 12 i (hE 13 i (hD 14 j (hS 15 j A (hD 16 k (hS 17 k B h0)))))))) ?_;exact ibN (thN (rh G (wL G Z)))
   ·exact jag (thE (thE (ibE (wD G Z n))))
  rintro d Z s F;refine ibN (thN (jai F ?_));exact rh G (wL G Z)
 ·have Z:=eD Z hb;refine jag (thE (thE (ibE ?_)));cases Z;exact fN [] []
def ykb:MS ((List Duty)×Int×Int×Int) ((List Duty)):=⟨⟨[.sl,.rd,.rd,.rd,.fn 85 []],fun x=>[.sc undef,Enc.e x.2.1,Enc.e x.2.2.1,Enc.e x.2.2.2,.agg []],fun x=>[arO 50 x.1],1,1,fun _=>rfl,fun _=>rfl,rfl,(by
  rintro⟨a,b,c,d⟩ ⟨b0,f,g,i⟩ h hO;have j:a=b0:=Enc.inj _ _ (congrArg (fun l=>D.sl 1 (obL l 0)) hO);have q1:b=f:=qI 1 h;have k:c=g:=qI 2 h;have m:d=i:=qI 3 h;subst j;subst q1;subst k;subst m;rfl)⟩,fun x=>yv6 x.1 x.2.1 x.2.2.1 x.2.2.2,fun _=>.tup [],fun _=>[],fun _ y=>[arO 50 y]⟩
theorem ysh:FnOK Tryz.prog tJ 127 ykb.S:=by
 refine fm tt ykb [fo ysj] call127 func127 rfl results127 ntmps127 ?_;rintro⟨f,a,b,e⟩ y cx G (Z:yv6 f a b e=some y);obtain⟨cmp,g⟩:∃q,(fun(i:Duty)(j:Duty)=>zq24 i j)=q:=⟨_,rfl⟩;have Z:yqg f a b e cmp=some y:=by rw[<-g];exact Z
 unfold yqg at Z;refine rg G (rg G (jaa (lp G Z (fun _=>⟨[(0,.own 0),(1,dV a),(2,dV b),(3,dV e),(4,.fn 85 []),(10,dV true),(11,dV true)],[aX 0 50 f],48⟩) ?_)));rintro⟨⟩ d hb Z;rw[ygb]at Z;refine jaa (rg G (jab (rg G (cd Z ?_ ?_))))<;>intro Z
 ·obtain⟨r,h,Z⟩:=jaf Z;have h:yv8 f a b=some r:=by rw[<-g]at h;exact h
  refine rs G (hC 4 (yke.c (_,_,_) h) h0) ?_;have Z:=eD Z hb;cases Z;exact rt [] []
 ·refine jae (thN (jab (rg G (cd Z ?_ ?_))))<;>intro Z
  ·cases Z
  ·refine jae (thN (jn Z (fun _=>⟨[(0,.own 0),(1,dV a),(2,dV b),(3,dV e),(4,.fn 85 []),(10,dV true),(11,dV true),(12,dV (w64 (b-a)))],[aX 0 50 f],48⟩) (fun k Z=>?_) ?_))
   ·exact rg G (cF (jae (wJ G Z)))
   rintro⟨⟩ Z;cases Z
def ykh:MS (List Duty) (List Duty):=⟨⟨[.sl,.fn 85 []],fun x=>[.sc undef,.agg []],fun x=>[arO 50 x],1,1,fun _=>rfl,fun _=>rfl,rfl,(by
  rintro a b0 h hO;have b:a=b0:=Enc.inj _ _ (congrArg (fun l=>D.sl 1 (obL l 0)) hO);subst b;rfl)⟩,yqj,fun _=>.tup [],fun _=>[],fun _ y=>[arO 50 y]⟩
theorem ysl:FnOK Tryz.prog tJ 84 ykh.S:=by
 refine fm tt ykh [fo ypl,fo ysh] call84 func84 rfl results84 ntmps84 ?_;rintro x y cx G (Z:yqj x=some y);obtain⟨cmp,d⟩:∃q,(fun(e:Duty)(f:Duty)=>zq24 e f)=q:=⟨_,rfl⟩;have Z:ysm x cmp=some y:=by rw[<-d];exact Z
 unfold ysm at Z;refine rs G (hN 1 x h0) ?_;obtain⟨r,h,b,a,Z⟩:=ob2 Z;have a:yv6 x 0 (x.length:Int) r=some b:=by rw[<-d]at a;exact a
 refine re G (hC 4 (yl2.c _ h) (hC 6 (ykb.c (_,_,_,_) a) h0)) ?_;cases Z;exact fN [] []
def yp6:MS cutter ((List Duty)×(List ((Int×Int)×price))):=⟨⟨[.bo 1],fun x=>[.sc undef],fun x=>[.box 128 [dV x.pieces_,dV x.single_,dV x.pair_,.own 1],mpO 126 x.memo_],2,2,fun _=>rfl,fun _=>rfl,rfl,(by
  rintro a b0 h hO;have b:a=b0:=Enc.inj _ _ (congrArg D.agg (jbc (congrArg (fun l=>obC l 0 0) hO) (jbc (congrArg (fun l=>obC l 0 1) hO) (jbc (congrArg (fun l=>obC l 0 2) hO) (jbc (mpL (congrArg (fun l=>obM l 1) hO)) rfl)))));subst b;rfl)⟩,zq25,fun _=>.own 0,fun y=>[arO 50 y.1],fun x y=>[.box 128 [dV x.pieces_,dV x.single_,dV x.pair_,.own 1],mpO 126 y.2]⟩
theorem yvw:FnOK Tryz.prog tJ 44 yp6.S:=by
 refine fm tt yp6 [fo yj0,fo yvv,fo yj5,fo ysl] call44 func44 rfl results44 ntmps44 ?_;rintro x y cx G (Z:zq25 x=some y);unfold zq25 at Z;refine rg G (rg G (rg G (jab (rs G (hN 4 x.pieces_ h0) ?_))));refine tl Z (fun(g,d,ab)=>⟨[(0,.ref 0 0),(3,.own 32),(4,dV g)],[bX 0 128 [dV x.pieces_,dV x.single_,dV x.pair_,.own 1],mX 1 126 d,tX 32 50 [some 53] ab 32 none],64⟩) (fun N Z=>?_) ?_
 ·refine jaa (lpP Z (fun(i,v,D,p)=>⟨[(0,.ref 0 0),(3,.own 32),(4,dV i),(16,dV (x.pieces_.length:Int)),(17,dV v)],[bX 0 128 [dV x.pieces_,dV x.single_,dV x.pair_,.own 1],mX 1 126 D,tX 32 50 [some 53] p 32 none],64⟩) (Wk_J G.hL ⟨[(0,[]),(3,[.o 32]),(4,[]),(16,[]),(17,[])],[(0,0,[]),(1,1,[])],[(32,50,1,[some 53])],64⟩ (by kernel_rfl)) ?_);rintro⟨i,v,D,p⟩ E hb Z;rw[yf2]at Z;refine rg G (jab (cd Z ?_ ?_))<;>intro Z
  ·refine jae (thN (jn Z (fun(H,I,P)=>⟨[(0,.ref 0 0),(3,.own 32),(4,dV H),(16,dV (x.pieces_.length:Int)),(17,dV v)],[bX 0 128 [dV x.pieces_,dV x.single_,dV x.pair_,.own 1],mX 1 126 I,tX 32 50 [some 53] P 32 none],64⟩) (fun O Z=>?_) ?_))
   ·refine jaa (rg G ?_);obtain⟨r,h,Z⟩:=jaf Z;refine rs G (hC 3 (yp9 h) h0) ?_;refine rs G (hN 4 x.pieces_ h0) ?_;refine tl Z (fun(K,L,aa)=>⟨[(0,.ref 0 0),(3,.own 32),(4,dV K),(16,dV (x.pieces_.length:Int)),(17,dV v)],[bX 0 128 [dV x.pieces_,dV x.single_,dV x.pair_,.own 1],mX 1 126 L,tX 32 50 [some 53] aa 32 none],64⟩) (fun vv Z=>?_) ?_
    ·refine jaa (lp G Z (fun(j,M)=>⟨[(0,.ref 0 0),(3,.own 32),(4,dV i),(5,dV v),(6,.ref 48 0),(16,dV (x.pieces_.length:Int)),(17,dV v),(28,dV (x.pieces_.length:Int)),(29,dV j)],[bX 0 128 [dV x.pieces_,dV x.single_,dV x.pair_,.own 1],mX 1 126 M,tX 32 50 [some 53] p 32 none,bX 48 82 [dV r.1.duties_,dV r.1.paid_]],80⟩) ?_);rintro⟨j,M⟩ E e Z;rw[yjz]at Z;refine rg G (jab (cd Z ?_ ?_))<;>intro Z
     ·refine jae (thN (jab (jaa (rg G ?_))));obtain⟨Q,R,Z⟩:=jaf Z;refine rs G (hC 4 (yp5 R) h0) ?_;refine jn Z (fun k=>⟨[(0,.ref 0 0),(3,.own 32),(4,dV i),(5,dV v),(6,.ref 48 0),(7,dV j),(16,dV (x.pieces_.length:Int)),(17,dV v),(28,dV (x.pieces_.length:Int)),(29,dV j),(46,dV k)],[bX 0 128 [dV x.pieces_,dV x.single_,dV x.pair_,.own 1],mX 1 126 Q.2.2,tX 32 50 [some 53] p 32 none,bX 48 82 [dV r.1.duties_,dV r.1.paid_]],80⟩) (fun k Z=>?_) ?_
      ·rcases bf Z with⟨a,Z⟩|⟨a,Z⟩
       ·obtain⟨X,T,Z⟩:=jaf Z;refine re G (hO 1 (.b true) (hP a (hC 4 (yex.c (_,_) T) h0))) ?_;exact wJ G Z
       ·refine re G (hO 1 (.b false) (hP a h0)) ?_;exact wJ G Z
      rintro k Z;refine cd Z ?_ ?_<;>intro Z
      ·obtain⟨Y,U,e3,V,u1,W,Z⟩:=ob3 Z;refine ds G [(15,[]),(17,[320]),(18,[32,352])] (hD 6 U (hD 13 V (hP (jbn (l:=[320]) rfl) (hA 18 24 W h0)))) ?_;obtain⟨u4,m,u5,n,Z⟩:=ob2 Z;refine ds G [] (hK m (hK n h0)) ?_;exact jag (ibX rfl (thE (thE (ibE (wD G Z e)))))
      ·exact jae (ibN (thN (rh G (wL G Z))))
     ·exact jag (thE (thE (ibE (wD G Z e))))
    rintro⟨K,L,aa⟩ Z s hw;exact ibN (wJp Z (Wk.trans hw (Wk_J G.hL ⟨[(0,[]),(3,[]),(4,[]),(16,[]),(17,[])],[(0,0,[]),(1,1,[]),(32,32,[])],[],64⟩ (by kernel_rfl))))
   rintro⟨H,I,P⟩ Z;exact rh G (wL G Z)
  ·exact jag (thE (thE (ibE (wD G Z hb))))
 rintro⟨g,d,ab⟩ Z s1 q;refine thN (jai q ?_);refine jab (rs G (hN 4 x.pieces_ h0) ?_);refine tl Z (fun J=>⟨[(0,.ref 0 0),(3,.own 32)],[bX 0 128 [dV x.pieces_,dV x.single_,dV x.pair_,.own 1],mX 1 126 d,tX 32 50 [some 53] J 32 none],64⟩) (fun J Z=>?_) ?_
 ·refine jaa (lp G Z (fun(t,ac)=>⟨[(0,.ref 0 0),(3,.own 32),(4,dV g),(78,dV x.pieces_),(79,dV (x.pieces_.length:Int)),(80,dV t)],[bX 0 128 [dV x.pieces_,dV x.single_,dV x.pair_,.own 1],mX 1 126 d,tX 32 50 [some 53] ac 32 none],64⟩) ?_);rintro⟨t,ac⟩ E u Z;rw[yf1]at Z;refine rg G (jab (cd Z ?_ ?_))<;>intro Z
  ·refine jae (thN (jn Z (fun F=>⟨[(0,.ref 0 0),(3,.own 32),(4,dV g),(78,dV x.pieces_),(79,dV (x.pieces_.length:Int)),(80,dV t)],[bX 0 128 [dV x.pieces_,dV x.single_,dV x.pair_,.own 1],mX 1 126 d,tX 32 50 [some 53] F 32 none],64⟩) (fun F Z=>?_) ?_))
   ·refine jaa ?_;obtain⟨e4,w,Z⟩:=jaf Z;refine rs G (hD 1 w h0) ?_;obtain⟨u6,z,Z⟩:=jaf Z;refine rs G (hK z h0) ?_;refine cd Z ?_ ?_<;>intro Z
    ·obtain⟨u7,A,Z⟩:=jaf Z;refine re G (hP (jbn (l:=[272]) rfl) (hA 5 24 A h0)) ?_;exact ibN (wJ G Z)
    ·exact jae (ibN (wJ G Z))
   rintro F Z;exact rh G (wL G Z)
  ·exact jag (thE (thE (ibE (wD G Z u))))
 rintro J Z s2 B;refine thN (jai B ?_);obtain⟨r3,C,Z⟩:=jaf Z;refine rs G (hO 1 (.fz [] [] [(32,[.f])]) (hC 1 (ykh.c _ C) h0)) ?_;refine rg G ?_;cases Z;exact rt [32] []
def yp3:MS (Timetable×Fleet×(List (List Int))×Rules) ((List Duty)×Int×Int×Bool):=⟨.x .r (.x .r (.x .r .r)),fun x=>zq29 x.1 x.2.1 x.2.2.1 x.2.2.2,fun y=>.tup [dV y.1,dV y.2.1,dV y.2.2.1,dV y.2.2.2],fun _=>[],fun _ _=>[]⟩
theorem yvu:FnOK Tryz.prog tJ 19 yp3.S:=by
 refine fm tt yp3 [fo ypz,fo yvy,fo yvg,fo yj0,fo yj5,foK yvw [0] (fun _ _=>rfl) (fun _ _=>rfl)] call19 func19 rfl results19 ntmps19 ?_;rintro⟨t,f,p,r⟩ y cx G (Z:zq29 t f p r=some y);unfold zq29 at Z;refine rg G (jab (rs G (hN 2 t.Trips h0) ?_));refine cd Z ?_ ?_<;>intro Z
 ·refine rg G ?_;cases Z;exact rt [] [[.z 1]]
 ·refine jae (thN (rg G (rg G (rg G (jab ?_)))));obtain⟨u,h,Z⟩:=jaf Z;refine rs G (hN 2 t.Trips (hK h h0)) ?_;refine tl Z (fun(a,b,d,E)=>(E).elim ⟨[(12,.dat (.sc (.pointer none))),(13,.ref 16 0),(14,dV a)],[bX 16 82 [dV b,dV d]],48⟩ fun F=>⟨[(12,.ref 48 0),(13,.ref 16 0),(14,dV a)],[bX 16 82 [dV b,dV d],bX 48 128 [dV F.pieces_,dV F.single_,dV F.pair_,.own 64],mX 64 126 F.memo_],80⟩) (fun M Z=>?_) ?_
  ·refine jaa (lpP Z (fun(v,e,l,m,x)=>(x).elim ⟨[(2,dV p),(4,.ref 16 0),(5,.ref 32 0),(7,.ref 48 0),(12,.dat (.sc (.pointer none))),(13,.ref 64 0),(14,dV v),(26,dV (w64 (1*2^(min ((t.Trips.length:Int):Int).toNat (IntKind.i64).bits)))),(27,dV e)],[bX 16 30 [dV t.Network.Stops,dV t.Network.Lines,dV t.Trips],bX 32 33 [dV f.Dead,dV f.Turn],bX 48 35 [dV r.SignOn,dV r.SignOff,dV r.MaxDrive,dV r.MinBreak,dV r.PaidBreak,dV r.MaxLength],bX 64 82 [dV l,dV m]],96⟩ fun F=>⟨[(2,dV p),(4,.ref 16 0),(5,.ref 32 0),(7,.ref 48 0),(12,.ref 96 0),(13,.ref 64 0),(14,dV v),(26,dV (w64 (1*2^(min ((t.Trips.length:Int):Int).toNat (IntKind.i64).bits)))),(27,dV e)],[bX 16 30 [dV t.Network.Stops,dV t.Network.Lines,dV t.Trips],bX 32 33 [dV f.Dead,dV f.Turn],bX 48 35 [dV r.SignOn,dV r.SignOff,dV r.MaxDrive,dV r.MinBreak,dV r.PaidBreak,dV r.MaxLength],bX 64 82 [dV l,dV m],bX 96 128 [dV F.pieces_,dV F.single_,dV F.pair_,.own 112],mX 112 126 F.memo_],128⟩) (Wk_J G.hL ⟨[(2,[]),(4,[]),(5,[]),(7,[]),(12,[]),(13,[]),(14,[]),(26,[]),(27,[])],[(16,16,[]),(32,32,[]),(48,48,[]),(64,224,[])],[],96⟩ (by kernel_rfl)) ?_);rintro⟨v,e,l,m,x⟩ r0 hb Z;rw[yfz]at Z;rcases jtl Z with⟨rfl,Z⟩|⟨x1,rfl,Z⟩
   ·refine rg G (jab (cd Z ?_ ?_))<;>intro Z
    ·refine jae (thN (jn Z (fun(n,o,q,H)=>(H).elim ⟨[(2,dV p),(4,.ref 16 0),(5,.ref 32 0),(7,.ref 48 0),(12,.dat (.sc (.pointer none))),(13,.ref 64 0),(14,dV n),(26,dV (w64 (1*2^(min ((t.Trips.length:Int):Int).toNat (IntKind.i64).bits)))),(27,dV e)],[bX 16 30 [dV t.Network.Stops,dV t.Network.Lines,dV t.Trips],bX 32 33 [dV f.Dead,dV f.Turn],bX 48 35 [dV r.SignOn,dV r.SignOff,dV r.MaxDrive,dV r.MinBreak,dV r.PaidBreak,dV r.MaxLength],bX 64 82 [dV o,dV q]],96⟩ fun F=>⟨[(2,dV p),(4,.ref 16 0),(5,.ref 32 0),(7,.ref 48 0),(12,.ref 96 0),(13,.ref 64 0),(14,dV n),(26,dV (w64 (1*2^(min ((t.Trips.length:Int):Int).toNat (IntKind.i64).bits)))),(27,dV e)],[bX 16 30 [dV t.Network.Stops,dV t.Network.Lines,dV t.Trips],bX 32 33 [dV f.Dead,dV f.Turn],bX 48 35 [dV r.SignOn,dV r.SignOff,dV r.MaxDrive,dV r.MinBreak,dV r.PaidBreak,dV r.MaxLength],bX 64 82 [dV o,dV q],bX 96 128 [dV F.pieces_,dV F.single_,dV F.pair_,.own 112],mX 112 126 F.memo_],128⟩) (fun vv Z=>?_) ?_))
     ·refine jaa (rg G (jab ?_));obtain⟨r1,N,Z⟩:=jaf Z;refine rs G (hC 3 (yh1.c (_,_,_) N) h0) ?_;refine cd Z ?_ ?_<;>intro Z
      ·exact jag (thE (ibE (wJp Z (Wk_J G.hL ⟨[(2,[]),(4,[]),(5,[]),(7,[]),(12,[]),(13,[]),(14,[]),(26,[]),(27,[])],[(16,16,[]),(32,32,[]),(48,48,[]),(64,64,[])],[],96⟩ (by kernel_rfl)))))
      ·refine jae (thN ?_);obtain⟨r4,O,r5,Q,Z⟩:=ob2 Z;refine ds G [] (hC 7 (ymi.c (_,_,_) O) (hC 8 (yl7.c (_,_,_,_,_) Q) h0)) ?_;obtain⟨r6,R,Z⟩:=jaf Z;refine rs G (hC 1 (yp9 R) h0) ?_;obtain⟨r7,T,Z⟩:=jaf Z;refine rs G (hC 2 (yex.c (_,_) T) h0) ?_;refine cd Z ?_ ?_<;>intro Z
       ·refine de G [(4,[64])] h0 ?_;exact ibN (wJp Z (Wk_J G.hL ⟨[(2,[]),(4,[]),(5,[]),(7,[]),(12,[]),(13,[]),(14,[]),(26,[]),(27,[])],[(16,16,[]),(32,32,[]),(48,48,[]),(64,64,[]),(96,352,[]),(112,353,[])],[],128⟩ (by kernel_rfl)))
       ·exact jae (ibN (wJp Z (Wk_J G.hL ⟨[(2,[]),(4,[]),(5,[]),(7,[]),(12,[]),(13,[]),(14,[]),(26,[]),(27,[])],[(16,16,[]),(32,32,[]),(48,48,[]),(64,64,[])],[],96⟩ (by kernel_rfl))))
     rintro⟨n,o,q,H⟩ Z;rcases jtl Z with⟨rfl,Z⟩|⟨x3,rfl,Z⟩
     ·exact rh G (wLp Z (Wk_J G.hL ⟨[(2,[]),(4,[]),(5,[]),(7,[]),(12,[]),(13,[]),(14,[]),(26,[]),(27,[])],[(16,16,[]),(32,32,[]),(48,48,[]),(64,64,[])],[],96⟩ (by kernel_rfl)))
     ·exact rh G (wLp Z (Wk_J G.hL ⟨[(2,[]),(4,[]),(5,[]),(7,[]),(12,[]),(13,[]),(14,[]),(26,[]),(27,[])],[(16,16,[]),(32,32,[]),(48,48,[]),(64,64,[]),(96,96,[]),(112,112,[])],[],128⟩ (by kernel_rfl)))
    ·exact jag (thE (thE (ibE (wDp Z hb (Wk_J G.hL ⟨[(12,[]),(13,[]),(14,[])],[(16,64,[])],[],48⟩ (by kernel_rfl))))))
   ·refine rg G (jab (cd Z ?_ ?_))<;>intro Z
    ·refine jae (thN (jn Z (fun(I,K,L,g,i,j,k)=>⟨[(2,dV p),(4,.ref 16 0),(5,.ref 32 0),(7,.ref 48 0),(12,.ref 64 0),(13,.ref 80 0),(14,dV I),(26,dV (w64 (1*2^(min ((t.Trips.length:Int):Int).toNat (IntKind.i64).bits)))),(27,dV e)],[bX 16 30 [dV t.Network.Stops,dV t.Network.Lines,dV t.Trips],bX 32 33 [dV f.Dead,dV f.Turn],bX 48 35 [dV r.SignOn,dV r.SignOff,dV r.MaxDrive,dV r.MinBreak,dV r.PaidBreak,dV r.MaxLength],bX 64 128 [dV K,dV L,dV g,.own 96],bX 80 82 [dV i,dV j],mX 96 126 k],128⟩) (fun U Z=>?_) ?_))
     ·refine jaa (rg G (jab ?_));obtain⟨r8,V,Z⟩:=jaf Z;refine rs G (hC 3 (yh1.c (_,_,_) V) h0) ?_;refine cd Z ?_ ?_<;>intro Z
      ·exact jag (thE (ibE (wJ G Z)))
      ·refine jae (thN ?_);obtain⟨W,w,X,A,Z⟩:=ob2 Z;refine ds G [] (hC 7 (ymi.c (_,_,_) w) (hC 8 (yl7.c (_,_,_,_,_) A) h0)) ?_;obtain⟨Y,B,Z⟩:=jaf Z;refine rs G (hC 1 (yp9 B) h0) ?_;obtain⟨P,C,Z⟩:=jaf Z;refine rs G (hC 2 (yex.c (_,_) C) h0) ?_;refine cd Z ?_ ?_<;>intro Z
       ·refine de G [(4,[64])] h0 ?_;exact ibN (wJ G Z)
       ·exact jae (ibN (wJ G Z))
     rintro⟨I,K,L,g,i,j,k⟩ Z;exact rh G (wLp Z (Wk_J G.hL ⟨[(2,[]),(4,[]),(5,[]),(7,[]),(12,[]),(13,[]),(14,[]),(26,[]),(27,[])],[(16,16,[]),(32,32,[]),(48,48,[]),(64,80,[]),(96,64,[]),(112,96,[])],[],128⟩ (by kernel_rfl)))
    ·exact jag (thE (thE (ibE (wDp Z hb (Wk_J G.hL ⟨[(12,[]),(13,[]),(14,[])],[(16,64,[]),(48,96,[]),(64,112,[])],[],80⟩ (by kernel_rfl))))))
  rintro⟨a,b,d,E⟩ Z s J;refine thN (jai J ?_);rcases jtl Z with⟨rfl,Z⟩|⟨x5,rfl,Z⟩
  ·refine jab (rg G (cT (rg G ?_)));cases Z;exact rt [] [[.z 1]]
  ·refine jab (rg G (cF (jae (thN ?_))));obtain⟨aa,D,Z⟩:=jaf Z;refine ds G [(1,[64])] (hC 1 (yp6.c _ D) h0) ?_;cases Z;exact rt [] []
def yu1:MS (Timetable×Fleet×(List (List Int))×Rules) ((List Duty)×Int×Int×Bool):=⟨.x .r (.x .r (.x .r .r)),fun x=>zq6 x.1 x.2.1 x.2.2.1 x.2.2.2,fun y=>.tup [dV y.1,dV y.2.1,dV y.2.2.1,dV y.2.2.2],fun _=>[],fun _ _=>[]⟩
theorem yxj:FnOK Tryz.prog tJ 7 yu1.S:=by
 refine fm tt yu1 [fo yf6,fo yvu] call7 func7 rfl results7 ntmps7 ?_;rintro⟨t,f,e,r⟩ y cx G (Z:zq6 t f e r=some y);unfold zq6 at Z;refine rg G (jab ?_);obtain⟨b,h,Z⟩:=jaf Z;refine rs G (hC 4 (ydw.c (_,_,_,_) h) h0) ?_;refine cd Z ?_ ?_<;>intro Z
 ·refine rg G ?_;cases Z;exact rt [] [[.z 1]]
 ·refine jae (thN ?_);obtain⟨d,a,Z⟩:=jaf Z;refine rs G (hC 4 (yp3.c (_,_,_,_) a) h0) ?_;cases Z;exact rt [] []
def ya6:MS (Timetable×Int) Int:=mS yb1
theorem ybm:FnOK Tryz.prog tJ 89 ya6.S:=by
 refine fm tt ya6 [] call89 func89 rfl results89 ntmps89 ?_;rintro⟨t,id⟩ y cx G (Z:yb1 t id=some y);unfold yb1 at Z;refine rg G (jab (rg G (tF Z (fun _=>⟨[],[],32⟩) (fun a c Z=>?_) ?_)))
 ·refine jaa (lp G Z (fun v=>⟨[(1,dV id),(2,.ref 16 0),(5,dV v)],[bX 16 30 [dV t.Network.Stops,dV t.Network.Lines,dV t.Trips]],48⟩) ?_);rintro v b hb Z;rw[yc5]at Z;refine jab (rs G (hN 3 t.Trips h0) ?_);refine cd Z ?_ ?_<;>intro Z
  ·refine jae (thN (jab (jaa ?_)));obtain⟨e,h,Z⟩:=jaf Z;refine rs G (hD 3 h h0) ?_;refine cd Z ?_ ?_<;>intro Z
   ·refine rg G ?_;have Z:=eL Z hb c;cases Z;exact rt [] []
   ·exact jae (ibN (thN (rh G (wL G Z))))
  ·exact jag (thE (thE (ibE (wE G Z hb))))
 rintro⟨⟩ Z s d;refine thN (jai d ?_);refine rg G ?_;cases Z;exact rt [] []
def ybx:MS ((List Int)×Int) Bool:=mS yd2
theorem ygz:FnOK Tryz.prog tJ 53 ybx.S:=by
 refine fm tt ybx [] call53 func53 rfl results53 ntmps53 ?_;rintro⟨l,n⟩ y cx G (Z:yd2 l n=some y);unfold yd2 at Z;refine rg G (jab (rg G (tF Z (fun _=>⟨[],[],32⟩) (fun a c Z=>?_) ?_)))
 ·refine jaa (lp G Z (fun v=>⟨[(0,dV l),(1,dV n),(5,dV v)],[],32⟩) ?_);rintro v b hb Z;rw[ydf]at Z;refine jab (rs G (hN 2 l h0) ?_);refine cd Z ?_ ?_<;>intro Z
  ·refine jae (thN (jab (jaa ?_)));obtain⟨e,h,Z⟩:=jaf Z;refine rs G (hD 2 h h0) ?_;refine cd Z ?_ ?_<;>intro Z
   ·refine rg G ?_;have Z:=eL Z hb c;cases Z;exact rt [] []
   ·exact jae (ibN (thN (rh G (wL G Z))))
  ·exact jag (thE (thE (ibE (wE G Z hb))))
 rintro⟨⟩ Z s d;refine thN (jai d ?_);refine rg G ?_;cases Z;exact rt [] []
def ypf:MS (Timetable×Fleet×(List (List Int))) Bool:=⟨.x .r (.x .r .r),fun x=>zq63 x.1 x.2.1 x.2.2,fun y=>dV y,fun _=>[],fun _ _=>[]⟩
theorem yu6:FnOK Tryz.prog tJ 86 ypf.S:=by
 refine fm tt ypf [fo ybm,fo ygz,fo yjj] call86 func86 rfl results86 ntmps86 ?_;rintro⟨t,f,p⟩ y cx G (Z:zq63 t f p=some y);unfold zq63 at Z;refine rg G (rg G (jab (rg G (tF Z (fun J=>⟨[(3,.ref 16 0),(7,.own 32)],[bX 16 30 [dV t.Network.Stops,dV t.Network.Lines,dV t.Trips],aX 32 3 J],64⟩) (fun W hr Z=>?_) ?_))))
 ·refine jaa (lp G Z (fun(v,at_)=>⟨[(2,dV p),(3,.ref 16 0),(4,.ref 32 0),(7,.own 48),(8,dV v)],[bX 16 30 [dV t.Network.Stops,dV t.Network.Lines,dV t.Trips],bX 32 33 [dV f.Dead,dV f.Turn],aX 48 3 at_],80⟩) ?_);rintro⟨v,at_⟩ K hb Z;rw[yao]at Z;refine jab (rs G (hN 2 p h0) ?_);refine cd Z ?_ ?_<;>intro Z
  ·refine jae (thN (jab (jaa (jab ?_))));obtain⟨k,l,Z⟩:=jaf Z;refine jn Z (fun m=>⟨[(2,dV p),(3,.ref 16 0),(4,.ref 32 0),(7,.own 48),(8,dV v),(43,dV m)],[bX 16 30 [dV t.Network.Stops,dV t.Network.Lines,dV t.Trips],bX 32 33 [dV f.Dead,dV f.Turn],aX 48 3 at_],80⟩) (fun m Z=>?_) ?_
   ·rcases bf Z with⟨d,Z⟩|⟨d,Z⟩
    ·refine de G [] (hD 2 l (hN 4 k (hO 6 (.b true) (hP d h0)))) ?_;exact wJ G Z
    ·rcases bf Z with⟨g,Z⟩|⟨g,Z⟩
     ·obtain⟨X,L,Y,M,e8,N,Z⟩:=ob3 Z;obtain⟨e9,O,Z⟩:=jaf Z;refine de G [] (hD 2 l (hN 4 k (hO 6 (.b false) (hP d (hO 9 (.b true) (hP g (hD 13 L (hD 15 M (hD 19 N (hD 21 O h0)))))))))) ?_;exact wJ G Z
     ·refine de G [] (hD 2 l (hN 4 k (hO 6 (.b false) (hP d (hO 9 (.b false) (hP g h0)))))) ?_;exact wJ G Z
   rintro m Z;refine cd Z ?_ ?_<;>intro Z
   ·refine rg G ?_;have Z:=eL Z hb hr;cases Z;exact rt [] []
   ·refine jae (thN (rg G (tF Z (fun P=>⟨[(2,dV p),(3,.ref 16 0),(4,.ref 32 0),(7,.own 48),(8,dV v)],[bX 16 30 [dV t.Network.Stops,dV t.Network.Lines,dV t.Trips],bX 32 33 [dV f.Dead,dV f.Turn],aX 48 3 P],80⟩) (fun v4 n Z=>?_) ?_)))
    ·refine jaa (lp G Z (fun(o,F)=>⟨[(2,dV p),(3,.ref 16 0),(4,.ref 32 0),(7,.own 48),(8,dV v),(9,dV o)],[bX 16 30 [dV t.Network.Stops,dV t.Network.Lines,dV t.Trips],bX 32 33 [dV f.Dead,dV f.Turn],aX 48 3 F],80⟩) ?_);rintro⟨o,F⟩ K j Z;rw[yap]at Z;refine jab ?_;obtain⟨q,r,Z⟩:=jaf Z;refine rs G (hD 3 r (hN 5 q h0)) ?_;refine cd Z ?_ ?_<;>intro Z
     ·refine jae (thN (jab (jaa ?_)));obtain⟨Q,w,R,x,T,z,Z⟩:=ob3 Z;refine ds G [] (hD 3 w (hD 6 x (hC 8 (ya6.c (_,_) z) h0))) ?_;refine jab (jn Z (fun A=>⟨[(2,dV p),(3,.ref 16 0),(4,.ref 32 0),(7,.own 48),(8,dV v),(9,dV o),(10,dV T),(89,dV A)],[bX 16 30 [dV t.Network.Stops,dV t.Network.Lines,dV t.Trips],bX 32 33 [dV f.Dead,dV f.Turn],aX 48 3 F],80⟩) (fun A Z=>?_) ?_)
      ·rcases bf Z with⟨a,Z⟩|⟨a,Z⟩
       ·refine de G [] (hO 2 (.b true) (hP a h0)) ?_;exact wJ G Z
       ·obtain⟨r6,h,Z⟩:=jaf Z;rcases bf Z with⟨e,Z⟩|⟨e,Z⟩
        ·refine de G [] (hO 2 (.b false) (hP a (hC 5 (ybx.c (_,_) h) (hO 7 (.b true) (hP e h0))))) ?_;exact wJ G Z
        ·rcases bf Z with⟨i,Z⟩|⟨i,Z⟩
         ·obtain⟨U,B,V,C,r7,D,Z⟩:=ob3 Z;obtain⟨r8,E,Z⟩:=jaf Z;refine de G [] (hO 2 (.b false) (hP a (hC 5 (ybx.c (_,_) h) (hO 7 (.b false) (hP e (hO 10 (.b true) (hP i (hD 16 B (hD 20 C (hC 22 (ya6.c (_,_) D) (hC 24 (yly E) h0))))))))))) ?_;exact wJ G Z
         ·refine de G [] (hO 2 (.b false) (hP a (hC 5 (ybx.c (_,_) h) (hO 7 (.b false) (hP e (hO 10 (.b false) (hP i h0))))))) ?_;exact wJ G Z
      rintro A Z;refine cd Z ?_ ?_<;>intro Z
      ·refine rg G ?_;have Z:=eL Z j n;have Z:=eL Z hb hr;cases Z;exact rt [] []
      ·refine jae (thN ?_);obtain⟨u,H,Z⟩:=jaf Z;refine re G (hA 3 8 H h0) ?_;exact ibN (thN (rh G (wL G Z)))
     ·exact jag (thE (thE (ibE (wE G Z j))))
    rintro P Z s hw;refine ibN (thN (jai hw ?_));exact rh G (wL G Z)
  ·exact jag (thE (thE (ibE (wE G Z hb))))
 rintro J Z s1 I;refine thN (jai I ?_);refine rs G (hN 1 J (hN 4 t.Trips h0)) ?_;cases Z;exact rt [] []
def ylu:MS (Timetable×Fleet×(List (List Int))) Bool:=⟨.x .r (.x .r .r),fun x=>zq71 x.1 x.2.1 x.2.2,fun y=>dV y,fun _=>[],fun _ _=>[]⟩
theorem yuz:FnOK Tryz.prog tJ 45 ylu.S:=by
 refine fm tt ylu [fo yph,fo yu6] call45 func45 rfl results45 ntmps45 ?_;rintro⟨t,f,e⟩ y cx G (Z:zq71 t f e=some y);unfold zq71 at Z;refine rg G ?_;obtain⟨r,h,Z⟩:=jaf Z;refine jn Z (fun v=>⟨[(6,dV v)],[],32⟩) (fun v Z=>?_) ?_
 ·rcases bf Z with⟨hb,Z⟩|⟨hb,Z⟩
  ·obtain⟨d,a,Z⟩:=jaf Z;refine re G (hC 2 (yeu.c (_,_) h) (hO 3 (.b true) (hP hb (hC 7 (ypf.c (_,_,_) a) h0)))) ?_;exact wJ G Z
  ·refine re G (hC 2 (yeu.c (_,_) h) (hO 3 (.b false) (hP hb h0))) ?_;exact wJ G Z
 rintro v Z;cases Z;exact rt [] []
def yag:MS Int Bool:=mR zq76
theorem yuw:FnOK Tryz.prog tJ 87 yag.S:=by
 refine fm tt yag [fo yat] call87 func87 rfl results87 ntmps87 ?_;rintro x y cx G (Z:zq76 x=some y);unfold zq76 at Z;refine rg G ?_;obtain⟨r,h,Z⟩:=jaf Z;refine rs G (hC 1 (yac h) h0) ?_;cases Z;exact rt [] []
def yo4:MS Rules Bool:=mR zq80
theorem yus:FnOK Tryz.prog tJ 46 yo4.S:=by
 refine fm tt yo4 [fo yuw] call46 func46 rfl results46 ntmps46 ?_;rintro r y cx G (Z:zq80 r=some y);unfold zq80 at Z;refine rg G ?_;obtain⟨m,h,Z⟩:=jaf Z;refine jn Z (fun v=>⟨[(2,dV v)],[],32⟩) (fun v Z=>?_) ?_
 ·rcases bf Z with⟨hb,Z⟩|⟨hb,Z⟩
  ·obtain⟨n,g,Z⟩:=jaf Z;rcases bf Z with⟨a,Z⟩|⟨a,Z⟩
   ·obtain⟨o,i,Z⟩:=jaf Z;rcases bf Z with⟨d,Z⟩|⟨d,Z⟩
    ·obtain⟨q,j,Z⟩:=jaf Z;rcases bf Z with⟨e,Z⟩|⟨e,Z⟩
     ·obtain⟨s,k,Z⟩:=jaf Z;rcases bf Z with⟨f,Z⟩|⟨f,Z⟩
      ·obtain⟨t,l,Z⟩:=jaf Z;refine re G (hC 2 (yag.c _ h) (hO 3 (.b true) (hP hb (hC 6 (yag.c _ g) (hO 8 (.b true) (hP a (hC 11 (yag.c _ i) (hO 13 (.b true) (hP d (hC 16 (yag.c _ j) (hO 18 (.b true) (hP e (hC 21 (yag.c _ k) (hO 23 (.b true) (hP f (hC 26 (yag.c _ l) h0)))))))))))))))) ?_;exact wJ G Z
      ·refine re G (hC 2 (yag.c _ h) (hO 3 (.b true) (hP hb (hC 6 (yag.c _ g) (hO 8 (.b true) (hP a (hC 11 (yag.c _ i) (hO 13 (.b true) (hP d (hC 16 (yag.c _ j) (hO 18 (.b true) (hP e (hC 21 (yag.c _ k) (hO 23 (.b false) (hP f h0))))))))))))))) ?_;exact wJ G Z
     ·refine re G (hC 2 (yag.c _ h) (hO 3 (.b true) (hP hb (hC 6 (yag.c _ g) (hO 8 (.b true) (hP a (hC 11 (yag.c _ i) (hO 13 (.b true) (hP d (hC 16 (yag.c _ j) (hO 18 (.b false) (hP e h0)))))))))))) ?_;exact wJ G Z
    ·refine re G (hC 2 (yag.c _ h) (hO 3 (.b true) (hP hb (hC 6 (yag.c _ g) (hO 8 (.b true) (hP a (hC 11 (yag.c _ i) (hO 13 (.b false) (hP d h0))))))))) ?_;exact wJ G Z
   ·refine re G (hC 2 (yag.c _ h) (hO 3 (.b true) (hP hb (hC 6 (yag.c _ g) (hO 8 (.b false) (hP a h0)))))) ?_;exact wJ G Z
  ·refine re G (hC 2 (yag.c _ h) (hO 3 (.b false) (hP hb h0))) ?_;exact wJ G Z
 rintro v Z;cases Z;exact rt [] []
def ylv:MS (Timetable×Fleet×(List (List Int))×Rules) Bool:=⟨.x .r (.x .r (.x .r .r)),fun x=>zq70 x.1 x.2.1 x.2.2.1 x.2.2.2,fun y=>dV y,fun _=>[],fun _ _=>[]⟩
theorem yu0:FnOK Tryz.prog tJ 20 ylv.S:=by
 refine fm tt ylv [fo yuz,fo yus] call20 func20 rfl results20 ntmps20 ?_;rintro⟨t,f,g,r⟩ y cx G (Z:zq70 t f g r=some y);unfold zq70 at Z;refine rg G ?_;obtain⟨d,h,Z⟩:=jaf Z;refine jn Z (fun v=>⟨[(8,dV v)],[],32⟩) (fun v Z=>?_) ?_
 ·rcases bf Z with⟨hb,Z⟩|⟨hb,Z⟩
  ·obtain⟨e,a,Z⟩:=jaf Z;refine re G (hC 3 (ylu.c (_,_,_) h) (hO 4 (.b true) (hP hb (hC 6 (yo4.c _ a) h0)))) ?_;exact wJ G Z
  ·refine re G (hC 3 (ylu.c (_,_,_) h) (hO 4 (.b false) (hP hb h0))) ?_;exact wJ G Z
 rintro v Z;cases Z;exact rt [] []
def yo2:MS (Timetable×(List (List Int))×Int) Bool:=⟨.x .r (.x .r .r),fun x=>zq84 x.1 x.2.1 x.2.2,fun y=>dV y,fun _=>[],fun _ _=>[]⟩
theorem yuq:FnOK Tryz.prog tJ 47 yo2.S:=by
 refine fm tt yo2 [fo yat,fo ybm] call47 func47 rfl results47 ntmps47 ?_;rintro⟨t,p,cut⟩ y cx G (Z:zq84 t p cut=some y);unfold zq84 at Z;refine rg G (jab ?_);obtain⟨u,h,r,b,Z⟩:=ob2 Z;refine rs G (hN 3 t.Trips (hK h (hC 7 (yac b) h0))) ?_;refine cd Z ?_ ?_<;>intro Z
 ·refine rg G ?_;cases Z;exact rt [] []
 ·refine jae (thN (jab (rg G (tF Z (fun _=>⟨[],[],32⟩) (fun j q Z=>?_) ?_))))
  ·refine jaa (lp G Z (fun v=>⟨[(1,dV p),(2,dV cut),(3,.ref 16 0),(7,dV v)],[bX 16 30 [dV t.Network.Stops,dV t.Network.Lines,dV t.Trips]],48⟩) ?_);rintro v k hb Z;rw[yfc]at Z;refine jab (rs G (hN 2 p h0) ?_);refine cd Z ?_ ?_<;>intro Z
   ·refine jae (thN (jab (jaa ?_)));obtain⟨l,d,e,f,m,g,Z⟩:=ob3 Z;obtain⟨n,i,Z⟩:=jaf Z;refine ds G [] (hD 3 d (hD 7 f (hN 9 e (hD 11 g (hC 13 (ya6.c (_,_) i) h0))))) ?_;obtain⟨o,a,Z⟩:=jaf Z;refine rs G (hK a h0) ?_;refine cd Z ?_ ?_<;>intro Z
    ·refine rg G ?_;have Z:=eL Z hb q;cases Z;exact rt [] []
    ·exact jae (ibN (thN (rh G (wL G Z))))
   ·exact jag (thE (thE (ibE (wE G Z hb))))
  rintro⟨⟩ Z s w;refine thN (jai w ?_);refine rg G ?_;cases Z;exact rt [] []
def yo1:MS (Timetable×(List (List Int))×Int) ((List (List Int))):=⟨.x .r (.x .r .r),fun x=>zq87 x.1 x.2.1 x.2.2,fun _=>.own 0,fun y=>[arO 53 y],fun _ _=>[]⟩
theorem yun:FnOK Tryz.prog tJ 90 yo1.S:=by
 refine fm tt yo1 [fo ybm] call90 func90 rfl results90 ntmps90 ?_;rintro⟨t,p,cut⟩ y cx G (Z:zq87 t p cut=some y);unfold zq87 at Z;refine rg G (rg G (jab (rg G (tl Z (fun f=>⟨[(7,.own 16)],[aX 16 53 f],48⟩) (fun f Z=>?_) ?_))))
 ·refine jaa (lp G Z (fun(v,k)=>⟨[(1,dV p),(2,dV cut),(3,.ref 16 0),(7,.own 32),(8,dV v)],[bX 16 30 [dV t.Network.Stops,dV t.Network.Lines,dV t.Trips],aX 32 53 k],64⟩) ?_);rintro⟨v,k⟩ D hb Z;rw[yjd]at Z;refine jab (rs G (hN 2 p h0) ?_);refine cd Z ?_ ?_<;>intro Z
  ·refine jae (thN (jab (jaa (rg G (rg G (tl Z (fun g=>⟨[(1,dV p),(2,dV cut),(3,.ref 16 0),(7,.own 32),(8,dV v)],[bX 16 30 [dV t.Network.Stops,dV t.Network.Lines,dV t.Trips],aX 32 53 g],64⟩) (fun g Z=>?_) ?_))))))
   ·refine jaa (lp G Z (fun(d,i,j)=>⟨[(1,dV p),(2,dV cut),(3,.ref 16 0),(7,.own 32),(8,dV v),(9,.own 48),(10,dV d)],[bX 16 30 [dV t.Network.Stops,dV t.Network.Lines,dV t.Trips],aX 32 53 i,aX 48 3 j],80⟩) ?_);rintro⟨d,i,j⟩ D l Z;rw[yfb]at Z;refine jab ?_;obtain⟨e,h,Z⟩:=jaf Z;refine rs G (hD 3 h (hN 5 e h0)) ?_;refine cd Z ?_ ?_<;>intro Z
    ·refine jae (thN (jn Z (fun(z,A)=>⟨[(1,dV p),(2,dV cut),(3,.ref 16 0),(7,.own 32),(8,dV v),(9,.own 48),(10,dV d)],[bX 16 30 [dV t.Network.Stops,dV t.Network.Lines,dV t.Trips],aX 32 53 z,aX 48 3 A],80⟩) (fun J Z=>?_) ?_))
     ·refine jaa ?_;obtain⟨L,E,H,I,u,K,Z⟩:=ob3 Z;refine rs G (hD 3 E (hD 6 I (hA 9 8 K h0))) ?_;obtain⟨B,C,Z⟩:=jaf Z;refine jn Z (fun m=>⟨[(1,dV p),(2,dV cut),(3,.ref 16 0),(7,.own 32),(8,dV v),(9,.own 48),(10,dV d),(61,dV m)],[bX 16 30 [dV t.Network.Stops,dV t.Network.Lines,dV t.Trips],aX 32 53 i,aX 48 3 (j++([H]:List Int))],80⟩) (fun m Z=>?_) ?_
      ·rcases bf Z with⟨a,Z⟩|⟨a,Z⟩
       ·refine de G [] (hD 3 C (hN 5 B (hO 8 (.b true) (hP a h0)))) ?_;exact wJ G Z
       ·obtain⟨M,n,N,o,O,q,Z⟩:=ob3 Z;obtain⟨Q,r,Z⟩:=jaf Z;refine de G [] (hD 3 C (hN 5 B (hO 8 (.b false) (hP a (hD 13 n (hD 16 o (hC 18 (ya6.c (_,_) q) (hK r h0)))))))) ?_;exact wJ G Z
      rintro m Z;refine cd Z ?_ ?_<;>intro Z
      ·obtain⟨R,w,Z⟩:=jaf Z;refine rs G (hO 2 (.fz [48] [] []) (hA 3 24 w h0)) ?_;exact rh G (ibN (wJ G Z))
      ·exact jae (ibN (wJ G Z))
     rintro⟨z,A⟩ Z;exact rh G (wL G Z)
    ·exact jag (thE (thE (ibE (wD G Z l))))
   rintro g Z s F;refine ibN (thN (jai F ?_));exact rh G (wL G Z)
  ·exact jag (thE (thE (ibE (wD G Z hb))))
 rintro f Z T x;refine thN (jai x ?_);refine rg G ?_;cases Z;exact rt [16] []
def ypc:MS ((List (List Int))×Int) (Int×Int):=⟨.x .r .r,fun x=>zq68 x.1 x.2,fun y=>.tup [dV y.1,dV y.2],fun _=>[],fun _ _=>[]⟩
theorem yu3:FnOK Tryz.prog tJ 136 ypc.S:=by
 refine fm tt ypc [] call136 func136 rfl results136 ntmps136 ?_;rintro⟨o,id⟩ y cx G (Z:zq68 o id=some y);unfold zq68 at Z;refine rg G (jab (rg G (tF Z (fun _=>⟨[],[],32⟩) (fun j p Z=>?_) ?_)))
 ·refine jaa (lp G Z (fun v=>⟨[(0,dV o),(1,dV id),(6,dV v)],[],32⟩) ?_);rintro v f hb Z;rw[yfk]at Z;refine jab (rs G (hN 2 o h0) ?_);refine cd Z ?_ ?_<;>intro Z
  ·refine jae (thN (jab (jaa (rg G (tF Z (fun _=>⟨[(0,dV o),(1,dV id),(6,dV v)],[],32⟩) (fun k b Z=>?_) ?_)))))
   ·refine jaa (lp G Z (fun d=>⟨[(0,dV o),(1,dV id),(6,dV v),(7,dV d)],[],32⟩) ?_);rintro d f a Z;rw[yfl]at Z;refine jab ?_;obtain⟨e,h,Z⟩:=jaf Z;refine rs G (hD 3 h (hN 5 e h0)) ?_;refine cd Z ?_ ?_<;>intro Z
    ·refine jae (thN (jab (jaa ?_)));obtain⟨l,g,m,i,Z⟩:=ob2 Z;refine rs G (hD 2 g (hD 5 i h0)) ?_;refine cd Z ?_ ?_<;>intro Z
     ·refine rg G ?_;have Z:=eL Z a b;have Z:=eL Z hb p;cases Z;exact rt [] []
     ·exact jae (ibN (thN (rh G (wL G Z))))
    ·exact jag (thE (thE (ibE (wE G Z a))))
   rintro⟨⟩ Z s q;refine ibN (thN (jai q ?_));exact rh G (wL G Z)
  ·exact jag (thE (thE (ibE (wE G Z hb))))
 rintro⟨⟩ Z n c;refine thN (jai c ?_);refine rg G ?_;cases Z;exact rt [] []
def ykx:MS ((List Int)×(List Int)) Bool:=mS ynz
theorem ys2:FnOK Tryz.prog tJ 137 ykx.S:=by
 refine fm tt ykx [] call137 func137 rfl results137 ntmps137 ?_;rintro⟨a,b⟩ y cx G (Z:ynz a b=some y);unfold ynz at Z;refine rg G (jab (rs G (hN 1 a (hN 3 b h0)) ?_));refine cd Z ?_ ?_<;>intro Z
 ·refine rg G ?_;cases Z;exact rt [] []
 ·refine jae (thN (jab (rg G (tF Z (fun _=>⟨[],[],32⟩) (fun e i Z=>?_) ?_))))
  ·refine jaa (lp G Z (fun v=>⟨[(0,dV a),(1,dV b),(5,dV v)],[],32⟩) ?_);rintro v f hb Z;rw[yb3]at Z;refine jab (rs G (hN 2 a h0) ?_);refine cd Z ?_ ?_<;>intro Z
   ·refine jae (thN (jab (jaa ?_)));obtain⟨g,c,h,d,Z⟩:=ob2 Z;refine ds G [] (hD 2 c (hD 6 d h0)) ?_;refine cd Z ?_ ?_<;>intro Z
    ·refine rg G ?_;have Z:=eL Z hb i;cases Z;exact rt [] []
    ·exact jae (ibN (thN (rh G (wL G Z))))
   ·exact jag (thE (thE (ibE (wE G Z hb))))
  rintro⟨⟩ Z s j;refine thN (jai j ?_);refine rg G ?_;cases Z;exact rt [] []
def yo6:MS ((List (List Int))×(List Int)) Bool:=mS zq78
theorem yuu:FnOK Tryz.prog tJ 107 yo6.S:=by
 refine fm tt yo6 [fo yu3,fo ys2] call107 func107 rfl results107 ntmps107 ?_;rintro⟨n,m⟩ y cx G (Z:zq78 n m=some y);unfold zq78 at Z;refine rg G (jab (rs G (hN 1 m h0) ?_));refine cd Z ?_ ?_<;>intro Z
 ·refine rg G ?_;cases Z;exact rt [] []
 ·refine jae (thN ?_);obtain⟨e,h,r,a,Z⟩:=ob2 Z;refine rs G (hD 2 h (hC 4 (ypc.c (_,_) a) h0)) ?_;refine jab (jn Z (fun v=>⟨[(0,dV n),(1,dV m),(5,dV r.1),(6,dV r.2),(31,dV v)],[],32⟩) (fun v Z=>?_) ?_)
  ·rcases bf Z with⟨hb,Z⟩|⟨hb,Z⟩
   ·refine re G (hO 2 (.b true) (hP hb h0)) ?_;exact wJ G Z
   ·obtain⟨d,f,Z⟩:=jaf Z;refine re G (hO 2 (.b false) (hP hb (hN 5 m (hD 9 f (hN 11 d h0))))) ?_;exact wJ G Z
  rintro v Z;refine cd Z ?_ ?_<;>intro Z
  ·refine rg G ?_;cases Z;exact rt [] []
  ·refine jae (thN ?_);obtain⟨k,g,u,i,l,j,Z⟩:=ob3 Z;refine rs G (hD 2 g (hN 7 m (hU 9 i (hC 11 (ykx.c (_,_) j) h0)))) ?_;cases Z;exact rt [] []
def yo5:MS ((List (List Int))×Duty) Bool:=mS zq79
theorem yut:FnOK Tryz.prog tJ 110 yo5.S:=by
 refine fm tt yo5 [fo yuu,fo ygz,fo yat] call110 func110 rfl results110 ntmps110 ?_;rintro⟨p,d⟩ y cx G (Z:zq79 p d=some y);unfold zq79 at Z;refine rg G (rg G (jab (rg G (tF Z (fun _=>⟨[(3,.ref 16 0)],[bX 16 50 [dV d.Pieces]],48⟩) (fun C F Z=>?_) ?_))))
 ·refine jaa (lp G Z (fun(v,k)=>⟨[(0,dV p),(3,.ref 16 0),(5,.own 32),(6,dV v)],[bX 16 50 [dV d.Pieces],aX 32 3 k],64⟩) ?_);rintro⟨v,k⟩ l hb Z;rw[yfh]at Z;refine jab (rs G (hN 3 d.Pieces h0) ?_);refine cd Z ?_ ?_<;>intro Z
  ·refine jae (thN (jab (jaa (jab ?_))));obtain⟨e,h,r,m,Z⟩:=ob2 Z;refine rs G (hD 4 h (hC 6 (yo6.c (_,_) m) h0)) ?_;refine cd Z ?_ ?_<;>intro Z
   ·refine rg G ?_;have Z:=eL Z hb F;cases Z;exact rt [] []
   ·refine jae (thN (rg G (tF Z (fun g=>⟨[(0,dV p),(3,.ref 16 0),(5,.own 32),(6,dV v)],[bX 16 50 [dV d.Pieces],aX 32 3 g],64⟩) (fun D b Z=>?_) ?_)))
    ·refine jaa (lp G Z (fun(i,j)=>⟨[(0,dV p),(3,.ref 16 0),(5,.own 32),(6,dV v),(7,dV i)],[bX 16 50 [dV d.Pieces],aX 32 3 j],64⟩) ?_);rintro⟨i,j⟩ l a Z;rw[yfi]at Z;refine jab ?_;obtain⟨n,o,Z⟩:=jaf Z;refine rs G (hD 4 o (hN 6 n h0)) ?_;refine cd Z ?_ ?_<;>intro Z
     ·refine jae (thN (jab (jaa (jab ?_))));obtain⟨E,q,H,t,I,w,Z⟩:=ob3 Z;refine rs G (hD 4 q (hD 7 t (hC 9 (ybx.c (_,_) w) h0))) ?_;refine cd Z ?_ ?_<;>intro Z
      ·refine rg G ?_;have Z:=eL Z a b;have Z:=eL Z hb F;cases Z;exact rt [] []
      ·refine jae (thN ?_);obtain⟨K,x,L,z,u,A,Z⟩:=ob3 Z;refine re G (hD 4 x (hD 7 z (hA 10 8 A h0))) ?_;exact ibN (thN (rh G (wL G Z)))
     ·exact jag (thE (thE (ibE (wE G Z a))))
    rintro g Z s J;refine ibN (thN (jai J ?_));exact rh G (wL G Z)
  ·exact jag (thE (thE (ibE (wE G Z hb))))
 rintro⟨⟩ Z M f;refine thN (jai f ?_);obtain⟨N,B,Z⟩:=jaf Z;refine rs G (hN 2 d.Pieces (hC 3 (yac B) h0)) ?_;cases Z;exact rt [] []
def yet:MS (Timetable×(List Int)) Int:=mS zq73
theorem yfj:FnOK Tryz.prog tJ 111 yet.S:=by
 refine fm tt yet [fo ybm,fo ygh] call111 func111 rfl results111 ntmps111 ?_;rintro⟨t,h⟩ y cx G (Z:zq73 t h=some y);unfold zq73 at Z;refine rg G ?_;obtain⟨e,a,f,b,g,d,Z⟩:=ob3 Z;refine ds G [] (hN 4 h (hD 6 a (hC 8 (ya6.c (_,_) b) (hC 9 (ybs.c (_,_) d) h0)))) ?_;cases Z;exact rt [] []
def yes:MS (Timetable×(List Int)) Int:=mS zq81
theorem yfg:FnOK Tryz.prog tJ 108 yes.S:=by
 refine fm tt yes [fo ybm] call108 func108 rfl results108 ntmps108 ?_;rintro⟨t,h⟩ y cx G (Z:zq81 t h=some y);unfold zq81 at Z;refine rg G ?_;obtain⟨e,a,f,b,g,d,Z⟩:=ob3 Z;refine ds G [] (hD 4 a (hC 6 (ya6.c (_,_) b) (hD 7 d h0))) ?_;cases Z;exact rt [] []
def ylt:MS (Timetable×Fleet×(List Int)×(List Int)) Int:=⟨.x .r (.x .r (.x .r .r)),fun x=>zq74 x.1 x.2.1 x.2.2.1 x.2.2.2,fun y=>dV y,fun _=>[],fun _ _=>[]⟩
theorem yo9:FnOK Tryz.prog tJ 112 ylt.S:=by
 refine fm tt ylt [fo yfg,fo yfj,fo ybm,fo yfn] call112 func112 rfl results112 ntmps112 ?_;rintro⟨t,f,a,b⟩ y cx G (Z:zq74 t f a b=some y);unfold zq74 at Z;refine rg G ?_;obtain⟨l,i,m,j,n,k,Z⟩:=ob3 Z;obtain⟨o,d,q,e,r,g,Z⟩:=ob3 Z;obtain⟨s,h,Z⟩:=jaf Z;refine ds G [] (hC 2 (yes.c (_,_) i) (hC 5 (yet.c (_,_) j) (hN 12 a (hD 14 k (hC 16 (ya6.c (_,_) d) (hD 19 e (hC 21 (ya6.c (_,_) g) (hC 22 (yl0 h) h0)))))))) ?_;cases Z;exact rt [] []
def yo8:MS (Timetable×Rules×Duty) Int:=⟨.x .r (.x .r .r),fun x=>zq75 x.1 x.2.1 x.2.2,fun y=>dV y,fun _=>[],fun _ _=>[]⟩
theorem yux:FnOK Tryz.prog tJ 113 yo8.S:=by
 refine fm tt yo8 [fo yfj,fo yfg] call113 func113 rfl results113 ntmps113 ?_;rintro⟨t,r,d⟩ y cx G (Z:zq75 t r d=some y);unfold zq75 at Z;refine rg G ?_;obtain⟨g,a,h,b,i,e,Z⟩:=ob3 Z;obtain⟨j,f,Z⟩:=jaf Z;refine ds G [] (hN 7 d.Pieces (hD 9 a (hC 11 (yet.c (_,_) b) (hD 16 e (hC 18 (yes.c (_,_) f) h0))))) ?_;cases Z;exact rt [] []
def ypa:MS (Timetable×Fleet×(List (List Int))×Rules×Duty) Int:=⟨.x .r (.x .r (.x .r (.x .r .r))),fun x=>zq72 x.1 x.2.1 x.2.2.1 x.2.2.2.1 x.2.2.2.2,fun y=>dV y,fun _=>[],fun _ _=>[]⟩
theorem yuy:FnOK Tryz.prog tJ 65 ypa.S:=by
 refine fm tt ypa [fo yut,fo yfj,fo yfg,fo yo9,fo yux] call65 func65 rfl results65 ntmps65 ?_;rintro⟨t,f,p,r,d⟩ y cx G (Z:zq72 t f p r d=some y);unfold zq72 at Z;refine rg G (jab ?_);obtain⟨x,h,Z⟩:=jaf Z;refine rs G (hC 2 (yo5.c (_,_) h) h0) ?_;refine cd Z ?_ ?_<;>intro Z
 ·refine rg G ?_;cases Z;exact rt [] []
 ·refine jae (thN (jab (rg G (tF Z (fun _=>⟨[(5,.ref 16 0),(6,.ref 32 0),(8,.ref 48 0),(9,.ref 64 0)],[bX 16 30 [dV t.Network.Stops,dV t.Network.Lines,dV t.Trips],bX 32 33 [dV f.Dead,dV f.Turn],bX 48 35 [dV r.SignOn,dV r.SignOff,dV r.MaxDrive,dV r.MinBreak,dV r.PaidBreak,dV r.MaxLength],bX 64 50 [dV d.Pieces]],96⟩) (fun z F Z=>?_) ?_))))
  ·refine jaa (lp G Z (fun v=>⟨[(5,.ref 16 0),(6,.ref 32 0),(8,.ref 48 0),(9,.ref 64 0),(11,dV v)],[bX 16 30 [dV t.Network.Stops,dV t.Network.Lines,dV t.Trips],bX 32 33 [dV f.Dead,dV f.Turn],bX 48 35 [dV r.SignOn,dV r.SignOff,dV r.MaxDrive,dV r.MinBreak,dV r.PaidBreak,dV r.MaxLength],bX 64 50 [dV d.Pieces]],96⟩) ?_);rintro v m hb Z;rw[yce]at Z;refine jab (rs G (hN 3 d.Pieces h0) ?_);refine cd Z ?_ ?_<;>intro Z
   ·refine jae (thN (jab (jaa ?_)));obtain⟨A,n,B,o,C,q,Z⟩:=ob3 Z;obtain⟨D,u,Z⟩:=jaf Z;refine ds G [] (hD 4 n (hC 6 (yet.c (_,_) o) (hD 11 q (hC 13 (yes.c (_,_) u) h0)))) ?_;refine cd Z ?_ ?_<;>intro Z
    ·refine rg G ?_;have Z:=eL Z hb F;cases Z;exact rt [] []
    ·exact jae (ibN (thN (rh G (wL G Z))))
   ·exact jag (thE (thE (ibE (wE G Z hb))))
  rintro⟨⟩ Z s J;refine thN (jai J ?_);refine jab (rg G (tF Z (fun _=>⟨[(5,.ref 16 0),(8,.ref 32 0),(9,.ref 48 0)],[bX 16 30 [dV t.Network.Stops,dV t.Network.Lines,dV t.Trips],bX 32 35 [dV r.SignOn,dV r.SignOff,dV r.MaxDrive,dV r.MinBreak,dV r.PaidBreak,dV r.MaxLength],bX 48 50 [dV d.Pieces]],80⟩) (fun E b Z=>?_) ?_))
  ·refine jaa (lp G Z (fun l=>⟨[(5,.ref 16 0),(6,.ref 32 0),(8,.ref 48 0),(9,.ref 64 0),(12,dV l)],[bX 16 30 [dV t.Network.Stops,dV t.Network.Lines,dV t.Trips],bX 32 33 [dV f.Dead,dV f.Turn],bX 48 35 [dV r.SignOn,dV r.SignOff,dV r.MaxDrive,dV r.MinBreak,dV r.PaidBreak,dV r.MaxLength],bX 64 50 [dV d.Pieces]],96⟩) ?_);rintro l m a Z;rw[ycd]at Z;refine jab (rs G (hN 3 d.Pieces h0) ?_);refine cd Z ?_ ?_<;>intro Z
   ·refine jae (thN (jab (jaa ?_)));obtain⟨H,e,I,g,K,i,Z⟩:=ob3 Z;refine ds G [] (hD 6 e (hD 11 g (hC 13 (ylt.c (_,_,_,_) i) h0))) ?_;refine cd Z ?_ ?_<;>intro Z
    ·refine rg G ?_;have Z:=eL Z a b;cases Z;exact rt [] []
    ·exact jae (ibN (thN (rh G (wL G Z))))
   ·exact jag (thE (thE (ibE (wE G Z a))))
  rintro⟨⟩ Z L j;refine thN (jai j ?_);refine jab ?_;obtain⟨w,k,Z⟩:=jaf Z;refine ds G [] (hC 3 (yo8.c (_,_,_) k) h0) ?_;refine cd Z ?_ ?_<;>intro Z
  ·refine rg G ?_;cases Z;exact rt [] []
  ·refine jae (thN (rg G ?_));cases Z;exact rt [] []
def yo7:MS (Timetable×Fleet×Rules×Duty) Int:=⟨.x .r (.x .r (.x .r .r)),fun x=>zq77 x.1 x.2.1 x.2.2.1 x.2.2.2,fun y=>dV y,fun _=>[],fun _ _=>[]⟩
theorem yuv:FnOK Tryz.prog tJ 129 yo7.S:=by
 refine fm tt yo7 [fo yfj,fo yfg,fo yo9,fo ymz] call129 func129 rfl results129 ntmps129 ?_;rintro⟨t,f,r,d⟩ y cx G (Z:zq77 t f r d=some y);unfold zq77 at Z;refine rg G (rg G (jab (rg G (tl Z (fun a=>⟨[(9,dV a)],[],32⟩) (fun a Z=>?_) ?_))))
 ·refine jaa (lp G Z (fun(v,b)=>⟨[(4,.ref 16 0),(5,.ref 32 0),(6,.ref 48 0),(7,.ref 64 0),(9,dV v),(10,dV b)],[bX 16 30 [dV t.Network.Stops,dV t.Network.Lines,dV t.Trips],bX 32 33 [dV f.Dead,dV f.Turn],bX 48 35 [dV r.SignOn,dV r.SignOff,dV r.MaxDrive,dV r.MinBreak,dV r.PaidBreak,dV r.MaxLength],bX 64 50 [dV d.Pieces]],96⟩) ?_);rintro⟨v,b⟩ o hb Z;rw[yjh]at Z;refine jab (rs G (hN 3 d.Pieces h0) ?_);refine cd Z ?_ ?_<;>intro Z
  ·refine jae (thN (jn Z (fun e=>⟨[(4,.ref 16 0),(5,.ref 32 0),(6,.ref 48 0),(7,.ref 64 0),(9,dV e),(10,dV b)],[bX 16 30 [dV t.Network.Stops,dV t.Network.Lines,dV t.Trips],bX 32 33 [dV f.Dead,dV f.Turn],bX 48 35 [dV r.SignOn,dV r.SignOff,dV r.MaxDrive,dV r.MinBreak,dV r.PaidBreak,dV r.MaxLength],bX 64 50 [dV d.Pieces]],96⟩) (fun e Z=>?_) ?_))
   ·refine jaa ?_;obtain⟨q,k,u,l,w,m,Z⟩:=ob3 Z;obtain⟨x,n,Z⟩:=jaf Z;refine ds G [] (hD 5 k (hC 7 (yet.c (_,_) l) (hD 13 m (hC 15 (yes.c (_,_) n) h0)))) ?_;refine rg G (cd Z ?_ ?_)<;>intro Z
    ·obtain⟨z,g,A,h,B,i,Z⟩:=ob3 Z;obtain⟨C,j,Z⟩:=jaf Z;refine de G [] (hD 7 g (hD 12 h (hC 14 (ylt.c (_,_,_,_) i) (hC 17 (ygx.c (_,_) j) h0)))) ?_;exact ibN (wJ G Z)
    ·exact jae (ibN (wJ G Z))
   rintro e Z;exact rh G (wL G Z)
  ·exact jag (thE (thE (ibE (wD G Z hb))))
 rintro a Z s p;refine thN (jai p ?_);refine rg G ?_;cases Z;exact rt [] []
def ylr:MS (Timetable×Fleet×(List (List Int))×Rules×Duty) Int:=⟨.x .r (.x .r (.x .r (.x .r .r))),fun x=>zq86 x.1 x.2.1 x.2.2.1 x.2.2.2.1 x.2.2.2.2,fun y=>dV y,fun _=>[],fun _ _=>[]⟩
theorem yuo:FnOK Tryz.prog tJ 91 ylr.S:=by
 refine fm tt ylr [fo yuy,fo yuv] call91 func91 rfl results91 ntmps91 ?_;rintro⟨t,f,g,r,d⟩ y cx G (Z:zq86 t f g r d=some y);unfold zq86 at Z;refine rg G (jab ?_);obtain⟨b,h,Z⟩:=jaf Z;refine rs G (hC 5 (ypa.c (_,_,_,_,_) h) h0) ?_;refine cd Z ?_ ?_<;>intro Z
 ·refine rg G ?_;cases Z;exact rt [] []
 ·refine jae (thN ?_);obtain⟨e,a,Z⟩:=jaf Z;refine rs G (hC 4 (yo7.c (_,_,_,_) a) h0) ?_;cases Z;exact rt [] []
def ylp:MS (l13Plan×Int) l13Plan:=⟨.x (.b 95) .r,fun x=>zq91 x.1 x.2,fun _=>.tup [],fun y=>[arO 3 y.known_],fun _ y=>[.box 95 [dV y.pieces_,dV y.alone_,dV y.pair_,dV y.forbid_,.own 1]]⟩
theorem yox{x forbid y}(Z:zq91 x forbid=some y):ylp.C (x,forbid) y:=ylp.c (x,forbid) Z
theorem yow:FnOK Tryz.prog tJ 92 ylp.S:=by
 refine fm tt ylp [] call92 func92 rfl results92 ntmps92 ?_;rintro⟨x,i⟩ y cx G (Z:zq91 x i=some y);unfold zq91 at Z;refine rg G ?_;obtain⟨u,h,f,d,Z⟩:=ob2 Z;refine rs G (hN 5 x.pieces_ (hK h (hO 8 (.l (List.map Enc.e (List.replicate (w64 (1*2^(min ((IntKind.u64.wrap ((x.pieces_.length:Int))):Int).toNat (IntKind.i64).bits))).toNat (0:Int)))) (hP (mk_p (b:=8) (jeb d) rfl) (hP (jma Enc.e (w64 (1*2^(min ((IntKind.u64.wrap ((x.pieces_.length:Int))):Int).toNat (IntKind.i64).bits))).toNat (0:Int)) h0))))) ?_;refine rg G (jaa (lp G Z (fun(v,a)=>⟨[(0,.ref 0 0),(4,dV v)],[bX 0 95 [dV x.pieces_,dV x.alone_,dV x.pair_,dV i,.own 32],aX 32 3 a],64⟩) ?_));rintro⟨v,a⟩ g hb Z;rw[yi4]at Z;refine jab (rs G (hN 5 a h0) ?_);refine cd Z ?_ ?_<;>intro Z
 ·refine jae (thN (jab (jaa ?_)));obtain⟨e,c,Z⟩:=jaf Z;refine re G (hD 5 c (hS 6 c (-2) h0)) ?_;exact ibN (thN (rh G (wL G Z)))
 ·have Z:=eD Z hb;refine jag (thE (thE (ibE ?_)));cases Z;exact fN [32] []
def yls:MS (Timetable×Fleet×(List (List Int))×Rules×Int) l13Plan:=⟨.x .r (.x .r (.x .r (.x .r .r))),fun x=>zq85 x.1 x.2.1 x.2.2.1 x.2.2.2.1 x.2.2.2.2,fun _=>.ref 0 0,fun y=>[.box 95 [dV y.pieces_,dV y.alone_,dV y.pair_,dV y.forbid_,.own 1],arO 3 y.known_],fun _ _=>[]⟩
theorem yup:FnOK Tryz.prog tJ 48 yls.S:=by
 refine fm tt yls [fo yun,fo yuo,fo yow] call48 func48 rfl results48 ntmps48 ?_;rintro⟨t,f,p,r,cut⟩ y cx G (Z:zq85 t f p r cut=some y);unfold zq85 at Z;refine rg G ?_;obtain⟨a,h,Z⟩:=jaf Z;refine rs G (hC 3 (yo1.c (_,_,_) h) h0) ?_;refine jab (rg G (tl Z (fun(C,D)=>⟨[(11,.ref 16 0)],[bX 16 95 [.own 32,.own 48,.own 64,kV .i64 0,nS],aX 32 53 a,aX 48 3 C,aX 64 53 D],96⟩) (fun J Z=>?_) ?_))
 ·refine jaa (lpP Z (fun(v,b,d)=>⟨[(2,dV p),(5,.ref 16 0),(6,.ref 32 0),(8,.ref 48 0),(11,.ref 64 0),(12,dV v)],[bX 16 30 [dV t.Network.Stops,dV t.Network.Lines,dV t.Trips],bX 32 33 [dV f.Dead,dV f.Turn],bX 48 35 [dV r.SignOn,dV r.SignOff,dV r.MaxDrive,dV r.MinBreak,dV r.PaidBreak,dV r.MaxLength],bX 64 95 [.own 80,.own 96,.own 112,kV .i64 0,nS],aX 80 53 a,aX 96 3 b,aX 112 53 d],144⟩) (Wk_J G.hL ⟨[(2,[]),(5,[]),(6,[]),(8,[]),(11,[]),(12,[])],[(16,16,[]),(32,32,[]),(48,48,[]),(64,160,[.k,.o 96,.o 112]),(80,128,[])],[(96,3,1,[]),(112,53,1,[])],144⟩ (by kernel_rfl)) ?_);rintro⟨v,b,d⟩ H hb Z;rw[yje]at Z;refine jab (rs G (hN 5 a h0) ?_);refine cd Z ?_ ?_<;>intro Z
  ·refine jae (thN (jab (jaa ?_)));obtain⟨L,E,i,I,M,K,Z⟩:=ob3 Z;refine ds G [(16,[]),(20,[96,560]),(23,[64,576])] (hD 14 E (hE 15 E (hC 18 (ylr.c (_,_,_,_,_) I) (hA 20 8 K h0)))) ?_;refine rg G (jab (rg G (tl Z (fun j=>⟨[(2,dV p),(5,.ref 16 0),(6,.ref 32 0),(8,.ref 48 0),(11,.ref 64 0),(12,dV v),(13,.own 80)],[bX 16 30 [dV t.Network.Stops,dV t.Network.Lines,dV t.Trips],bX 32 33 [dV f.Dead,dV f.Turn],bX 48 35 [dV r.SignOn,dV r.SignOff,dV r.MaxDrive,dV r.MinBreak,dV r.PaidBreak,dV r.MaxLength],bX 64 95 [.own 96,.own 112,.own 128,kV .i64 0,nS],aX 80 3 j,aX 96 53 a,aX 112 3 (b++([i]:List Int)),aX 128 53 d],160⟩) (fun j Z=>?_) ?_)))
   ·refine jaa (lp G Z (fun(l,m)=>⟨[(2,dV p),(5,.ref 16 0),(6,.ref 32 0),(8,.ref 48 0),(11,.ref 64 0),(12,dV v),(13,.own 80),(14,dV l)],[bX 16 30 [dV t.Network.Stops,dV t.Network.Lines,dV t.Trips],bX 32 33 [dV f.Dead,dV f.Turn],bX 48 35 [dV r.SignOn,dV r.SignOff,dV r.MaxDrive,dV r.MinBreak,dV r.PaidBreak,dV r.MaxLength],bX 64 95 [.own 96,.own 112,.own 128,kV .i64 0,nS],aX 80 3 m,aX 96 53 a,aX 112 3 (b++([i]:List Int)),aX 128 53 d],160⟩) ?_);rintro⟨l,m⟩ H n Z;rw[yjf]at Z;refine jab (rs G (hN 5 a h0) ?_);refine cd Z ?_ ?_<;>intro Z
    ·refine jae (thN (jab (jaa (rg G (jn Z (fun q=>⟨[(2,dV p),(5,.ref 16 0),(6,.ref 32 0),(8,.ref 48 0),(11,.ref 64 0),(12,dV v),(13,.own 80),(14,dV l),(15,dV q)],[bX 16 30 [dV t.Network.Stops,dV t.Network.Lines,dV t.Trips],bX 32 33 [dV f.Dead,dV f.Turn],bX 48 35 [dV r.SignOn,dV r.SignOff,dV r.MaxDrive,dV r.MinBreak,dV r.PaidBreak,dV r.MaxLength],bX 64 95 [.own 96,.own 112,.own 128,kV .i64 0,nS],aX 80 3 m,aX 96 53 a,aX 112 3 (b++([i]:List Int)),aX 128 53 d],160⟩) (fun q Z=>?_) ?_)))))
     ·refine rg G (cd Z ?_ ?_)<;>intro Z
      ·obtain⟨N,e,O,g,Q,u,Z⟩:=ob3 Z;refine de G [(18,[])] (hD 9 e (hE 10 e (hD 16 g (hE 17 g (hC 20 (ylr.c (_,_,_,_,_) u) h0))))) ?_;exact wJ G Z
      ·exact jae (wJ G Z)
     rintro q Z;obtain⟨R,w,Z⟩:=jaf Z;refine re G (hA 3 8 w h0) ?_;exact ibN (thN (rh G (wL G Z)))
    ·exact jag (thE (thE (ibE (wD G Z n))))
   rintro j Z s F;refine thN (jai F ?_);obtain⟨T,x,Z⟩:=jaf Z;refine re G (hO 6 (.fz [80] [] []) (hA 7 24 x h0)) ?_;exact ibN (thN (rh G (wL G Z)))
  ·exact jag (thE (thE (ibE (wD G Z hb))))
 rintro⟨C,D⟩ Z U A;refine thN (jai A ?_);obtain⟨V,B,Z⟩:=jaf Z;refine rs G (hO 1 (.fz [32,48,64] [] [(16,[.k,.k,.k,.k,.z 1])]) (hC 1 (yox B) h0)) ?_;refine rg G ?_;cases Z;exact rt [16,112] []
def ybg(a:l13Plan->Int->Option (Int×(List Int))):MS (l13Plan×Int) (Int×(List Int)):=⟨⟨[.bo 1,.rd],fun x=>[.sc undef,Enc.e x.2],fun x=>[.box 95 [dV x.1.pieces_,dV x.1.alone_,dV x.1.pair_,dV x.1.forbid_,.own 1],arO 3 x.1.known_],2,2,fun _=>rfl,fun _=>rfl,rfl,(by
  rintro⟨b,c⟩ ⟨b0,d⟩ h hO;have f:b=b0:=Enc.inj _ _ (congrArg D.agg (jbc (congrArg (fun l=>obC l 0 0) hO) (jbc (congrArg (fun l=>obC l 0 1) hO) (jbc (congrArg (fun l=>obC l 0 2) hO) (jbc (congrArg (fun l=>obC l 0 3) hO) (jbc (congrArg (fun l=>D.sl 1 (obL l 1)) hO) rfl))))));have q1:c=d:=qI 1 h;subst f;subst q1;rfl)⟩,fun x=>a x.1 x.2,fun y=>dV y.1,fun _=>[],fun x y=>[.box 95 [dV x.1.pieces_,dV x.1.alone_,dV x.1.pair_,dV x.1.forbid_,.own 1],arO 3 y.2]⟩
def yoz:MS (l13Plan×Int) (Int×(List Int)):=ybg zq90
theorem yt5{x done y}(Z:zq90 x done=some y):yoz.C (x,done) y:=yoz.c (x,done) Z
theorem yoy{a:l13Plan->Int->Option (Int×(List Int))}{x done y}(Z:a x done=some y):(ybg a).C (x,done) y:=(ybg a).c (x,done) Z
def ydp(a:l13Plan->Int->Option (Int×(List Int))):MS (l13Plan×Int×Int×Int) (Int×(List Int)):=⟨⟨[.bo 1,.rd,.rd,.rd],fun x=>[.sc undef,Enc.e x.2.1,Enc.e x.2.2.1,Enc.e x.2.2.2],fun x=>[.box 95 [dV x.1.pieces_,dV x.1.alone_,dV x.1.pair_,dV x.1.forbid_,.own 1],arO 3 x.1.known_],2,2,fun _=>rfl,fun _=>rfl,rfl,(by
  rintro⟨b,c,d,f⟩ ⟨b0,g,i,j⟩ h hO;have k:b=b0:=Enc.inj _ _ (congrArg D.agg (jbc (congrArg (fun l=>obC l 0 0) hO) (jbc (congrArg (fun l=>obC l 0 1) hO) (jbc (congrArg (fun l=>obC l 0 2) hO) (jbc (congrArg (fun l=>obC l 0 3) hO) (jbc (congrArg (fun l=>D.sl 1 (obL l 1)) hO) rfl))))));have q1:c=g:=qI 1 h;have m:d=i:=qI 2 h;have n:f=j:=qI 3 h;subst k;subst q1;subst m;subst n;rfl)⟩,fun x=>zq89 a x.1 x.2.1 x.2.2.1 x.2.2.2,fun y=>dV y.1,fun _=>[],fun x y=>[.box 95 [dV x.1.pieces_,dV x.1.alone_,dV x.1.pair_,dV x.1.forbid_,.own 1],arO 3 y.2]⟩
theorem yi9{a:l13Plan->Int->Option (Int×(List Int))}{x done i k y}(Z:zq89 a x done i k=some y):(ydp a).C (x,done,i,k) y:=(ydp a).c (x,done,i,k) Z
theorem yar{p:l13Plan->Int->Option (Int×(List Int))}(t:FnOK Tryz.prog tJ 49 (ybg p).S):FnOK Tryz.prog tJ 93 (ydp p).S:=by
 refine fm tt (ydp p) [fo t] call93 func93 rfl results93 ntmps93 ?_;rintro⟨x,done,i,k⟩ y cx G (Z:zq89 p x done i k=some y);unfold zq89 at Z;refine rg G (jab ?_);obtain⟨u,h,Z⟩:=jaf Z;refine jn Z (fun v=>⟨[(0,.ref 0 0),(1,dV done),(2,dV i),(3,dV k),(31,dV v)],[bX 0 95 [dV x.pieces_,dV x.alone_,dV x.pair_,dV x.forbid_,.own 1],aX 1 3 x.known_],48⟩) (fun v Z=>?_) ?_
 ·rcases bf Z with⟨hb,Z⟩|⟨hb,Z⟩
  ·refine re G (hK h (hO 9 (.b true) (hP hb h0))) ?_;exact wJ G Z
  ·obtain⟨e,a,m,c,Z⟩:=ob2 Z;refine re G (hK h (hO 9 (.b false) (hP hb (hD 15 a (hD 18 c h0))))) ?_;exact wJ G Z
 rintro v Z;refine cd Z ?_ ?_<;>intro Z
 ·refine rg G ?_;cases Z;exact rt [] []
 ·refine jae (thN ?_);obtain⟨n,d,o,f,r,g,Z⟩:=ob3 Z;refine rs G (hK d (hK f (hC 10 (yoy g) h0))) ?_;refine jab (rg G (cd Z ?_ ?_))<;>intro Z
  ·refine rg G ?_;cases Z;exact rt [] []
  ·refine jae (thN ?_);obtain⟨q,j,s,l,Z⟩:=ob2 Z;refine rs G (hD 5 j (hD 8 l h0)) ?_;cases Z;exact rt [] []
theorem yr7{F:l13Plan->Int->Option (Int×(List Int))}(P:FnOK Tryz.prog tJ 49 (ybg F).S):FnOK Tryz.prog tJ 49 (ybg (ydo F)).S:=by
 refine fm tt (ybg (ydo F)) [fo P,fo (yar P)] call49 func49 rfl results49 ntmps49 ?_;rintro⟨x,done⟩ y cx G (Z:ydo F x done=some y);unfold ydo at Z;refine rg G (rs G (hN 4 x.pieces_ h0) ?_);refine jab ?_;obtain⟨u,h,Z⟩:=jaf Z;refine rs G (hK h h0) ?_;refine cd Z ?_ ?_<;>intro Z
 ·refine rg G ?_;cases Z;exact rt [] []
 ·refine jae (thN (jab ?_));obtain⟨e,t,Z⟩:=jaf Z;refine rs G (hD 5 t (hE 6 t h0)) ?_;refine cd Z ?_ ?_<;>intro Z
  ·obtain⟨W,w,Z⟩:=jaf Z;refine rs G (hD 5 w (hE 6 w h0)) ?_;cases Z;exact rt [] []
  ·refine jae (thN (rg G (jn Z (fun p=>⟨[(0,.ref 0 0),(1,dV done),(5,dV (x.pieces_.length:Int)),(6,dV p)],[bX 0 95 [dV x.pieces_,dV x.alone_,dV x.pair_,dV x.forbid_,.own 1],aX 1 3 x.known_],48⟩) (fun p Z=>?_) ?_)))
   ·refine jaa (lp G Z (fun aa=>⟨[(0,.ref 0 0),(1,dV done),(5,dV (x.pieces_.length:Int)),(6,dV aa)],[bX 0 95 [dV x.pieces_,dV x.alone_,dV x.pair_,dV x.forbid_,.own 1],aX 1 3 x.known_],48⟩) ?_);rintro aa I hb Z;rw[yi7]at Z;refine jab ?_;obtain⟨X,K,Z⟩:=jaf Z;refine rs G (hK K h0) ?_;refine cd Z ?_ ?_<;>intro Z
    ·exact jae (thN (jaa (rh G (ibN (wL G Z)))))
    ·exact jag (thE (thE (ibE (wD G Z hb))))
   rintro p Z;refine rg G (jn Z (fun(k,v)=>⟨[(0,.ref 0 0),(1,dV done),(5,dV (x.pieces_.length:Int)),(6,dV p),(7,dV k)],[bX 0 95 [dV x.pieces_,dV x.alone_,dV x.pair_,dV x.forbid_,.own 1],aX 1 3 v],48⟩) (fun L Z=>?_) ?_)
   ·obtain⟨Y,M,Z⟩:=jaf Z;refine rs G (hD 5 M h0) ?_;refine cd Z ?_ ?_<;>intro Z
    ·obtain⟨u2,N,r,O,Z⟩:=ob2 Z;refine rs G (hK N (hC 6 (yoy O) h0)) ?_;refine rg G (cd Z ?_ ?_)<;>intro Z
     ·obtain⟨e3,Q,Z⟩:=jaf Z;refine re G (hD 5 Q h0) ?_;exact wJ G Z
     ·exact jae (wJ G Z)
    ·exact jae (wJ G Z)
   rintro⟨k,v⟩ Z;refine jab (rg G (tl Z (fun(i,z)=>⟨[(0,.ref 0 0),(1,dV done),(7,dV i)],[bX 0 95 [dV x.pieces_,dV x.alone_,dV x.pair_,dV x.forbid_,.own 1],aX 1 3 z],48⟩) (fun R Z=>?_) ?_))
   ·refine jaa (lp G Z (fun(j,J,A)=>⟨[(0,.ref 0 0),(1,dV done),(5,dV (x.pieces_.length:Int)),(6,dV p),(7,dV j),(9,dV J)],[bX 0 95 [dV x.pieces_,dV x.alone_,dV x.pair_,dV x.forbid_,.own 1],aX 1 3 A],48⟩) ?_);rintro⟨j,J,A⟩ I l Z;rw[yi6]at Z;refine jab (rg G (cd Z ?_ ?_))<;>intro Z
    ·refine jae (thN (jn Z (fun(B,C)=>⟨[(0,.ref 0 0),(1,dV done),(5,dV (x.pieces_.length:Int)),(6,dV p),(7,dV B),(9,dV J)],[bX 0 95 [dV x.pieces_,dV x.alone_,dV x.pair_,dV x.forbid_,.own 1],aX 1 3 C],48⟩) (fun T Z=>?_) ?_))
     ·refine jaa (jab ?_);obtain⟨u3,U,Z⟩:=jaf Z;refine rs G (hK U h0) ?_;refine cd Z ?_ ?_<;>intro Z
      ·exact jag (thE (ibE (wJ G Z)))
      ·refine jae (thN (jn Z (fun(m,D)=>⟨[(0,.ref 0 0),(1,dV done),(5,dV (x.pieces_.length:Int)),(6,dV p),(7,dV m),(9,dV J)],[bX 0 95 [dV x.pieces_,dV x.alone_,dV x.pair_,dV x.forbid_,.own 1],aX 1 3 D],48⟩) (fun vv Z=>?_) ?_))
       ·obtain⟨E,V,Z⟩:=jaf Z;refine rs G (hC 4 (yi9 V) h0) ?_;refine jn Z (fun n=>⟨[(0,.ref 0 0),(1,dV done),(5,dV (x.pieces_.length:Int)),(6,dV p),(7,dV j),(9,dV J),(10,dV E.1),(101,dV n)],[bX 0 95 [dV x.pieces_,dV x.alone_,dV x.pair_,dV x.forbid_,.own 1],aX 1 3 E.2],48⟩) (fun n Z=>?_) ?_
        ·rcases bf Z with⟨a,Z⟩|⟨a,Z⟩
         ·rcases bf Z with⟨d,Z⟩|⟨d,Z⟩
          ·refine re G (hO 2 (.b true) (hP a (hO 5 (.b true) (hP d h0)))) ?_;exact wJ G Z
          ·refine re G (hO 2 (.b true) (hP a (hO 5 (.b false) (hP d h0)))) ?_;exact wJ G Z
         ·refine re G (hO 2 (.b false) (hP a h0)) ?_;exact wJ G Z
        rintro n Z;refine cd Z ?_ ?_<;>intro Z
        ·exact rh G (wJ G Z)
        ·exact jae (wJ G Z)
       rintro⟨m,D⟩ Z;obtain⟨H,o,Z⟩:=jaf Z;refine rs G (hC 4 (yi9 o) h0) ?_;refine jn Z (fun q=>⟨[(0,.ref 0 0),(1,dV done),(5,dV (x.pieces_.length:Int)),(6,dV p),(7,dV m),(9,dV J),(11,dV H.1),(118,dV q)],[bX 0 95 [dV x.pieces_,dV x.alone_,dV x.pair_,dV x.forbid_,.own 1],aX 1 3 H.2],48⟩) (fun q Z=>?_) ?_
       ·rcases bf Z with⟨c,Z⟩|⟨c,Z⟩
        ·rcases bf Z with⟨f,Z⟩|⟨f,Z⟩
         ·refine re G (hO 2 (.b true) (hP c (hO 5 (.b true) (hP f h0)))) ?_;exact wJ G Z
         ·refine re G (hO 2 (.b true) (hP c (hO 5 (.b false) (hP f h0)))) ?_;exact wJ G Z
        ·refine re G (hO 2 (.b false) (hP c h0)) ?_;exact wJ G Z
       rintro q Z;refine cd Z ?_ ?_<;>intro Z
       ·exact rh G (ibN (wJ G Z))
       ·exact jae (ibN (wJ G Z))
     rintro⟨B,C⟩ Z;exact rh G (wL G Z)
    ·exact jag (thE (thE (ibE (wD G Z l))))
   rintro⟨i,z⟩ Z s hw;refine thN (jai hw ?_);obtain⟨e4,g,Z⟩:=jaf Z;refine rs G (hD 6 g (hS 7 g i h0)) ?_;refine rg G ?_;cases Z;exact rt [] []
theorem ylq:∀k,FnOK Tryz.prog tJ 49 (ybg (yer k)).S
 |0=>⟨fun args w=>call49 args w,fun vs w F ds obs κ a=>by obtain⟨x,y,_,_,h⟩:=a;cases h⟩
 |k+1=>yr7 (ylq k)
theorem yi5:FnOK Tryz.prog tJ 49 yoz.S:=ylq 4294967296
theorem yul:FnOK Tryz.prog tJ 93 (ydp zq90).S:=yar yi5
def yo0:MS l13Plan ((List Int)×l13Plan):=⟨.b 95,zq88,fun _=>.own 0,fun y=>[arO 3 y.1,arO 3 y.2.known_],fun _ y=>[.box 95 [dV y.2.pieces_,dV y.2.alone_,dV y.2.pair_,dV y.2.forbid_,.own 2]]⟩
theorem yum:FnOK Tryz.prog tJ 50 yo0.S:=by
 refine fm tt yo0 [fo yow,fo yi5,fo yul] call50 func50 rfl results50 ntmps50 ?_;rintro x y cx G (Z:zq88 x=some y);unfold zq88 at Z;refine rg G (rs G (hN 4 x.pieces_ h0) ?_);obtain⟨u,h,Z⟩:=jaf Z;refine rs G (hO 1 (.l (List.map Enc.e (List.replicate (x.pieces_.length:Int).toNat (0:Int)))) (hP (mk_p (b:=8) (jeb h) rfl) (hP (jma Enc.e (x.pieces_.length:Int).toNat (0:Int)) h0))) ?_;refine rg G ?_;obtain⟨r,h1,Z⟩:=jaf Z;refine rs G (hC 1 (yox h1) h0) ?_;obtain⟨I,h2,Z⟩:=jaf Z;refine rs G (hC 1 (yt5 h2) h0) ?_;refine jab (rg G (tl Z (fun P=>⟨[(0,.ref 0 0),(3,dV (x.pieces_.length:Int)),(4,.own 32),(5,kV .i64 0),(6,kV .i64 0),(7,dV I.1)],[bX 0 95 [dV r.pieces_,dV r.alone_,dV r.pair_,dV r.forbid_,.own 48],aX 32 3 P,aX 48 3 I.2],80⟩) (fun P Z=>?_) ?_))
 ·refine jaa (lp G Z (fun(i,done)=>⟨[(0,.ref 0 0),(3,dV (x.pieces_.length:Int)),(4,.own 32),(5,kV .i64 0),(6,kV .i64 0),(7,dV I.1),(8,dV i)],[bX 0 95 [dV r.pieces_,dV r.alone_,dV r.pair_,dV r.forbid_,.own 48],aX 32 3 done,aX 48 3 I.2],80⟩) ?_);rintro⟨i,done⟩ W hb Z;rw[yjc]at Z;refine jab (rg G (cd Z ?_ ?_))<;>intro Z
  ·refine jae (thN (jab (jaa ?_)));obtain⟨e,X,Z⟩:=jaf Z;refine re G (hD 3 X (hS 4 X (x.pieces_.length:Int) h0)) ?_;exact ibN (thN (rh G (wL G Z)))
  ·exact jag (thE (thE (ibE (wD G Z hb))))
 rintro P Z s hw;refine thN (jai hw ?_);refine jab (rg G (tl Z (fun(t,w,z,A,ae,B)=>⟨[(0,.ref 0 0),(4,.own 32)],[bX 0 95 [dV t,dV w,dV z,dV A,.own 48],aX 32 3 ae,aX 48 3 B],80⟩) (fun ak Z=>?_) ?_))
 ·refine jaa (lp G Z (fun(p,left,d,k,v,f,g,j,aa,Y)=>⟨[(0,.ref 0 0),(3,dV (x.pieces_.length:Int)),(4,.own 32),(5,dV p),(6,dV left),(7,dV d),(9,dV k)],[bX 0 95 [dV v,dV f,dV g,dV j,.own 48],aX 32 3 aa,aX 48 3 Y],80⟩) ?_);rintro⟨p,left,d,k,v,f,g,j,aa,Y⟩ W K Z;rw[yja]at Z;refine jab (rg G (cd Z ?_ ?_))<;>intro Z
  ·refine jae (thN (jn Z (fun(J,af,i2,v5,v6,v7,v8,ab,v9)=>⟨[(0,.ref 0 0),(3,dV (x.pieces_.length:Int)),(4,.own 32),(5,dV J),(6,dV af),(7,dV i2),(9,dV k)],[bX 0 95 [dV v5,dV v6,dV v7,dV v8,.own 48],aX 32 3 ab,aX 48 3 v9],80⟩) (fun aj Z=>?_) ?_))
   ·refine jaa (jab ?_);obtain⟨u1,h4,Z⟩:=jaf Z;refine rs G (hK h4 h0) ?_;refine cd Z ?_ ?_<;>intro Z
    ·exact jag (thE (ibE (wJ G Z)))
    ·refine jae (thN (jab (rg G (tl Z (fun(ad,C)=>⟨[(0,.ref 0 0),(3,dV (x.pieces_.length:Int)),(4,.own 32),(5,dV p),(6,dV left),(7,dV d),(9,dV k)],[bX 0 95 [dV v,dV f,dV g,dV j,.own 48],aX 32 3 ad,aX 48 3 C],80⟩) (fun ai Z=>?_) ?_))))
     ·refine jaa (lp G Z (fun(a,F,c)=>⟨[(0,.ref 0 0),(3,dV (x.pieces_.length:Int)),(4,.own 32),(5,dV p),(6,dV left),(7,dV d),(9,dV k),(10,dV a)],[bX 0 95 [dV v,dV f,dV g,dV j,.own 48],aX 32 3 F,aX 48 3 c],80⟩) ?_);rintro⟨a,F,c⟩ W L Z;rw[yjb]at Z;refine jab (jn Z (fun m=>⟨[(0,.ref 0 0),(3,dV (x.pieces_.length:Int)),(4,.own 32),(5,dV p),(6,dV left),(7,dV d),(9,dV k),(10,dV a),(52,dV m)],[bX 0 95 [dV v,dV f,dV g,dV j,.own 48],aX 32 3 F,aX 48 3 c],80⟩) (fun m Z=>?_) ?_)
      ·rcases bf Z with⟨n,Z⟩|⟨n,Z⟩
       ·obtain⟨e1,h5,Z⟩:=jaf Z;refine re G (hO 3 (.b true) (hP n (hD 6 h5 (hE 7 h5 h0)))) ?_;exact wJ G Z
       ·refine re G (hO 3 (.b false) (hP n h0)) ?_;exact wJ G Z
      rintro m Z;refine cd Z ?_ ?_<;>intro Z
      ·refine jae (thN (jn Z (fun(ac,D)=>⟨[(0,.ref 0 0),(3,dV (x.pieces_.length:Int)),(4,.own 32),(5,dV p),(6,dV left),(7,dV d),(9,dV k),(10,dV a)],[bX 0 95 [dV v,dV f,dV g,dV j,.own 48],aX 32 3 ac,aX 48 3 D],80⟩) (fun vv Z=>?_) ?_))
       ·refine jaa (jab (jn Z (fun o=>⟨[(0,.ref 0 0),(3,dV (x.pieces_.length:Int)),(4,.own 32),(5,dV p),(6,dV left),(7,dV d),(9,dV k),(10,dV a),(65,dV o)],[bX 0 95 [dV v,dV f,dV g,dV j,.own 48],aX 32 3 F,aX 48 3 c],80⟩) (fun o Z=>?_) ?_))
        ·rcases bf Z with⟨q,Z⟩|⟨q,Z⟩
         ·refine re G (hO 3 (.b true) (hP q h0)) ?_;exact wJ G Z
         ·obtain⟨u2,h6,Z⟩:=jaf Z;refine re G (hO 3 (.b false) (hP q (hK h6 h0))) ?_;exact wJ G Z
        rintro o Z;refine cd Z ?_ ?_<;>intro Z
        ·exact jag (thE (ibE (wJ G Z)))
        ·refine jae (thN ?_);obtain⟨r2,h7,Z⟩:=jaf Z;refine rs G (hC 4 (yi9 h7) h0) ?_;refine cd Z ?_ ?_<;>intro Z
         ·obtain⟨e2,h8,Z⟩:=jaf Z;refine re G (hD 3 h8 (hS 4 h8 a h0)) ?_;exact ibN (wJ G Z)
         ·exact jae (ibN (wJ G Z))
       rintro⟨ac,D⟩ Z;exact rh G (wL G Z)
      ·exact jag (thE (thE (ibE (wD G Z L))))
     rintro⟨ad,C⟩ Z s1 M;refine thN (jai M ?_);refine jab ?_;obtain⟨e3,h9,Z⟩:=jaf Z;refine rs G (hD 2 h9 (hE 3 h9 h0)) ?_;refine cd Z ?_ ?_<;>intro Z
     ·obtain⟨e7,N,e8,E,e9,O,Z⟩:=ob3 Z;refine ds G [] (hD 7 N (hD 11 E (hE 12 E (hD 13 O h0)))) ?_;obtain⟨u3,Q,ah,H,u4,R,Z⟩:=ob3 Z;refine rs G (hK Q (hD 7 H (hE 8 H (hK R h0)))) ?_;exact jag (thE (ibE (wJ G Z)))
     ·refine jae (thN ?_);obtain⟨u5,T,Z⟩:=jaf Z;refine rs G (hK T h0) ?_;obtain⟨r3,U,Z⟩:=jaf Z;refine re G (hO 2 (.fz [48] [] []) (hC 2 (yox U) h0)) ?_;exact ibN (wJ G Z)
   rintro⟨J,af,i2,v5,v6,v7,v8,ab,v9⟩ Z;exact rh G (wL G Z)
  ·exact jag (thE (thE (ibE (wD G Z K))))
 rintro⟨t,w,z,A,ae,B⟩ Z s2 V;refine thN (jai V ?_);refine rg G ?_;cases Z;exact rt [32,48] []
def ylo:MS ((List Duty)×Duty) ((List Duty)):=⟨⟨[.sl,.ag [.sl]],fun x=>[.sc undef,.agg [.sc undef]],fun x=>[arO 50 x.1,arO 53 x.2.Pieces],2,0,fun _=>rfl,fun _=>rfl,rfl,(by
  rintro⟨a,b⟩ ⟨b0,c⟩ h hO;have d:a=b0:=Enc.inj _ _ (congrArg (fun l=>D.sl 1 (obL l 0)) hO);have q1:b=c:=Enc.inj _ _ (congrArg D.agg (jbc (congrArg (fun l=>D.sl 1 (obL l 1)) hO) rfl));subst d;subst q1;rfl)⟩,fun x=>zq92 x.1 x.2,fun _=>.own 0,fun y=>[arO 50 y],fun _ _=>[]⟩
theorem yuk:FnOK Tryz.prog tJ 51 ylo.S:=by
 refine fm tt ylo [] call51 func51 rfl results51 ntmps51 ?_;rintro⟨p,d⟩ y cx G (Z:zq92 p d=some y);unfold zq92 at Z;refine rg G (rs G (hN 1 p h0) ?_);refine jn Z (fun c=>⟨[(0,.own 16),(1,.aggv [.own 32]),(3,.ref 48 0),(5,dV c)],[aX 16 50 p,aX 32 53 d.Pieces,bX 48 50 [.own 32]],80⟩) (fun c Z=>?_) ?_
 ·refine jaa (lp G Z (fun v=>⟨[(0,.own 16),(1,.aggv [.own 32]),(3,.ref 48 0),(5,dV v)],[aX 16 50 p,aX 32 53 d.Pieces,bX 48 50 [.own 32]],80⟩) ?_);rintro v r hb Z;rw[yi3]at Z;refine jab (jn Z (fun f=>⟨[(0,.own 16),(1,.aggv [.own 32]),(3,.ref 48 0),(5,dV v),(28,dV f)],[aX 16 50 p,aX 32 53 d.Pieces,bX 48 50 [.own 32]],80⟩) (fun f Z=>?_) ?_)
  ·rcases bf Z with⟨a,Z⟩|⟨a,Z⟩
   ·obtain⟨s,l,t,n,u,o,Z⟩:=ob3 Z;obtain⟨w,m,x,q,Z⟩:=ob2 Z;refine de G [] (hO 2 (.b true) (hP a (hD 6 l (hE 8 l (hD 9 n (hD 11 o (hD 15 m (hE 16 m (hD 17 q h0))))))))) ?_;exact wJ G Z
   ·refine de G [] (hO 2 (.b false) (hP a h0)) ?_;exact wJ G Z
  rintro f Z;refine cd Z ?_ ?_<;>intro Z
  ·exact jae (thN (jaa (rh G (ibN (wL G Z)))))
  ·exact jag (thE (thE (ibE (wD G Z hb))))
 rintro c Z;refine jai (Wk_J (x':=(⟨[(0,dV p),(1,.aggv [.own 16]),(3,.ref 32 0),(5,dV c)],[aX 16 53 d.Pieces,bX 32 50 [.own 16]],64⟩:X)) G.hL ⟨[(0,[]),(1,[]),(3,[]),(5,[])],[(16,32,[]),(32,48,[])],[],64⟩ (by kernel_rfl)) ?_;refine jai (Wk_J (x':=(⟨[(0,dV p),(1,.dat (.agg [Enc.e d.Pieces])),(3,.ref 16 0),(5,dV c)],[bX 16 50 [dV d.Pieces]],48⟩:X)) G.hL ⟨[(0,[]),(1,[]),(3,[]),(5,[])],[(16,32,[])],[],48⟩ (by kernel_rfl)) ?_;obtain⟨z,g,A,h,B,i,Z⟩:=ob3 Z;obtain⟨C,j,D,k,Z⟩:=ob2 Z;refine ds G [(0,[]),(3,[]),(4,[48]),(6,[]),(7,[112,144]),(10,[]),(11,[160])] (hU 3 g (hA 4 24 h (hA 7 24 i (hV 10 j (hA 11 24 k h0))))) ?_;cases Z;exact rt [224] []
def yo3:MS (Timetable×Fleet×(List (List Int))×Rules) ((List Duty)×Int×Int×Bool):=⟨.x .r (.x .r (.x .r .r)),fun x=>zq82 x.1 x.2.1 x.2.2.1 x.2.2.2,fun y=>.tup [.own 0,dV y.2.1,dV y.2.2.1,dV y.2.2.2],fun y=>[arO 50 y.1],fun _ _=>[]⟩
theorem yur:FnOK Tryz.prog tJ 21 yo3.S:=by
 refine fm tt yo3 [fo yuq,fo yup,fo yi5,fo yum,fo ymw,fo yuk,fo ygz] call21 func21 rfl results21 ntmps21 ?_;rintro⟨t,f,p,r⟩ y cx G (Z:zq82 t f p r=some y);unfold zq82 at Z;refine rg G (rg G (jab (rg G (tl Z (fun(J,i)=>⟨[(2,dV p),(4,.ref 16 0),(5,.ref 32 0),(7,.ref 48 0),(12,dV J),(13,dV i)],[bX 16 30 [dV t.Network.Stops,dV t.Network.Lines,dV t.Trips],bX 32 33 [dV f.Dead,dV f.Turn],bX 48 35 [dV r.SignOn,dV r.SignOff,dV r.MaxDrive,dV r.MinBreak,dV r.PaidBreak,dV r.MaxLength]],80⟩) (fun N Z=>?_) ?_))))
 ·refine jaa (lp G Z (fun(out,x,F)=>⟨[(2,dV p),(4,.ref 16 0),(5,.ref 32 0),(7,.ref 48 0),(12,dV out),(13,dV x),(14,dV F)],[bX 16 30 [dV t.Network.Stops,dV t.Network.Lines,dV t.Trips],bX 32 33 [dV f.Dead,dV f.Turn],bX 48 35 [dV r.SignOn,dV r.SignOff,dV r.MaxDrive,dV r.MinBreak,dV r.PaidBreak,dV r.MaxLength]],80⟩) ?_);rintro⟨out,x,F⟩ O hb Z;rw[yff]at Z;refine jab ?_;obtain⟨u,h,Z⟩:=jaf Z;refine rs G (hN 3 t.Trips (hK h h0)) ?_;refine cd Z ?_ ?_<;>intro Z
  ·refine jae (thN (jn Z (fun(P,K)=>⟨[(2,dV p),(4,.ref 16 0),(5,.ref 32 0),(7,.ref 48 0),(12,dV P),(13,dV K),(14,dV F)],[bX 16 30 [dV t.Network.Stops,dV t.Network.Lines,dV t.Trips],bX 32 33 [dV f.Dead,dV f.Turn],bX 48 35 [dV r.SignOn,dV r.SignOff,dV r.MaxDrive,dV r.MinBreak,dV r.PaidBreak,dV r.MaxLength]],80⟩) (fun vv Z=>?_) ?_))
   ·refine jaa (jab ?_);obtain⟨r1,Q,Z⟩:=jaf Z;refine rs G (hC 3 (yo2.c (_,_,_) Q) h0) ?_;refine cd Z ?_ ?_<;>intro Z
    ·exact jag (thE (ibE (wJ G Z)))
    ·refine jae (thN ?_);obtain⟨r2,R,T,U,Z⟩:=ob2 Z;refine rs G (hC 5 (yls.c (_,_,_,_,_) R) (hC 6 (yt5 U) h0)) ?_;refine jn Z (fun v=>⟨[(2,dV p),(4,.ref 16 0),(5,.ref 32 0),(7,.ref 48 0),(12,dV out),(13,dV x),(14,dV F),(15,dV T.1),(51,dV v)],[bX 16 30 [dV t.Network.Stops,dV t.Network.Lines,dV t.Trips],bX 32 33 [dV f.Dead,dV f.Turn],bX 48 35 [dV r.SignOn,dV r.SignOff,dV r.MaxDrive,dV r.MinBreak,dV r.PaidBreak,dV r.MaxLength]],80⟩) (fun v Z=>?_) ?_
     ·rcases bf Z with⟨d,Z⟩|⟨d,Z⟩
      ·rcases bf Z with⟨g,Z⟩|⟨g,Z⟩
       ·refine re G (hO 2 (.b true) (hP d (hO 5 (.b true) (hP g h0)))) ?_;exact wJ G Z
       ·refine re G (hO 2 (.b true) (hP d (hO 5 (.b false) (hP g h0)))) ?_;exact wJ G Z
      ·refine re G (hO 2 (.b false) (hP d h0)) ?_;exact wJ G Z
     rintro v Z;refine cd Z ?_ ?_<;>intro Z
     ·exact rg G (rh G (ibN (wJ G Z)))
     ·exact jae (ibN (wJ G Z))
   rintro⟨P,K⟩ Z;exact rh G (wL G Z)
  ·exact jag (thE (thE (ibE (wD G Z hb))))
 rintro⟨J,i⟩ Z s hw;refine thN (jai hw ?_);refine rg G (jab (rg G (cd Z ?_ ?_)))<;>intro Z
 ·refine rg G ?_;cases Z;exact rt [80] []
 ·refine jae (thN ?_);obtain⟨r4,V,Z⟩:=jaf Z;refine rs G (hC 5 (yls.c (_,_,_,_,_) V) h0) ?_;obtain⟨a,W,Z⟩:=jaf Z;refine rs G (hO 1 (.fz [225] [] []) (hC 1 (yo0.c _ W) h0)) ?_;refine jab (rg G (tl Z (fun k=>⟨[(12,dV J),(13,dV i),(16,.own 16)],[aX 16 50 k],48⟩) (fun k Z=>?_) ?_))
  ·refine jaa (lp G Z (fun(l,L)=>⟨[(12,dV J),(13,dV i),(16,.own 16),(17,.ref 32 0),(18,.own 48),(19,dV l)],[aX 16 50 L,bX 32 95 [dV a.2.pieces_,dV a.2.alone_,dV a.2.pair_,dV a.2.forbid_,.own 64],aX 48 3 a.1,aX 64 3 a.2.known_],96⟩) ?_);rintro⟨l,L⟩ O m Z;rw[yfe]at Z;refine jab (rs G (hN 2 a.1 h0) ?_);refine cd Z ?_ ?_<;>intro Z
   ·refine jae (thN (jn Z (fun n=>⟨[(12,dV J),(13,dV i),(16,.own 16),(17,.ref 32 0),(18,.own 48),(19,dV l)],[aX 16 50 n,bX 32 95 [dV a.2.pieces_,dV a.2.alone_,dV a.2.pair_,dV a.2.forbid_,.own 64],aX 48 3 a.1,aX 64 3 a.2.known_],96⟩) (fun n Z=>?_) ?_))
    ·refine jaa (jaa ?_);obtain⟨e,M,Z⟩:=jaf Z;refine rs G (hD 2 M (hE 3 M (hN 5 a.1 h0))) ?_;refine cd Z ?_ ?_<;>intro Z
     ·obtain⟨e4,o,r9,q,e5,j,Z⟩:=ob3 Z;obtain⟨e6,w,X,z,Y,A,Z⟩:=ob3 Z;refine de G [(20,[]),(22,[16,608])] (hD 6 o (hC 8 (yd1 q) (hD 15 j (hE 16 j (hD 17 w (hC 19 (yd1 z) (hC 22 (ylo.c (_,_) A) h0))))))) ?_;exact ibN (ibN (wJ G Z))
     ·obtain⟨aa,B,Z⟩:=jaf Z;refine rs G (hC 2 (ybx.c (_,_) B) h0) ?_;refine cd Z ?_ ?_<;>intro Z
      ·obtain⟨e7,C,ab,D,ac,E,Z⟩:=ob3 Z;refine re G (hD 6 C (hC 8 (yd1 D) (hC 11 (ylo.c (_,_) E) h0))) ?_;exact ibN (ibN (wJ G Z))
      ·exact jae (ibN (ibN (wJ G Z)))
    rintro n Z;exact rh G (wL G Z)
   ·exact jag (thE (thE (ibE (wD G Z m))))
  rintro k Z s1 H;refine thN (jai H ?_);obtain⟨u1,I,Z⟩:=jaf Z;refine rs G (hK I h0) ?_;cases Z;exact rt [16] []
def ypi:MS (Timetable×Fleet×(List (List Int))×Rules) ((List Duty)×Int×Int×Bool):=⟨.x .r (.x .r (.x .r .r)),fun x=>zq60 x.1 x.2.1 x.2.2.1 x.2.2.2,fun y=>.tup [.own 0,dV y.2.1,dV y.2.2.1,dV y.2.2.2],fun y=>[arO 50 y.1],fun _ _=>[]⟩
theorem yu8:FnOK Tryz.prog tJ 8 ypi.S:=by
 refine fm tt ypi [fo yu0,fo yur] call8 func8 rfl results8 ntmps8 ?_;rintro⟨t,f,g,r⟩ y cx G (Z:zq60 t f g r=some y);unfold zq60 at Z;refine rg G (jab ?_);obtain⟨d,h,Z⟩:=jaf Z;refine jn Z (fun v=>⟨[(2,dV g),(4,.ref 16 0),(5,.ref 32 0),(7,.ref 48 0),(23,dV v)],[bX 16 30 [dV t.Network.Stops,dV t.Network.Lines,dV t.Trips],bX 32 33 [dV f.Dead,dV f.Turn],bX 48 35 [dV r.SignOn,dV r.SignOff,dV r.MaxDrive,dV r.MinBreak,dV r.PaidBreak,dV r.MaxLength]],80⟩) (fun v Z=>?_) ?_
 ·rcases bf Z with⟨hb,Z⟩|⟨hb,Z⟩
  ·refine re G (hC 4 (ylv.c (_,_,_,_) h) (hO 6 (.b true) (hP hb h0))) ?_;exact wJ G Z
  ·refine re G (hC 4 (ylv.c (_,_,_,_) h) (hO 6 (.b false) (hP hb (hN 9 t.Trips h0)))) ?_;exact wJ G Z
 rintro v Z;refine cd Z ?_ ?_<;>intro Z
 ·refine rg G ?_;cases Z;exact rt [80] []
 ·refine jae (thN ?_);obtain⟨e,a,Z⟩:=jaf Z;refine rs G (hC 4 (yo3.c (_,_,_,_) a) h0) ?_;cases Z;exact rt [144] []
def yj8:MS ((List Int)×(List Int)) Bool:=mS ynr
theorem ysd:FnOK Tryz.prog tJ 54 yj8.S:=by
 refine fm tt yj8 [] call54 func54 rfl results54 ntmps54 ?_;rintro⟨a,b⟩ y cx G (Z:ynr a b=some y);unfold ynr at Z;refine rg G (jab (rs G (hN 1 a (hN 3 b h0)) ?_));refine cd Z ?_ ?_<;>intro Z
 ·refine rg G ?_;cases Z;exact rt [] []
 ·refine jae (thN (jab (rg G (tF Z (fun _=>⟨[],[],32⟩) (fun e i Z=>?_) ?_))))
  ·refine jaa (lp G Z (fun v=>⟨[(0,dV a),(1,dV b),(5,dV v)],[],32⟩) ?_);rintro v f hb Z;rw[ycy]at Z;refine jab (rs G (hN 2 a h0) ?_);refine cd Z ?_ ?_<;>intro Z
   ·refine jae (thN (jab (jaa ?_)));obtain⟨g,c,h,d,Z⟩:=ob2 Z;refine ds G [] (hD 2 c (hD 6 d h0)) ?_;refine cd Z ?_ ?_<;>intro Z
    ·refine rg G ?_;have Z:=eL Z hb i;cases Z;exact rt [] []
    ·exact jae (ibN (thN (rh G (wL G Z))))
   ·exact jag (thE (thE (ibE (wE G Z hb))))
  rintro⟨⟩ Z s j;refine thN (jai j ?_);refine rg G ?_;cases Z;exact rt [] []
def yf8:MS ((List (List Int))×(List (List Int))) Bool:=mS yj7
theorem yv4{a b y}(Z:yj7 a b=some y):yf8.C (a,b) y:=yf8.c (a,b) Z
theorem ysc:FnOK Tryz.prog tJ 22 yf8.S:=by
 refine fm tt yf8 [fo ysd] call22 func22 rfl results22 ntmps22 ?_;rintro⟨a,b⟩ y cx G (Z:yj7 a b=some y);unfold yj7 at Z;refine rg G (jab (rs G (hN 1 a (hN 3 b h0)) ?_));refine cd Z ?_ ?_<;>intro Z
 ·refine rg G ?_;cases Z;exact rt [] []
 ·refine jae (thN (jab (rg G (tF Z (fun _=>⟨[],[],32⟩) (fun g l Z=>?_) ?_))))
  ·refine jaa (lp G Z (fun v=>⟨[(0,dV a),(1,dV b),(5,dV v)],[],32⟩) ?_);rintro v h hb Z;rw[ycx]at Z;refine jab (rs G (hN 2 a h0) ?_);refine cd Z ?_ ?_<;>intro Z
   ·refine jae (thN (jab (jaa ?_)));obtain⟨i,d,j,e,k,f,Z⟩:=ob3 Z;refine ds G [] (hD 2 d (hD 6 e (hC 8 (yj8.c (_,_) f) h0))) ?_;refine cd Z ?_ ?_<;>intro Z
    ·refine rg G ?_;have Z:=eL Z hb l;cases Z;exact rt [] []
    ·exact jae (ibN (thN (rh G (wL G Z))))
   ·exact jag (thE (thE (ibE (wE G Z hb))))
  rintro⟨⟩ Z s m;refine thN (jai m ?_);refine rg G ?_;cases Z;exact rt [] []
def yj9:MS ((List Duty)×(List Duty)) Bool:=mS yh4
theorem yse:FnOK Tryz.prog tJ 9 yj9.S:=by
 refine fm tt yj9 [fo ysc] call9 func9 rfl results9 ntmps9 ?_;rintro⟨a,b⟩ y cx G (Z:yh4 a b=some y);unfold yh4 at Z;refine rg G (jab (rs G (hN 1 a (hN 3 b h0)) ?_));refine cd Z ?_ ?_<;>intro Z
 ·refine rg G ?_;cases Z;exact rt [] []
 ·refine jae (thN (jab (rg G (tF Z (fun _=>⟨[],[],32⟩) (fun f k Z=>?_) ?_))))
  ·refine jaa (lp G Z (fun v=>⟨[(0,dV a),(1,dV b),(5,dV v)],[],32⟩) ?_);rintro v g hb Z;rw[ycz]at Z;refine jab (rs G (hN 2 a h0) ?_);refine cd Z ?_ ?_<;>intro Z
   ·refine jae (thN (jab (jaa ?_)));obtain⟨h,c,i,d,j,e,Z⟩:=ob3 Z;refine ds G [] (hD 2 c (hD 7 d (hC 10 (yv4 e) h0))) ?_;refine cd Z ?_ ?_<;>intro Z
    ·refine rg G ?_;have Z:=eL Z hb k;cases Z;exact rt [] []
    ·exact jae (ibN (thN (rh G (wL G Z))))
   ·exact jag (thE (thE (ibE (wE G Z hb))))
  rintro⟨⟩ Z s l;refine thN (jai l ?_);refine rg G ?_;cases Z;exact rt [] []
def yme:MS (Timetable×Fleet×(List (List Int))×Rules×(List Duty)) Bool:=⟨.x .r (.x .r (.x .r (.x .r .r))),fun x=>zq32 x.1 x.2.1 x.2.2.1 x.2.2.2.1 x.2.2.2.2,fun y=>dV y,fun _=>[],fun _ _=>[]⟩
theorem yp0:FnOK Tryz.prog tJ 23 yme.S:=by
 refine fm tt yme [fo yqd,fo ycg] call23 func23 rfl results23 ntmps23 ?_;rintro⟨t,f,J,r,F⟩ y cx G (Z:zq32 t f J r F=some y);unfold zq32 at Z;refine rg G (rg G (rg G (jab (rs G (hN 1 F h0) ?_))));refine tF Z (fun p5=>⟨[(5,.ref 16 0),(12,dV p5)],[bX 16 30 [dV t.Network.Stops,dV t.Network.Lines,dV t.Trips]],48⟩) (fun M P Z=>?_) ?_
 ·refine jaa (lp G Z (fun(p,v,a,m)=>⟨[(2,dV J),(5,.ref 16 0),(6,.ref 32 0),(8,.ref 48 0),(11,.eref 64 1 0 0),(12,dV p),(13,dV v),(21,dV F),(22,dV (F.length:Int)),(23,dV a)],[bX 16 30 [dV t.Network.Stops,dV t.Network.Lines,dV t.Trips],bX 32 33 [dV f.Dead,dV f.Turn],bX 48 35 [dV r.SignOn,dV r.SignOff,dV r.MaxDrive,dV r.MinBreak,dV r.PaidBreak,dV r.MaxLength],aX 64 4 m],96⟩) ?_);rintro⟨p,v,a,m⟩ D hb Z;rw[ybi]at Z;refine rg G (jab (cd Z ?_ ?_))<;>intro Z
  ·refine jae (thN (jab (jaa ?_)));obtain⟨e,h,Z⟩:=jaf Z;refine rs G (hD 0 h h0) ?_;refine jab ?_;obtain⟨r1,E,Z⟩:=jaf Z;refine jn Z (fun n=>⟨[(2,dV J),(5,.ref 16 0),(6,.ref 32 0),(8,.ref 48 0),(11,.eref 64 1 0 0),(12,dV p),(15,.ref 80 0),(21,dV F),(22,dV (F.length:Int)),(23,dV a),(43,dV n)],[bX 16 30 [dV t.Network.Stops,dV t.Network.Lines,dV t.Trips],bX 32 33 [dV f.Dead,dV f.Turn],bX 48 35 [dV r.SignOn,dV r.SignOff,dV r.MaxDrive,dV r.MinBreak,dV r.PaidBreak,dV r.MaxLength],aX 64 4 m,bX 80 50 [dV e.Pieces]],112⟩) (fun n Z=>?_) ?_
   ·rcases bf Z with⟨d,Z⟩|⟨d,Z⟩
    ·refine re G (hC 5 (yh2.c (_,_,_,_,_) E) (hO 7 (.b true) (hP d h0))) ?_;exact wJ G Z
    ·obtain⟨e1,N,e2,O,Z⟩:=ob2 Z;refine re G (hC 5 (yh2.c (_,_,_,_,_) E) (hO 7 (.b false) (hP d (hD 10 N (hD 12 O h0))))) ?_;exact wJ G Z
   rintro n Z;refine cd Z ?_ ?_<;>intro Z
   ·refine rg G ?_;have Z:=eL Z hb P;cases Z;exact rt [] []
   ·refine jae (thN ?_);obtain⟨e4,Q,k,R,Z⟩:=ob2 Z;refine rs G (hD 2 Q (hD 4 R h0)) ?_;refine rs G (hN 2 e.Pieces h0) ?_;refine tF Z (fun(p4,g)=>⟨[(2,dV J),(5,.ref 16 0),(6,.ref 32 0),(8,.ref 48 0),(11,.eref 64 1 0 0),(12,dV p4),(13,dV k),(21,dV F),(22,dV (F.length:Int)),(23,dV a)],[bX 16 30 [dV t.Network.Stops,dV t.Network.Lines,dV t.Trips],bX 32 33 [dV f.Dead,dV f.Turn],bX 48 35 [dV r.SignOn,dV r.SignOff,dV r.MaxDrive,dV r.MinBreak,dV r.PaidBreak,dV r.MaxLength],aX 64 4 g],96⟩) (fun T o Z=>?_) ?_
    ·refine jaa (lp G Z (fun(p1,l,H)=>⟨[(2,dV J),(5,.ref 16 0),(6,.ref 32 0),(8,.ref 48 0),(11,.eref 64 1 0 0),(12,dV p1),(13,dV k),(21,dV F),(22,dV (F.length:Int)),(23,dV a),(51,dV e.Pieces),(52,dV (e.Pieces.length:Int)),(53,dV l)],[bX 16 30 [dV t.Network.Stops,dV t.Network.Lines,dV t.Trips],bX 32 33 [dV f.Dead,dV f.Turn],bX 48 35 [dV r.SignOn,dV r.SignOff,dV r.MaxDrive,dV r.MinBreak,dV r.PaidBreak,dV r.MaxLength],aX 64 4 H],96⟩) ?_);rintro⟨p1,l,H⟩ D i Z;rw[ydt]at Z;refine rg G (jab (cd Z ?_ ?_))<;>intro Z
     ·refine jae (thN (jab (jaa ?_)));obtain⟨q,U,Z⟩:=jaf Z;refine rs G (hD 0 U h0) ?_;refine rs G (hN 1 q h0) ?_;refine tF Z (fun(p3,I)=>⟨[(2,dV J),(5,.ref 16 0),(6,.ref 32 0),(8,.ref 48 0),(11,.eref 64 1 0 0),(12,dV p3),(13,dV k),(21,dV F),(22,dV (F.length:Int)),(23,dV a),(51,dV e.Pieces),(52,dV (e.Pieces.length:Int)),(53,dV l)],[bX 16 30 [dV t.Network.Stops,dV t.Network.Lines,dV t.Trips],bX 32 33 [dV f.Dead,dV f.Turn],bX 48 35 [dV r.SignOn,dV r.SignOff,dV r.MaxDrive,dV r.MinBreak,dV r.PaidBreak,dV r.MaxLength],aX 64 4 I],96⟩) (fun v9 w Z=>?_) ?_
      ·refine jaa (lp G Z (fun(p2,K,L)=>⟨[(2,dV J),(5,.ref 16 0),(6,.ref 32 0),(8,.ref 48 0),(11,.eref 64 1 0 0),(12,dV p2),(13,dV k),(21,dV F),(22,dV (F.length:Int)),(23,dV a),(51,dV e.Pieces),(52,dV (e.Pieces.length:Int)),(53,dV l),(57,dV q),(58,dV (q.length:Int)),(59,dV K)],[bX 16 30 [dV t.Network.Stops,dV t.Network.Lines,dV t.Trips],bX 32 33 [dV f.Dead,dV f.Turn],bX 48 35 [dV r.SignOn,dV r.SignOff,dV r.MaxDrive,dV r.MinBreak,dV r.PaidBreak,dV r.MaxLength],aX 64 4 L],96⟩) ?_);rintro⟨p2,K,L⟩ D j Z;rw[yfy]at Z;refine rg G (jab (cd Z ?_ ?_))<;>intro Z
       ·refine jae (thN (jab (jaa ?_)));obtain⟨e7,V,Z⟩:=jaf Z;refine rs G (hD 0 V h0) ?_;obtain⟨r3,W,Z⟩:=jaf Z;refine rs G (hC 2 (ycp.c (_,_) W) h0) ?_;refine jab ?_;obtain⟨u,x,e8,X,Z⟩:=ob2 Z;refine rs G (hK x (hE 2 X h0)) ?_;refine cd Z ?_ ?_<;>intro Z
        ·refine rg G ?_;have Z:=eL Z j w;have Z:=eL Z i o;have Z:=eL Z hb P;cases Z;exact rt [] []
        ·refine jae (thN ?_);obtain⟨u1,z,Y,A,Z⟩:=ob2 Z;refine rs G (hK z (hS 2 A true h0)) ?_;exact rh G (ibN (thN (rh G (wL G Z))))
       ·exact jag (thE (thE (ibE (wE G Z j))))
      rintro⟨p3,I⟩ Z s hw;refine ibN (thN (jai hw ?_));exact rh G (wL G Z)
     ·exact jag (thE (thE (ibE (wE G Z i))))
    rintro⟨p4,g⟩ Z s1 B;refine ibN (thN (jai B ?_));exact rh G (wL G Z)
  ·exact jag (thE (thE (ibE (wE G Z hb))))
 rintro p5 Z s2 C;refine thN (jai C ?_);refine rs G (hN 3 t.Trips h0) ?_;cases Z;exact rt [] []
def yr8:MS (Timetable×Fleet×(List (List Int))×Rules×(List Duty)) (Bool×Bool):=⟨.x .r (.x .r (.x .r (.x .r .r))),fun x=>zq7 x.1 x.2.1 x.2.2.1 x.2.2.2.1 x.2.2.2.2,fun y=>.tup [dV y.1,dV y.2],fun _=>[],fun _ _=>[]⟩
theorem yyd{t f blocks r list y}(Z:zq7 t f blocks r list=some y):yr8.C (t,f,blocks,r,list) y:=yr8.c (t,f,blocks,r,list) Z
theorem yxi:FnOK Tryz.prog tJ 10 yr8.S:=by
 refine fm tt yr8 [fo yf6,fo yp0] call10 func10 rfl results10 ntmps10 ?_;rintro⟨t,f,e,r,g⟩ y cx G (Z:zq7 t f e r g=some y);unfold zq7 at Z;refine rg G (jab ?_);obtain⟨b,h,Z⟩:=jaf Z;refine rs G (hC 4 (ydw.c (_,_,_,_) h) h0) ?_;refine cd Z ?_ ?_<;>intro Z
 ·refine rg G ?_;cases Z;exact rt [] []
 ·refine jae (thN ?_);obtain⟨d,a,Z⟩:=jaf Z;refine rs G (hC 5 (yme.c (_,_,_,_,_) a) h0) ?_;cases Z;exact rt [] []
def ymm:MS (Timetable×Fleet×(List (List Int))×Rules×(List Duty)) (Int×Bool):=⟨.x .r (.x .r (.x .r (.x .r .r))),fun x=>zq13 x.1 x.2.1 x.2.2.1 x.2.2.2.1 x.2.2.2.2,fun y=>.tup [dV y.1,dV y.2],fun _=>[],fun _ _=>[]⟩
theorem yxp{t f blocks r list y}(Z:zq13 t f blocks r list=some y):ymm.C (t,f,blocks,r,list) y:=ymm.c (t,f,blocks,r,list) Z
theorem yv9:FnOK Tryz.prog tJ 11 ymm.S:=by
 refine fm tt ymm [fo yf6,fo yp0,fo ypq] call11 func11 rfl results11 ntmps11 ?_;rintro⟨t,f,u,r,p⟩ y cx G (Z:zq13 t f u r p=some y);unfold zq13 at Z;refine rg G (jab ?_);obtain⟨m,h,Z⟩:=jaf Z;refine jn Z (fun v=>⟨[(4,dV p),(5,.ref 16 0),(6,.ref 32 0),(8,.ref 48 0),(29,dV v)],[bX 16 30 [dV t.Network.Stops,dV t.Network.Lines,dV t.Trips],bX 32 33 [dV f.Dead,dV f.Turn],bX 48 35 [dV r.SignOn,dV r.SignOff,dV r.MaxDrive,dV r.MinBreak,dV r.PaidBreak,dV r.MaxLength]],80⟩) (fun v Z=>?_) ?_
 ·rcases bf Z with⟨hb,Z⟩|⟨hb,Z⟩
  ·refine re G (hC 4 (ydw.c (_,_,_,_) h) (hO 6 (.b true) (hP hb h0))) ?_;exact wJ G Z
  ·obtain⟨n,j,Z⟩:=jaf Z;refine re G (hC 4 (ydw.c (_,_,_,_) h) (hO 6 (.b false) (hP hb (hC 12 (yme.c (_,_,_,_,_) j) h0)))) ?_;exact wJ G Z
 rintro v Z;refine cd Z ?_ ?_<;>intro Z
 ·refine rg G ?_;cases Z;exact rt [] []
 ·refine jae (thN (rg G (jab (rs G (hN 1 p h0) ?_))));refine tl Z (fun a=>⟨[(12,dV a)],[],32⟩) (fun a Z=>?_) ?_
  ·refine jaa (lp G Z (fun(g,i)=>⟨[(5,.ref 16 0),(6,.ref 32 0),(8,.ref 48 0),(12,dV g),(30,dV p),(31,dV (p.length:Int)),(32,dV i)],[bX 16 30 [dV t.Network.Stops,dV t.Network.Lines,dV t.Trips],bX 32 33 [dV f.Dead,dV f.Turn],bX 48 35 [dV r.SignOn,dV r.SignOff,dV r.MaxDrive,dV r.MinBreak,dV r.PaidBreak,dV r.MaxLength]],80⟩) ?_);rintro⟨g,i⟩ o d Z;rw[ykl]at Z;refine rg G (jab (cd Z ?_ ?_))<;>intro Z
   ·refine jae (thN (jab (jaa ?_)));obtain⟨e,k,Z⟩:=jaf Z;refine rs G (hD 0 k h0) ?_;obtain⟨q,l,Z⟩:=jaf Z;refine re G (hC 5 (yl6.c (_,_,_,_) l) h0) ?_;exact ibN (thN (rh G (wL G Z)))
   ·exact jag (thE (thE (ibE (wD G Z d))))
  rintro a Z s w;refine thN (jai w ?_);refine rg G ?_;cases Z;exact rt [] []
def ypp:MS Timetable (Int×Int):=⟨.r,zq48,fun y=>.tup [dV y.1,dV y.2],fun _=>[],fun _ _=>[]⟩
theorem yvf:FnOK Tryz.prog tJ 25 ypp.S:=by
 refine fm tt ypp [fo yf0] call25 func25 rfl results25 ntmps25 ?_;rintro t y cx G (Z:zq48 t=some y);unfold zq48 at Z;refine rg G (rg G (jab (rs G (hN 2 t.Trips h0) ?_)));refine tl Z (fun(F,r)=>⟨[(4,dV F),(5,dV r)],[],32⟩) (fun w Z=>?_) ?_
 ·refine jaa (lp G Z (fun(p,v,d)=>⟨[(1,.ref 16 0),(4,dV p),(5,dV v),(12,dV t.Trips),(13,dV (t.Trips.length:Int)),(14,dV d)],[bX 16 30 [dV t.Network.Stops,dV t.Network.Lines,dV t.Trips]],48⟩) ?_);rintro⟨p,v,d⟩ x hb Z;rw[yjr]at Z;refine rg G (jab (cd Z ?_ ?_))<;>intro Z
  ·refine jae (thN (jn Z (fun(E,u)=>⟨[(1,.ref 16 0),(4,dV E),(5,dV u),(12,dV t.Trips),(13,dV (t.Trips.length:Int)),(14,dV d)],[bX 16 30 [dV t.Network.Stops,dV t.Network.Lines,dV t.Trips]],48⟩) (fun I Z=>?_) ?_))
   ·refine jaa ?_;obtain⟨e,h,Z⟩:=jaf Z;refine rs G (hD 0 h h0) ?_;refine rg G (jab (rs G (hN 2 t.Trips h0) ?_));refine tl Z (fun i=>⟨[(1,.ref 16 0),(4,dV p),(5,dV v),(7,.ref 32 0),(8,dV i),(12,dV t.Trips),(13,dV (t.Trips.length:Int)),(14,dV d)],[bX 16 30 [dV t.Network.Stops,dV t.Network.Lines,dV t.Trips],bX 32 106 [dV e.Id,dV e.Line,dV e.Start]],64⟩) (fun i Z=>?_) ?_
    ·refine jaa (lp G Z (fun(k,j)=>⟨[(1,.ref 16 0),(4,dV p),(5,dV v),(7,.ref 32 0),(8,dV k),(12,dV t.Trips),(13,dV (t.Trips.length:Int)),(14,dV d),(19,dV t.Trips),(20,dV (t.Trips.length:Int)),(21,dV j)],[bX 16 30 [dV t.Network.Stops,dV t.Network.Lines,dV t.Trips],bX 32 106 [dV e.Id,dV e.Line,dV e.Start]],64⟩) ?_);rintro⟨k,j⟩ x l Z;rw[yjs]at Z;refine rg G (jab (cd Z ?_ ?_))<;>intro Z
     ·refine jae (thN (jn Z (fun m=>⟨[(1,.ref 16 0),(4,dV p),(5,dV v),(7,.ref 32 0),(8,dV m),(12,dV t.Trips),(13,dV (t.Trips.length:Int)),(14,dV d),(19,dV t.Trips),(20,dV (t.Trips.length:Int)),(21,dV j)],[bX 16 30 [dV t.Network.Stops,dV t.Network.Lines,dV t.Trips],bX 32 106 [dV e.Id,dV e.Line,dV e.Start]],64⟩) (fun m Z=>?_) ?_))
      ·refine jaa ?_;obtain⟨B,z,Z⟩:=jaf Z;refine rs G (hD 0 z h0) ?_;refine jn Z (fun n=>⟨[(1,.ref 16 0),(4,dV p),(5,dV v),(7,.ref 32 0),(8,dV k),(12,dV t.Trips),(13,dV (t.Trips.length:Int)),(14,dV d),(19,dV t.Trips),(20,dV (t.Trips.length:Int)),(21,dV j),(37,dV n)],[bX 16 30 [dV t.Network.Stops,dV t.Network.Lines,dV t.Trips],bX 32 106 [dV e.Id,dV e.Line,dV e.Start]],64⟩) (fun n Z=>?_) ?_
       ·rcases bf Z with⟨f,Z⟩|⟨f,Z⟩
        ·obtain⟨C,A,Z⟩:=jaf Z;refine de G [] (hO 5 (.b true) (hP f (hC 10 (yev.c (_,_) A) h0))) ?_;exact wJ G Z
        ·refine de G [] (hO 5 (.b false) (hP f h0)) ?_;exact wJ G Z
       rintro n Z;refine cd Z ?_ ?_<;>intro Z
       ·exact rh G (ibN (wJ G Z))
       ·exact jae (ibN (wJ G Z))
      rintro m Z;exact rh G (wL G Z)
     ·exact jag (thE (thE (ibE (wD G Z l))))
    rintro i Z s H;refine thN (jai H ?_);refine jn Z (fun o=>⟨[(1,.ref 16 0),(4,dV p),(5,dV v),(7,.ref 32 0),(8,dV i),(12,dV t.Trips),(13,dV (t.Trips.length:Int)),(14,dV d),(54,dV o)],[bX 16 30 [dV t.Network.Stops,dV t.Network.Lines,dV t.Trips],bX 32 106 [dV e.Id,dV e.Line,dV e.Start]],64⟩) (fun o Z=>?_) ?_
    ·rcases bf Z with⟨a,Z⟩|⟨a,Z⟩
     ·refine re G (hO 3 (.b true) (hP a h0)) ?_;exact wJ G Z
     ·rcases bf Z with⟨g,Z⟩|⟨g,Z⟩
      ·refine re G (hO 3 (.b false) (hP a (hO 7 (.b true) (hP g h0)))) ?_;exact wJ G Z
      ·refine re G (hO 3 (.b false) (hP a (hO 7 (.b false) (hP g h0)))) ?_;exact wJ G Z
    rintro o Z;refine cd Z ?_ ?_<;>intro Z
    ·exact rh G (ibN (wJ G Z))
    ·exact jae (ibN (wJ G Z))
   rintro⟨E,u⟩ Z;exact rh G (wL G Z)
  ·exact jag (thE (thE (ibE (wD G Z hb))))
 rintro⟨F,r⟩ Z D q;refine thN (jai q ?_);refine rg G ?_;cases Z;exact rt [] []
def yu9:MS (Timetable×Fleet×(List (List Int))×Rules) (Int×Bool):=⟨.x .r (.x .r (.x .r .r)),fun x=>zq5 x.1 x.2.1 x.2.2.1 x.2.2.2,fun y=>.tup [dV y.1,dV y.2],fun _=>[],fun _ _=>[]⟩
theorem yxk:FnOK Tryz.prog tJ 12 yu9.S:=by
 refine fm tt yu9 [fo yf6,fo yvf] call12 func12 rfl results12 ntmps12 ?_;rintro⟨t,f,e,r⟩ y cx G (Z:zq5 t f e r=some y);unfold zq5 at Z;refine rg G (jab ?_);obtain⟨b,h,Z⟩:=jaf Z;refine rs G (hC 4 (ydw.c (_,_,_,_) h) h0) ?_;refine cd Z ?_ ?_<;>intro Z
 ·refine rg G ?_;cases Z;exact rt [] []
 ·refine jae (thN ?_);obtain⟨d,a,Z⟩:=jaf Z;refine rs G (hC 1 (ypp.c _ a) h0) ?_;refine rg G ?_;cases Z;exact rt [] []
def yqb:MS (Timetable×(List (List Int))×Int) ((List (List Int))):=⟨.x .r (.x .r .r),fun x=>zq21 x.1 x.2.1 x.2.2,fun _=>.own 0,fun y=>[arO 53 y],fun _ _=>[]⟩
theorem yvz:FnOK Tryz.prog tJ 28 yqb.S:=by
 refine fm tt yqb [fo ycg,fo ygd] call28 func28 rfl results28 ntmps28 ?_;rintro⟨t,p,cut⟩ y cx G (Z:zq21 t p cut=some y);unfold zq21 at Z;refine rg G (rg G (jab (rs G (hN 1 p h0) ?_)));refine tl Z (fun I=>⟨[(7,.own 16)],[aX 16 53 I],48⟩) (fun I Z=>?_) ?_
 ·refine jaa (lpP Z (fun(v,K)=>⟨[(2,dV cut),(3,.ref 16 0),(7,.own 32),(13,dV p),(14,dV (p.length:Int)),(15,dV v)],[bX 16 30 [dV t.Network.Stops,dV t.Network.Lines,dV t.Trips],aX 32 53 K],64⟩) (Wk_J G.hL ⟨[(2,[]),(3,[]),(7,[.o 32]),(13,[]),(14,[]),(15,[])],[(16,16,[])],[(32,53,1,[])],64⟩ (by kernel_rfl)) ?_);rintro⟨v,K⟩ l hb Z;rw[yj4]at Z;refine rg G (jab (cd Z ?_ ?_))<;>intro Z
  ·refine jae (thN (jab (jaa ?_)));obtain⟨e,h,Z⟩:=jaf Z;refine rs G (hD 0 h h0) ?_;refine rg G (rs G (hN 1 e h0) ?_);refine tl Z (fun H=>⟨[(2,dV cut),(3,.ref 16 0),(7,.own 32),(13,dV p),(14,dV (p.length:Int)),(15,dV v)],[bX 16 30 [dV t.Network.Stops,dV t.Network.Lines,dV t.Trips],aX 32 53 H],64⟩) (fun H Z=>?_) ?_
   ·refine jaa (lp G Z (fun(f,d,F)=>⟨[(2,dV cut),(3,.ref 16 0),(7,.own 32),(9,dV e),(10,dV f),(13,dV p),(14,dV (p.length:Int)),(15,dV v),(19,dV e),(20,dV (e.length:Int)),(21,dV d)],[bX 16 30 [dV t.Network.Stops,dV t.Network.Lines,dV t.Trips],aX 32 53 F],64⟩) ?_);rintro⟨f,d,F⟩ l g Z;rw[yf4]at Z;refine rg G (jab (cd Z ?_ ?_))<;>intro Z
    ·refine jae (thN (jn Z (fun(k,J)=>⟨[(2,dV cut),(3,.ref 16 0),(7,.own 32),(9,dV e),(10,dV k),(13,dV p),(14,dV (p.length:Int)),(15,dV v),(19,dV e),(20,dV (e.length:Int)),(21,dV d)],[bX 16 30 [dV t.Network.Stops,dV t.Network.Lines,dV t.Trips],aX 32 53 J],64⟩) (fun M Z=>?_) ?_))
     ·refine jaa ?_;obtain⟨A,m,Z⟩:=jaf Z;refine rs G (hD 1 m h0) ?_;refine jn Z (fun i=>⟨[(2,dV cut),(3,.ref 16 0),(7,.own 32),(9,dV e),(10,dV f),(11,dV d),(13,dV p),(14,dV (p.length:Int)),(15,dV v),(19,dV e),(20,dV (e.length:Int)),(21,dV d),(39,dV i)],[bX 16 30 [dV t.Network.Stops,dV t.Network.Lines,dV t.Trips],aX 32 53 F],64⟩) (fun i Z=>?_) ?_
      ·rcases bf Z with⟨a,Z⟩|⟨a,Z⟩
       ·refine re G (hN 2 e (hO 5 (.b true) (hP a h0))) ?_;exact wJ G Z
       ·obtain⟨r,n,u,q,Z⟩:=ob2 Z;refine re G (hN 2 e (hO 5 (.b false) (hP a (hC 9 (ycp.c (_,_) n) (hK q h0))))) ?_;exact wJ G Z
      rintro i Z;refine cd Z ?_ ?_<;>intro Z
      ·obtain⟨B,w,C,x,D,z,Z⟩:=ob3 Z;refine rs G (hU 5 w (hC 6 (ydx.c _ x) (hO 7 (.fz [160] [] []) (hA 8 24 z h0)))) ?_;exact rh G (ibN (wJ G Z))
      ·exact jae (ibN (wJ G Z))
     rintro⟨k,J⟩ Z;exact rh G (wL G Z)
    ·exact jag (thE (thE (ibE (wD G Z g))))
   rintro H Z s L;refine ibN (thN (jai L ?_));exact rh G (wL G Z)
  ·exact jag (thE (thE (ibE (wD G Z hb))))
 rintro I Z E j;refine thN (jai j ?_);refine rg G ?_;cases Z;exact rt [16] []
def ysa:MS (Timetable×Fleet×(List (List Int))×Int) ((List (List Int))×Bool):=⟨.x .r (.x .r (.x .r .r)),fun x=>zq4 x.1 x.2.1 x.2.2.1 x.2.2.2,fun y=>.tup [dV y.1,dV y.2],fun _=>[],fun _ _=>[]⟩
theorem yye{t f blocks cut y}(Z:zq4 t f blocks cut=some y):ysa.C (t,f,blocks,cut) y:=ysa.c (t,f,blocks,cut) Z
theorem yxm:FnOK Tryz.prog tJ 13 ysa.S:=by
 refine fm tt ysa [fo yt6,fo ypz,fo yvz] call13 func13 rfl results13 ntmps13 ?_;rintro⟨t,f,j,cut⟩ y cx G (Z:zq4 t f j cut=some y);unfold zq4 at Z;refine rg G (jab ?_);obtain⟨r,h,Z⟩:=jaf Z;refine jn Z (fun v=>⟨[(2,dV j),(3,dV cut),(4,.ref 16 0),(27,dV v)],[bX 16 30 [dV t.Network.Stops,dV t.Network.Lines,dV t.Trips]],48⟩) (fun v Z=>?_) ?_
 ·rcases bf Z with⟨hb,Z⟩|⟨hb,Z⟩
  ·refine re G (hC 3 (yi8.c (_,_,_) h) (hO 5 (.b true) (hP hb h0))) ?_;exact wJ G Z
  ·rcases bf Z with⟨a,Z⟩|⟨a,Z⟩
   ·refine re G (hC 3 (yi8.c (_,_,_) h) (hO 5 (.b false) (hP hb (hN 8 t.Trips (hO 11 (.b true) (hP a h0)))))) ?_;exact wJ G Z
   ·obtain⟨g,d,Z⟩:=jaf Z;refine re G (hC 3 (yi8.c (_,_,_) h) (hO 5 (.b false) (hP hb (hN 8 t.Trips (hO 11 (.b false) (hP a (hC 15 (yh1.c (_,_,_) d) h0))))))) ?_;exact wJ G Z
 rintro v Z;refine cd Z ?_ ?_<;>intro Z
 ·refine rg G ?_;cases Z;exact rt [] [[.z 1]]
 ·refine jae (thN ?_);obtain⟨i,e,Z⟩:=jaf Z;refine rs G (hC 3 (yqb.c (_,_,_) e) h0) ?_;cases Z;exact rt [] []
def yb4:MS (List UInt8) Bool:=mR yay
theorem v_FnCutting_ok:FnOK Tryz.prog tJ 3 yb4.S:=by
 refine fm tt yb4 [fo ysf,fo yva,fo yxj,fo yu8,fo yse,fo yxi,fo yv9,fo yxk,fo yxm] call3 func3 rfl results3 ntmps3 ?_;rintro p y cx G (Z:yay p=some y);unfold yay at Z;refine rg G (jab ?_);obtain⟨r,h,Z⟩:=jaf Z;refine rs G (hC 1 (yka.c _ h) h0) ?_;refine cd Z ?_ ?_<;>intro Z
 ·refine rg G ?_;cases Z;exact rt [] []
 ·refine jae (thN ?_);obtain⟨k,D,Z⟩:=jaf Z;refine rs G (hC 1 (ypj.c _ D) h0) ?_;obtain⟨g,E,Z⟩:=jaf Z;refine rs G (hO 4 (.fz [80] [] []) (hC 4 (yu1.c (_,_,_,_) E) h0)) ?_;obtain⟨Q,H,Z⟩:=jaf Z;refine rs G (hC 4 (ypi.c (_,_,_,_) H) h0) ?_;refine jab (jn Z (fun v=>⟨[(3,.ref 16 0),(4,.ref 32 0),(5,dV k.2.2.1),(6,.ref 48 0),(7,dV g.1),(8,dV g.2.1),(9,dV g.2.2.1),(10,dV g.2.2.2),(72,dV v)],[bX 16 30 [dV k.1.Network.Stops,dV k.1.Network.Lines,dV k.1.Trips],bX 32 33 [dV k.2.1.Dead,dV k.2.1.Turn],bX 48 35 [dV k.2.2.2.SignOn,dV k.2.2.2.SignOff,dV k.2.2.2.MaxDrive,dV k.2.2.2.MinBreak,dV k.2.2.2.PaidBreak,dV k.2.2.2.MaxLength]],80⟩) (fun v Z=>?_) ?_)
  ·rcases bf Z with⟨hb,Z⟩|⟨hb,Z⟩
   ·refine re G (hO 3 (.b true) (hP hb h0)) ?_;exact wJ G Z
   ·rcases bf Z with⟨n,Z⟩|⟨n,Z⟩
    ·refine re G (hO 3 (.b false) (hP hb (hO 8 (.b true) (hP n h0)))) ?_;exact wJ G Z
    ·rcases bf Z with⟨q,Z⟩|⟨q,Z⟩
     ·refine re G (hO 3 (.b false) (hP hb (hO 8 (.b false) (hP n (hO 13 (.b true) (hP q h0)))))) ?_;exact wJ G Z
     ·obtain⟨R,I,Z⟩:=jaf Z;refine re G (hO 3 (.b false) (hP hb (hO 8 (.b false) (hP n (hO 13 (.b false) (hP q (hC 16 (yj9.c (_,_) I) h0))))))) ?_;exact wJ G Z
  rintro v Z;refine cd Z ?_ ?_<;>intro Z
  ·refine rg G ?_;cases Z;exact rt [] []
  ·refine jae (thN (jab (rg G (cd Z ?_ ?_))))<;>intro Z
   ·refine rs G (hN 1 g.1 h0) ?_;cases Z;exact rt [] []
   ·refine jae (thN ?_);obtain⟨w,K,Z⟩:=jaf Z;refine rs G (hC 5 (yyd K) h0) ?_;obtain⟨x,L,Z⟩:=jaf Z;refine rs G (hC 5 (yxp L) h0) ?_;obtain⟨z,M,Z⟩:=jaf Z;refine rs G (hC 4 (yu9.c (_,_,_,_) M) h0) ?_;obtain⟨u,N,Z⟩:=jaf Z;refine rs G (hC 4 (yye N) h0) ?_;refine rg G (jab (rg G (tl Z (fun A=>⟨[(7,dV g.1),(9,dV g.2.2.1),(15,dV w.1),(16,dV w.2),(17,dV x.1),(18,dV x.2),(19,dV z.1),(20,dV z.2),(21,dV u.1),(22,dV u.2),(23,dV A)],[],32⟩) (fun A Z=>?_) ?_)))
    ·refine jaa (lp G Z (fun(i,C)=>⟨[(7,dV g.1),(9,dV g.2.2.1),(15,dV w.1),(16,dV w.2),(17,dV x.1),(18,dV x.2),(19,dV z.1),(20,dV z.2),(21,dV u.1),(22,dV u.2),(23,dV i),(24,dV C)],[],32⟩) ?_);rintro⟨i,C⟩ T B Z;rw[yak]at Z;refine jab (rs G (hN 2 g.1 h0) ?_);refine cd Z ?_ ?_<;>intro Z
     ·refine jae (thN (jab (jaa ?_)));obtain⟨e,O,Z⟩:=jaf Z;refine re G (hD 3 O (hN 6 e.Pieces h0)) ?_;exact ibN (thN (rh G (wL G Z)))
     ·exact jag (thE (thE (ibE (wD G Z B))))
    rintro A Z s F;refine thN (jai F ?_);refine jn Z (fun t=>⟨[(2,dV t)],[],32⟩) (fun t Z=>?_) ?_
    ·rcases bf Z with⟨a,Z⟩|⟨a,Z⟩
     ·rcases bf Z with⟨d,Z⟩|⟨d,Z⟩
      ·rcases bf Z with⟨f,Z⟩|⟨f,Z⟩
       ·rcases bf Z with⟨j,Z⟩|⟨j,Z⟩
        ·rcases bf Z with⟨l,Z⟩|⟨l,Z⟩
         ·rcases bf Z with⟨o,Z⟩|⟨o,Z⟩
          ·rcases bf Z with⟨m,Z⟩|⟨m,Z⟩
           ·refine re G (hO 1 (.b true) (hP a (hO 4 (.b true) (hP d (hO 7 (.b true) (hP f (hO 12 (.b true) (hP j (hO 15 (.b true) (hP l (hN 18 g.1 (hO 21 (.b true) (hP o (hO 24 (.b true) (hP m (hN 26 u.1 h0)))))))))))))))) ?_;exact wJ G Z
           ·refine re G (hO 1 (.b true) (hP a (hO 4 (.b true) (hP d (hO 7 (.b true) (hP f (hO 12 (.b true) (hP j (hO 15 (.b true) (hP l (hN 18 g.1 (hO 21 (.b true) (hP o (hO 24 (.b false) (hP m h0))))))))))))))) ?_;exact wJ G Z
          ·refine re G (hO 1 (.b true) (hP a (hO 4 (.b true) (hP d (hO 7 (.b true) (hP f (hO 12 (.b true) (hP j (hO 15 (.b true) (hP l (hN 18 g.1 (hO 21 (.b false) (hP o h0))))))))))))) ?_;exact wJ G Z
         ·refine re G (hO 1 (.b true) (hP a (hO 4 (.b true) (hP d (hO 7 (.b true) (hP f (hO 12 (.b true) (hP j (hO 15 (.b false) (hP l h0)))))))))) ?_;exact wJ G Z
        ·refine re G (hO 1 (.b true) (hP a (hO 4 (.b true) (hP d (hO 7 (.b true) (hP f (hO 12 (.b false) (hP j h0)))))))) ?_;exact wJ G Z
       ·refine re G (hO 1 (.b true) (hP a (hO 4 (.b true) (hP d (hO 7 (.b false) (hP f h0)))))) ?_;exact wJ G Z
      ·refine re G (hO 1 (.b true) (hP a (hO 4 (.b false) (hP d h0)))) ?_;exact wJ G Z
     ·refine re G (hO 1 (.b false) (hP a h0)) ?_;exact wJ G Z
    rintro t Z;cases Z;exact rt [] []
end
end Go.Proofs.YtimecodbnhcnoaaGreat
