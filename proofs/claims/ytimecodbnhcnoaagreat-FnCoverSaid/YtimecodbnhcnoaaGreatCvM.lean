/- Models of the functions that the law reaches: plain Lean; none where the function would panic or not end. Made by program (dec.py). -/
import Derived.Test.YtimecodbnhcnoaaGreatAbStb
namespace Go.Proofs.YtimecodbnhcnoaaGreat
open Go Go.Ab
set_option maxRecDepth 100000
set_option maxHeartbeats 4000000
set_option linter.unusedVariables false
set_option linter.unusedSimpArgs false
noncomputable section
structure bM where
 dH:List UInt8
 at_:Int
 dL:IK .u64
instance enc_l1Cur:Enc bM:=⟨3,fun x=>.agg [Enc.e x.dH,.sc (.int .i64 x.at_),.sc (.int .u64 x.dL.v)],fun a b h=>by
 simp only[D.agg.injEq,ig,and_true]at h;obtain⟨c,d,f⟩:=a;obtain⟨g,i,j⟩:=b;obtain⟨k,l,m⟩:=h;have q1:=Enc.inj (α:=List UInt8) c g k;have n:=Enc.inj (α:=Int) d i l;have o:=Enc.inj (α:=IK .u64) f j m;subst q1;subst n;subst o;rfl⟩
structure bK where
 eH:ByteArray
 bq:List Int
 bY:List Int
instance enc_Line:Enc bK:=⟨3,fun x=>.agg [.sc (.string x.eH),Enc.e x.bq,Enc.e x.bY],fun a b h=>by
 simp only[D.agg.injEq,ig,and_true]at h;obtain⟨c,d,f⟩:=a;obtain⟨g,i,j⟩:=b;obtain⟨k,l,m⟩:=h;have q1:=Enc.inj (α:=ByteArray) c g k;have n:=Enc.inj (α:=List Int) d i l;have o:=Enc.inj (α:=List Int) f j m;subst q1;subst n;subst o;rfl⟩
structure bC where
 bq:List ByteArray
 bG:List bK
instance enc_Network:Enc bC:=⟨2,fun x=>.agg [Enc.e x.bq,Enc.e x.bG],fun a b h=>by
 simp only[D.agg.injEq,ig,and_true]at h;obtain⟨c,d⟩:=a;obtain⟨f,g⟩:=b;obtain⟨i,j⟩:=h;have q1:=Enc.inj (α:=List ByteArray) c f i;have k:=Enc.inj (α:=List bK) d g j;subst q1;subst k;rfl⟩
structure cZ where
 Id:Int
 bK:Int
 d9:Int
instance enc_Trip:Enc cZ:=⟨3,fun x=>.agg [.sc (.int .i64 x.Id),.sc (.int .i64 x.bK),.sc (.int .i64 x.d9)],fun a b h=>by
 simp only[D.agg.injEq,ig,and_true]at h;obtain⟨c,d,e⟩:=a;obtain⟨f,g,i⟩:=b;obtain⟨j,k,l⟩:=h;have q1:=Enc.inj (α:=Int) c f j;have m:=Enc.inj (α:=Int) d g k;have n:=Enc.inj (α:=Int) e i l;subst q1;subst m;subst n;rfl⟩
structure bA where
 bC:bC
 bn:List cZ
instance enc_Timetable:Enc bA:=⟨3,fun x=>.agg [Enc.e x.bC.bq,Enc.e x.bC.bG,Enc.e x.bn],fun a b h=>by
 simp only[D.agg.injEq,ig,and_true]at h;obtain⟨⟨c,d⟩,f⟩:=a;obtain⟨⟨g,i⟩,j⟩:=b;obtain⟨k,l,m⟩:=h;have q1:=Enc.inj (α:=List ByteArray) c g k;have n:=Enc.inj (α:=List bK) d i l;have o:=Enc.inj (α:=List cZ) f j m;subst q1;subst n;subst o;rfl⟩
structure bL where
 dR:List (List Int)
 gV:Int
instance enc_Fleet:Enc bL:=⟨2,fun x=>.agg [Enc.e x.dR,.sc (.int .i64 x.gV)],fun a b h=>by
 simp only[D.agg.injEq,ig,and_true]at h;obtain⟨c,d⟩:=a;obtain⟨f,g⟩:=b;obtain⟨i,j⟩:=h;have q1:=Enc.inj (α:=List (List Int)) c f i;have k:=Enc.inj (α:=Int) d g j;subst q1;subst k;rfl⟩
structure cB where
 iU:Int
 iV:Int
 jV:Int
 jM:Int
 jd:Int
 kP:Int
instance enc_Rules:Enc cB:=⟨6,fun x=>.agg [.sc (.int .i64 x.iU),.sc (.int .i64 x.iV),.sc (.int .i64 x.jV),.sc (.int .i64 x.jM),.sc (.int .i64 x.jd),.sc (.int .i64 x.kP)],fun a b h=>by
 simp only[D.agg.injEq,ig,and_true]at h;obtain⟨c,d,e,f,g,i⟩:=a;obtain⟨j,k,l,m,n,o⟩:=b;obtain⟨p,q,r,s,t,u⟩:=h;have q1:=Enc.inj (α:=Int) c j p;have v:=Enc.inj (α:=Int) d k q;have w:=Enc.inj (α:=Int) e l r;have y:=Enc.inj (α:=Int) f m s;have z:=Enc.inj (α:=Int) g n t;have A:=Enc.inj (α:=Int) i o u;subst q1;subst v;subst w;subst y;subst z;subst A;rfl⟩
structure kr where
 t_:bA
 f_:bL
 iG:List (List Int)
instance enc_l11Plan:Enc kr:=⟨6,fun x=>.agg [Enc.e x.t_.bC.bq,Enc.e x.t_.bC.bG,Enc.e x.t_.bn,Enc.e x.f_.dR,.sc (.int .i64 x.f_.gV),Enc.e x.iG],fun a b h=>by
 simp only[D.agg.injEq,ig,and_true]at h;obtain⟨⟨⟨c,d⟩,f⟩,⟨g,i⟩,j⟩:=a;obtain⟨⟨⟨k,l⟩,m⟩,⟨n,o⟩,p⟩:=b;obtain⟨q,r,s,t,u,v⟩:=h;have q1:=Enc.inj (α:=List ByteArray) c k q;have w:=Enc.inj (α:=List bK) d l r;have y:=Enc.inj (α:=List cZ) f m s;have z:=Enc.inj (α:=List (List Int)) g n t;have A:=Enc.inj (α:=Int) i o u;have B:=Enc.inj (α:=List (List Int)) j p v;subst q1;subst w;subst y;subst z;subst A;subst B;rfl⟩
structure bB where
 bE:List (List Int)
instance enc_Duty:Enc bB:=⟨1,fun x=>.agg [Enc.e x.bE],fun a b h=>by
 simp only[D.agg.injEq,ig,and_true]at h;obtain⟨c⟩:=a;obtain⟨d⟩:=b;have f:=h;have q1:=Enc.inj (α:=List (List Int)) c d f;subst q1;rfl⟩
structure eZ where
 bP:List (List Int)
 gQ:List Int
 dF:List (List Int)
 iB:Int
 iG:List Int
instance enc_l13Plan:Enc eZ:=⟨5,fun x=>.agg [Enc.e x.bP,Enc.e x.gQ,Enc.e x.dF,.sc (.int .i64 x.iB),Enc.e x.iG],fun a b h=>by
 simp only[D.agg.injEq,ig,and_true]at h;obtain⟨c,d,f,g,i⟩:=a;obtain⟨j,k,l,m,n⟩:=b;obtain⟨o,p,q,r,s⟩:=h;have q1:=Enc.inj (α:=List (List Int)) c j o;have t:=Enc.inj (α:=List Int) d k p;have u:=Enc.inj (α:=List (List Int)) f l q;have v:=Enc.inj (α:=Int) g m r;have w:=Enc.inj (α:=List Int) i n s;subst q1;subst t;subst u;subst v;subst w;rfl⟩
structure vT where
 vX:Int
 To:Int
instance enc_Span:Enc vT:=⟨2,fun x=>.agg [.sc (.int .i64 x.vX),.sc (.int .i64 x.To)],fun a b h=>by
 simp only[D.agg.injEq,ig,and_true]at h;obtain⟨c,d⟩:=a;obtain⟨e,f⟩:=b;obtain⟨g,i⟩:=h;have q1:=Enc.inj (α:=Int) c e g;have j:=Enc.inj (α:=Int) d f i;subst q1;subst j;rfl⟩
structure bI where
 lZ:Int
 lT:Int
instance enc_price:Enc bI:=⟨2,fun x=>.agg [.sc (.int .i64 x.lZ),.sc (.int .i64 x.lT)],fun a b h=>by
 simp only[D.agg.injEq,ig,and_true]at h;obtain⟨c,d⟩:=a;obtain⟨e,f⟩:=b;obtain⟨g,i⟩:=h;have q1:=Enc.inj (α:=Int) c e g;have j:=Enc.inj (α:=Int) d f i;subst q1;subst j;rfl⟩
structure fq where
 bP:List (List Int)
 eX:List bI
 dF:List (List bI)
 je:List ((Int×Int)×bI)
instance enc_cutter:Enc fq:=⟨4,fun x=>.agg [Enc.e x.bP,Enc.e x.eX,Enc.e x.dF,Enc.e x.je],fun a b h=>by
 simp only[D.agg.injEq,ig,and_true]at h;obtain⟨c,d,f,g⟩:=a;obtain⟨i,j,k,l⟩:=b;obtain⟨m,n,o,p⟩:=h;have q1:=Enc.inj (α:=List (List Int)) c i m;have q:=Enc.inj (α:=List bI) d j n;have r:=Enc.inj (α:=List (List bI)) f k o;have s:=Enc.inj (α:=List ((Int×Int)×bI)) g l p;subst q1;subst q;subst r;subst s;rfl⟩
instance:BxE bM:=⟨fun x y h=>Enc.inj x y (congrArg D.agg h)⟩
instance:BxE bK:=⟨fun x y h=>Enc.inj x y (congrArg D.agg h)⟩
instance:BxE bC:=⟨fun x y h=>Enc.inj x y (congrArg D.agg h)⟩
instance:BxE cZ:=⟨fun x y h=>Enc.inj x y (congrArg D.agg h)⟩
instance:BxE bA:=⟨fun x y h=>Enc.inj x y (congrArg D.agg h)⟩
instance:BxE bL:=⟨fun x y h=>Enc.inj x y (congrArg D.agg h)⟩
instance:BxE cB:=⟨fun x y h=>Enc.inj x y (congrArg D.agg h)⟩
instance:BxE kr:=⟨fun x y h=>Enc.inj x y (congrArg D.agg h)⟩
instance:BxE bB:=⟨fun x y h=>Enc.inj x y (congrArg D.agg h)⟩
instance:BxE eZ:=⟨fun x y h=>Enc.inj x y (congrArg D.agg h)⟩
instance:BxE vT:=⟨fun x y h=>Enc.inj x y (congrArg D.agg h)⟩
instance:BxE bI:=⟨fun x y h=>Enc.inj x y (congrArg D.agg h)⟩
instance:BxE fq:=⟨fun x y h=>Enc.inj x y (congrArg D.agg h)⟩
instance:FlatEnc cZ:=⟨fun _=>jde rfl⟩
instance:FlatEnc cB:=⟨fun _=>jde rfl⟩
instance:FlatEnc vT:=⟨fun _=>jde rfl⟩
instance:FlatEnc bI:=⟨fun _=>jde rfl⟩
def ysy(a:List UInt8):Option (Bool):=
 some (decide (65536<(a.length:Int)))
def yna(c:bM):Option (Int×bM):=
 (if decide (c.at_<(c.dH.length:Int)) then
  (idx c.dH c.at_).bind fun a=>
  some (w64 ((a.toNat:Int)))
 else
  some (0:Int)).bind fun(v:Int)=>
 if decide ((w64 (c.at_+1))<=(c.dH.length:Int)) then
  some (v,(⟨c.dH,(w64 (c.at_+1)),(⟨(IntKind.u64.wrap ((IntKind.u64.wrap ((IntKind.u64.wrap (c.dL.v*6364136223846793005))+(IntKind.u64.wrap (v))))+900900))⟩:IK .u64)⟩:bM))
 else
  (chk ((0:Int)<=40)).bind fun u=>
  some ((w64 ((IntKind.u64.wrap ((BitVec.ofInt (IntKind.u64).bits ((IntKind.u64.wrap ((IntKind.u64.wrap ((IntKind.u64.wrap (c.dL.v*6364136223846793005))+(IntKind.u64.wrap (v))))+900900)).fdiv (2^(min (40:Int).toNat (IntKind.u64).bits)))&&&BitVec.ofInt (IntKind.u64).bits 255).toNat:Int)))),(⟨c.dH,(w64 (c.at_+1)),(⟨(IntKind.u64.wrap ((IntKind.u64.wrap ((IntKind.u64.wrap (c.dL.v*6364136223846793005))+(IntKind.u64.wrap (v))))+900900))⟩:IK .u64)⟩:bM))
def ya4(c:bM)(n:Int):Option (Int×bM):=
 if decide (n<=1) then
  some (0,c)
 else
  (yna c).bind fun r=>
  (if decide (200<n) then
   (yna r.2).bind fun a=>
   some ((w64 ((w64 (r.1*256))+a.1)),a.2.dH,a.2.at_,a.2.dL.v)
  else
   some (r.1,r.2.dH,r.2.at_,r.2.dL.v)).bind fun((v,b,d,e):Int×(List UInt8)×Int×Int)=>
  (chk ((n:Int)≠0)).bind fun u=>
  some ((v.tmod n),(⟨b,d,(⟨e⟩:IK .u64)⟩:bM))
def yc3(c:bM)(n:Int):Option (Bool×bM):=
 (ya4 c n).bind fun r=>
 some ((r.1==0),r.2)
def yc2(h:Int->Option (ByteArray))(n:Int):Option (ByteArray):=
 if decide (n<0) then
  (h (w64 (0-n))).bind fun r=>
  (chk ((str [45]).size+r.size<=4294967296)).bind fun u=>
  some ((str [45])++r)
 else
  if decide (n<10) then
   (chk ((0:Int)<=n/\ (n:Int)<=(w64 (n+1))/\ (w64 (n+1))<=((str [48,49,50,51,52,53,54,55,56,57]).size:Int))).bind fun d=>
   some ((str [48,49,50,51,52,53,54,55,56,57]).extract n.toNat (w64 (n+1)).toNat)
  else
   (chk ((10:Int)≠0)).bind fun e=>
   (h (w64 (n.tdiv 10))).bind fun a=>
   (chk ((10:Int)≠0)).bind fun f=>
   (chk ((10:Int)≠0)).bind fun g=>
   (chk ((0:Int)<=(n.tmod 10)/\ ((n.tmod 10):Int)<=(w64 ((n.tmod 10)+1))/\ (w64 ((n.tmod 10)+1))<=((str [48,49,50,51,52,53,54,55,56,57]).size:Int))).bind fun b=>
   (chk (a.size+((str [48,49,50,51,52,53,54,55,56,57]).extract (n.tmod 10).toNat (w64 ((n.tmod 10)+1)).toNat).size<=4294967296)).bind fun c=>
   some (a++((str [48,49,50,51,52,53,54,55,56,57]).extract (n.tmod 10).toNat (w64 ((n.tmod 10)+1)).toNat))
def yii:Nat->Int->Option (ByteArray)
 |0=>fun _=>none
 |n+1=>yc2 (yii n)
def yql(n:Int):Option (ByteArray):=yii 4294967296 n
def yet(x:bK)(a:Int):Int->Option (Lp (Int) (Fl (Int) (Unit)))
 |v=>
  if decide (v<(x.bq.length:Int)) then
   (idx x.bq v).bind fun e=>
   if e==a then
    some (.dn (.ret v))
   else
    some (.nx (w64 (v+1)))
  else
   some (.dn (.go ()))
def yjy(x:bK)(a:Int):Option (Int):=
 flb (iter (yet x a) (0:Int)) fun(_:Unit)=>
 some (-1)
def ye6(k:ByteArray)(j:Int):Int×Int×(List UInt8)×Int×Int×(List Int)->Option (Lp (Int×Int×(List UInt8)×Int×Int×(List Int)) ((List UInt8)×Int×Int×(List Int)))
 |(v,c,d,e,f,a)=>
  if decide (0<c) then
   ((yjy (⟨k,a,([]:List Int)⟩:bK) v).bind fun g=>
   if decide (g<0) then
    (chk (a.length+([v]:List Int).length<=4294967296)).bind fun u=>
    some (a++([v]:List Int))
   else
    some a).bind fun(h:List Int)=>
   (ya4 (⟨d,e,(⟨f⟩:IK .u64)⟩:bM) 2).bind fun b=>
   (chk ((j:Int)≠0)).bind fun i=>
   some (.nx (((w64 ((w64 (v+1))+b.1)).tmod j),(w64 (c-1)),b.2.dH,b.2.at_,b.2.dL.v,h))
  else
   some (.dn (d,e,f,a))
def ye5(g:List Int):Int×(List UInt8)×Int×Int×(List Int)->Option (Lp (Int×(List UInt8)×Int×Int×(List Int)) ((List UInt8)×Int×Int×(List Int)))
 |(b,c,d,e,a)=>
  if decide (b<(g.length:Int)) then
   (ya4 (⟨c,d,(⟨e⟩:IK .u64)⟩:bM) 12).bind fun f=>
   (chk (a.length+([(w64 (3+f.1))]:List Int).length<=4294967296)).bind fun h=>
   some (.nx ((w64 (b+1)),f.2.dH,f.2.at_,f.2.dL.v,(a++([(w64 (3+f.1))]:List Int))))
  else
   some (.dn (c,d,e,a))
def yqs(c:bM)(p:ByteArray)(o:Int):Option (bK×bM):=
 (ya4 c o).bind fun r=>
 (ya4 r.2 3).bind fun d=>
 (iter (ye6 p o) (r.1,(w64 (2+d.1)),d.2.dH,d.2.at_,d.2.dL.v,([]:List Int))).bind fun((j,k,l,a):(List UInt8)×Int×Int×(List Int))=>
 (if decide ((a.length:Int)<2) then
  (idx a 0).bind fun i=>
  (chk ((o:Int)≠0)).bind fun m=>
  (chk (a.length+([((w64 (i+1)).tmod o)]:List Int).length<=4294967296)).bind fun n=>
  some (a++([((w64 (i+1)).tmod o)]:List Int))
 else
  some a).bind fun(b:List Int)=>
 (iter (ye5 b) ((1:Int),j,k,l,([]:List Int))).bind fun((e,f,g,h):(List UInt8)×Int×Int×(List Int))=>
 some ((⟨p,b,h⟩:bK),(⟨e,f,(⟨g⟩:IK .u64)⟩:bM))
def ypg(k:ByteArray)(j:Int):Int×Int×(List UInt8)×Int×Int×(List Int)->Option (Lp (Int×Int×(List UInt8)×Int×Int×(List Int)) ((List UInt8)×Int×Int×(List Int)))
 |(v,c,d,e,f,a)=>
  if decide (0<c) then
   ((yjy (⟨k,a,([]:List Int)⟩:bK) v).bind fun g=>
   if decide (g<0) then
    (chk (a.length+([v]:List Int).length<=4294967296)).bind fun u=>
    some (a++([v]:List Int))
   else
    some a).bind fun(h:List Int)=>
   (ya4 (⟨d,e,(⟨f⟩:IK .u64)⟩:bM) 2).bind fun b=>
   (chk ((j:Int)≠0)).bind fun i=>
   some (.nx (((w64 ((w64 (v+1))+b.1)).tmod j),(w64 (c-1)),b.2.dH,b.2.at_,b.2.dL.v,h))
  else
   some (.dn (d,e,f,a))
def ypf(g:List Int):Int×(List UInt8)×Int×Int×(List Int)->Option (Lp (Int×(List UInt8)×Int×Int×(List Int)) ((List UInt8)×Int×Int×(List Int)))
 |(b,c,d,e,a)=>
  if decide (b<(g.length:Int)) then
   (ya4 (⟨c,d,(⟨e⟩:IK .u64)⟩:bM) 12).bind fun f=>
   (chk (a.length+([(w64 (3+f.1))]:List Int).length<=4294967296)).bind fun h=>
   some (.nx ((w64 (b+1)),f.2.dH,f.2.at_,f.2.dL.v,(a++([(w64 (3+f.1))]:List Int))))
  else
   some (.dn (c,d,e,a))
def yqr(c:bM)(p:ByteArray)(o:Int):Option (bK×bM):=
 (ya4 c o).bind fun r=>
 (ya4 r.2 3).bind fun d=>
 (iter (ypg p o) (r.1,(w64 (2+d.1)),d.2.dH,d.2.at_,d.2.dL.v,([]:List Int))).bind fun((j,k,l,a):(List UInt8)×Int×Int×(List Int))=>
 (if decide ((a.length:Int)<2) then
  (idx a 0).bind fun i=>
  (chk ((o:Int)≠0)).bind fun m=>
  (chk (a.length+([((w64 (i+1)).tmod o)]:List Int).length<=4294967296)).bind fun n=>
  some (a++([((w64 (i+1)).tmod o)]:List Int))
 else
  some a).bind fun(b:List Int)=>
 (iter (ypf b) ((1:Int),j,k,l,([]:List Int))).bind fun((e,f,g,h):(List UInt8)×Int×Int×(List Int))=>
 some ((⟨p,b,h⟩:bK),(⟨e,f,(⟨g⟩:IK .u64)⟩:bM))
def ye1(a:List Int):Int×(List Int)->Option (Lp (Int×(List Int)) ((List Int)))
 |(v,i)=>
  if decide (0<=v) then
   (idx a v).bind fun e=>
   (chk (i.length+([e]:List Int).length<=4294967296)).bind fun u=>
   some (.nx ((w64 (v-1)),(i++([e]:List Int))))
  else
   some (.dn i)
def En(b:List Int):Option ((List Int)):=
 (iter (ye1 b) ((w64 ((b.length:Int)-1)),([]:List Int))).bind fun(a:List Int)=>
 some a
def yo4(a:List Int):Int×(List Int)->Option (Lp (Int×(List Int)) ((List Int)))
 |(v,i)=>
  if decide (0<=v) then
   (idx a v).bind fun e=>
   (chk (i.length+([e]:List Int).length<=4294967296)).bind fun u=>
   some (.nx ((w64 (v-1)),(i++([e]:List Int))))
  else
   some (.dn i)
def yie(b:List Int):Option ((List Int)):=
 (iter (yo4 b) ((w64 ((b.length:Int)-1)),([]:List Int))).bind fun(a:List Int)=>
 some a
def yjz(l:List Int):Option ((List Int)):=
 (chk (([]:List Int).length+l.length<=4294967296)).bind fun u=>
 some (([]:List Int)++l)
def ydr(l:List Int):Option ((List Int)):=
 (chk (([]:List Int).length+l.length<=4294967296)).bind fun u=>
 some (([]:List Int)++l)
def yeu(n:bC):Int×(List bK)->Option (Lp (Int×(List bK)) ((List bK)))
 |(v,a)=>
  if decide (v<(n.bG.length:Int)) then
   (idx n.bG v).bind fun b=>
   (idx n.bG v).bind fun e=>
   (ydr e.bq).bind fun c=>
   (idx n.bG v).bind fun f=>
   (ydr f.bY).bind fun d=>
   (chk (a.length+([(⟨b.eH,c,d⟩:bK)]:List bK).length<=4294967296)).bind fun g=>
   some (.nx ((w64 (v+1)),(a++([(⟨b.eH,c,d⟩:bK)]:List bK))))
  else
   some (.dn a)
def ymy(n:bC):Option (bC):=
 (chk (([]:List ByteArray).length+n.bq.length<=4294967296)).bind fun u=>
 (iter (yeu n) ((0:Int),([]:List bK))).bind fun(a:List bK)=>
 some (⟨(([]:List ByteArray)++n.bq),a⟩:bC)
def ypd(r:Int×bM):Int×(List UInt8)×Int×Int×(List bK)->Option (Lp (Int×(List UInt8)×Int×Int×(List bK)) ((List UInt8)×Int×Int×(List bK)))
 |(x,v,c,d,b)=>
  if decide (0<x) then
   (yql x).bind fun e=>
   (chk ((str [108]).size+e.size<=4294967296)).bind fun f=>
   (yqr (⟨v,c,(⟨d⟩:IK .u64)⟩:bM) ((str [108])++e) (w64 (2+r.1))).bind fun a=>
   (chk (b.length+([a.1]:List bK).length<=4294967296)).bind fun g=>
   some (.nx ((w64 (x-1)),a.2.dH,a.2.at_,a.2.dL.v,(b++([a.1]:List bK))))
  else
   some (.dn (v,c,d,b))
def yqq(c:bM):Option (bC×bM):=
 (ya4 c 5).bind fun r=>
 (chk ((0:Int)<=0/\ (0:Int)<=(w64 (2+r.1))/\ (w64 (2+r.1))<=(([(str [112,111,114,116]),(str [109,105,108,108]),(str [112,97,114,107]),(str [104,97,108,108]),(str [100,111,99,107]),(str [102,97,105,114])]:List ByteArray).length:Int))).bind fun u=>
 (ya4 r.2 3).bind fun f=>
 (iter (ypd r) ((w64 (1+f.1)),f.2.dH,f.2.at_,f.2.dL.v,([]:List bK))).bind fun((k,l,m,g):(List UInt8)×Int×Int×(List bK))=>
 ((yc3 (⟨k,l,(⟨m⟩:IK .u64)⟩:bM) 2).bind fun a=>
 if a.1 then
  (idx g 0).bind fun e=>
  (yie e.bq).bind fun j=>
  (yie e.bY).bind fun b=>
  (chk (g.length+([(⟨(str [114,49]),j,b⟩:bK)]:List bK).length<=4294967296)).bind fun q=>
  some (a.2.dH,a.2.at_,a.2.dL.v,(g++([(⟨(str [114,49]),j,b⟩:bK)]:List bK)))
 else
  some (a.2.dH,a.2.at_,a.2.dL.v,g)).bind fun((n,o,h,i):(List UInt8)×Int×Int×(List bK))=>
 (ymy (⟨((([(str [112,111,114,116]),(str [109,105,108,108]),(str [112,97,114,107]),(str [104,97,108,108]),(str [100,111,99,107]),(str [102,97,105,114])]:List ByteArray).take (w64 (2+r.1)).toNat).drop (0:Int).toNat),i⟩:bC)).bind fun d=>
 some ((⟨d.bq,d.bG⟩:bC),(⟨n,o,(⟨h⟩:IK .u64)⟩:bM))
def yip(r:bC×bM):Int×Int×(List UInt8)×Int×Int×(List cZ)->Option (Lp (Int×Int×(List UInt8)×Int×Int×(List cZ)) ((List UInt8)×Int×Int×(List cZ)))
 |(n,v,e,f,g,c)=>
  if decide (0<v) then
   (ya4 (⟨e,f,(⟨g⟩:IK .u64)⟩:bM) 3).bind fun b=>
   (ya4 b.2 (r.1.bG.length:Int)).bind fun d=>
   (ya4 d.2 24).bind fun a=>
   (chk (c.length+([(⟨(w64 ((w64 (n+1))+b.1)),d.1,(w64 (360+(w64 (5*a.1))))⟩:cZ)]:List cZ).length<=4294967296)).bind fun h=>
   some (.nx ((w64 ((w64 (n+1))+b.1)),(w64 (v-1)),a.2.dH,a.2.at_,a.2.dL.v,(c++([(⟨(w64 ((w64 (n+1))+b.1)),d.1,(w64 (360+(w64 (5*a.1))))⟩:cZ)]:List cZ))))
  else
   some (.dn (e,f,g,c))
def yqm(c:bM):Option (bA×bM):=
 (yqq c).bind fun r=>
 (ya4 r.2 8).bind fun a=>
 (iter (yip r) ((0:Int),a.1,a.2.dH,a.2.at_,a.2.dL.v,([]:List cZ))).bind fun((b,d,e,f):(List UInt8)×Int×Int×(List cZ))=>
 some ((⟨(⟨r.1.bq,r.1.bG⟩:bC),f⟩:bA),(⟨b,d,(⟨e⟩:IK .u64)⟩:bM))
def zq92(c:bM)(a:List Int):Option (Int×bM):=
 (ya4 c (a.length:Int)).bind fun r=>
 (idx a r.1).bind fun e=>
 some (e,r.2)
def A9(c:bM)(a:List ByteArray):Option (ByteArray×bM):=
 (ya4 c (a.length:Int)).bind fun r=>
 (idx a r.1).bind fun e=>
 some (e,r.2)
def ym9(c:bM)(a:List ByteArray):Option (ByteArray×bM):=
 (ya4 c (a.length:Int)).bind fun r=>
 (idx a r.1).bind fun e=>
 some (e,r.2)
def yo0(n:bC):Int×(List bK)->Option (Lp (Int×(List bK)) ((List bK)))
 |(v,a)=>
  if decide (v<(n.bG.length:Int)) then
   (idx n.bG v).bind fun b=>
   (idx n.bG v).bind fun e=>
   (yjz e.bq).bind fun c=>
   (idx n.bG v).bind fun f=>
   (yjz f.bY).bind fun d=>
   (chk (a.length+([(⟨b.eH,c,d⟩:bK)]:List bK).length<=4294967296)).bind fun g=>
   some (.nx ((w64 (v+1)),(a++([(⟨b.eH,c,d⟩:bK)]:List bK))))
  else
   some (.dn a)
def ymw(n:bC):Option (bC):=
 (chk (([]:List ByteArray).length+n.bq.length<=4294967296)).bind fun u=>
 (iter (yo0 n) ((0:Int),([]:List bK))).bind fun(a:List bK)=>
 some (⟨(([]:List ByteArray)++n.bq),a⟩:bC)
def ye4(r:Int×bM):Int×(List UInt8)×Int×Int×(List bK)->Option (Lp (Int×(List UInt8)×Int×Int×(List bK)) ((List UInt8)×Int×Int×(List bK)))
 |(x,v,c,d,b)=>
  if decide (0<x) then
   (yql x).bind fun e=>
   (chk ((str [108]).size+e.size<=4294967296)).bind fun f=>
   (yqr (⟨v,c,(⟨d⟩:IK .u64)⟩:bM) ((str [108])++e) (w64 (2+r.1))).bind fun a=>
   (chk (b.length+([a.1]:List bK).length<=4294967296)).bind fun g=>
   some (.nx ((w64 (x-1)),a.2.dH,a.2.at_,a.2.dL.v,(b++([a.1]:List bK))))
  else
   some (.dn (v,c,d,b))
def yqp(c:bM):Option (bC×bM):=
 (ya4 c 5).bind fun r=>
 (chk ((0:Int)<=0/\ (0:Int)<=(w64 (2+r.1))/\ (w64 (2+r.1))<=(([(str [112,111,114,116]),(str [109,105,108,108]),(str [112,97,114,107]),(str [104,97,108,108]),(str [100,111,99,107]),(str [102,97,105,114])]:List ByteArray).length:Int))).bind fun u=>
 (ya4 r.2 3).bind fun f=>
 (iter (ye4 r) ((w64 (1+f.1)),f.2.dH,f.2.at_,f.2.dL.v,([]:List bK))).bind fun((k,l,m,g):(List UInt8)×Int×Int×(List bK))=>
 ((yc3 (⟨k,l,(⟨m⟩:IK .u64)⟩:bM) 2).bind fun a=>
 if a.1 then
  (idx g 0).bind fun e=>
  (yie e.bq).bind fun j=>
  (yie e.bY).bind fun b=>
  (chk (g.length+([(⟨(str [114,49]),j,b⟩:bK)]:List bK).length<=4294967296)).bind fun q=>
  some (a.2.dH,a.2.at_,a.2.dL.v,(g++([(⟨(str [114,49]),j,b⟩:bK)]:List bK)))
 else
  some (a.2.dH,a.2.at_,a.2.dL.v,g)).bind fun((n,o,h,i):(List UInt8)×Int×Int×(List bK))=>
 (ymw (⟨((([(str [112,111,114,116]),(str [109,105,108,108]),(str [112,97,114,107]),(str [104,97,108,108]),(str [100,111,99,107]),(str [102,97,105,114])]:List ByteArray).take (w64 (2+r.1)).toNat).drop (0:Int).toNat),i⟩:bC)).bind fun d=>
 some ((⟨d.bq,d.bG⟩:bC),(⟨n,o,(⟨h⟩:IK .u64)⟩:bM))
def zq93(c:bM)(a:List Int):Option (Int×bM):=
 (ya4 c (a.length:Int)).bind fun r=>
 (idx a r.1).bind fun e=>
 some (e,r.2)
def yg0(r:bC×bM):Int×(List UInt8)×Int×Int×(List bK)->Option (Lp (Int×(List UInt8)×Int×Int×(List bK)) ((List UInt8)×Int×Int×(List bK)))
 |(e,h,i,f,c)=>
  (ya4 (⟨h,i,(⟨f⟩:IK .u64)⟩:bM) 2).bind fun b=>
  (if decide ((c.length:Int)<(w64 (5+b.1))) then some (decide (e<7))else some false).bind fun(g:Bool)=>
  if g then
   (yql e).bind fun d=>
   (chk ((str [120]).size+d.size<=4294967296)).bind fun j=>
   (yqs b.2 ((str [120])++d) (r.1.bq.length:Int)).bind fun a=>
   (chk (c.length+([(⟨a.1.eH,a.1.bq,a.1.bY⟩:bK)]:List bK).length<=4294967296)).bind fun k=>
   some (.nx ((w64 (e+1)),a.2.dH,a.2.at_,a.2.dL.v,(c++([(⟨a.1.eH,a.1.bq,a.1.bY⟩:bK)]:List bK))))
  else
   some (.dn (b.2.dH,b.2.at_,b.2.dL.v,c))
def zq94(c:bM):Option (bC×bM):=
 (yqp c).bind fun r=>
 (ya4 r.2 (r.1.bG.length:Int)).bind fun f=>
 (idx r.1.bG f.1).bind fun e=>
 flb ((ya4 f.2 24).bind fun a=>
 if a.1==0 then
  (ym9 a.2 ([(str [109,105,108,108]),(str []),(str [65]),(str [97,98,99,100,101,102,103,104]),(str [97,98,99,100,101,102,103,104,105])]:List ByteArray)).bind fun h=>
  (idx r.1.bq 0).bind fun z=>
  some (.go (h.2.dH,h.2.at_,h.2.dL.v,e.eH,(r.1.bq.set (0:Int).toNat h.1),r.1.bG,e.bY))
 else
  if a.1==1 then
   (ym9 a.2 ([(str [114,49]),(str [108,49]),(str []),(str [88])]:List ByteArray)).bind fun i=>
   some (.go (i.2.dH,i.2.at_,i.2.dL.v,i.1,r.1.bq,r.1.bG,e.bY))
  else
   if a.1==2 then
    (ya4 a.2 (e.bq.length:Int)).bind fun j=>
    (ya4 j.2 10).bind fun g=>
    (idx e.bq j.1).bind fun A=>
    some (.go (g.2.dH,g.2.at_,g.2.dL.v,e.eH,r.1.bq,(r.1.bG.set f.1.toNat (⟨e.eH,(e.bq.set j.1.toNat (w64 (g.1-1))),e.bY⟩:bK)),((⟨e.eH,(e.bq.set j.1.toNat (w64 (g.1-1))),e.bY⟩:bK).bY)))
   else
    if a.1==3 then
     (ya4 a.2 (e.bY.length:Int)).bind fun d=>
     (zq93 d.2 ([0,60,61,(-1)]:List Int)).bind fun b=>
     (idx e.bY d.1).bind fun B=>
     some (.go (b.2.dH,b.2.at_,b.2.dL.v,e.eH,r.1.bq,(r.1.bG.set f.1.toNat (⟨e.eH,e.bq,(e.bY.set d.1.toNat b.1)⟩:bK)),((⟨e.eH,e.bq,(e.bY.set d.1.toNat b.1)⟩:bK).bY)))
    else
     if a.1==4 then
      (chk (e.bY.length+([3]:List Int).length<=4294967296)).bind fun u=>
      some (.go (a.2.dH,a.2.at_,a.2.dL.v,e.eH,r.1.bq,r.1.bG,(e.bY++([3]:List Int))))
     else
      if a.1==5 then
       some (.ret ((⟨r.1.bq,([]:List bK)⟩:bC),a.2))
      else
       if a.1==6 then
        (iter (yg0 r) ((0:Int),a.2.dH,a.2.at_,a.2.dL.v,r.1.bG)).bind fun((k,l,m,n):(List UInt8)×Int×Int×(List bK))=>
        some (.ret ((⟨r.1.bq,n⟩:bC),(⟨k,l,(⟨m⟩:IK .u64)⟩:bM)))
       else
        some (.go (a.2.dH,a.2.at_,a.2.dL.v,e.eH,r.1.bq,r.1.bG,e.bY))) fun((v,q,s,t,w,o,x):(List UInt8)×Int×Int×ByteArray×(List ByteArray)×(List bK)×(List Int))=>
 (idx o f.1).bind fun y=>
 some ((⟨w,(o.set f.1.toNat (⟨t,y.bq,x⟩:bK))⟩:bC),(⟨v,q,(⟨s⟩:IK .u64)⟩:bM))
def ykz:Int×(List UInt8)×Int×Int×(List cZ)->Option (Lp (Int×(List UInt8)×Int×Int×(List cZ)) ((List UInt8)×Int×Int×(List cZ)))
 |(c,g,d,e,a)=>
  (ya4 (⟨g,d,(⟨e⟩:IK .u64)⟩:bM) 2).bind fun b=>
  (if decide ((a.length:Int)<(w64 (12+b.1))) then some (decide (c<14))else some false).bind fun(f:Bool)=>
  if f then
   (chk (a.length+([(⟨(w64 (100+c)),0,(w64 (400+c))⟩:cZ)]:List cZ).length<=4294967296)).bind fun u=>
   some (.nx ((w64 (c+1)),b.2.dH,b.2.at_,b.2.dL.v,(a++([(⟨(w64 (100+c)),0,(w64 (400+c))⟩:cZ)]:List cZ))))
  else
   some (.dn (b.2.dH,b.2.at_,b.2.dL.v,a))
def zq95(c:bM):Option (bA×bM):=
 (yqm c).bind fun r=>
 if (r.1.bn.length:Int)==0 then
  some ((⟨(⟨r.1.bC.bq,r.1.bC.bG⟩:bC),r.1.bn⟩:bA),r.2)
 else
  (ya4 r.2 (r.1.bn.length:Int)).bind fun d=>
  (idx r.1.bn d.1).bind fun e=>
  flb ((ya4 d.2 24).bind fun a=>
  if a.1==0 then
   (zq92 a.2 ([0,999,1000,2]:List Int)).bind fun f=>
   some (.go (f.2.dH,f.2.at_,f.2.dL.v,r.1.bC.bG,f.1,e.bK,e.d9,r.1.bC.bq))
  else
   if a.1==1 then
    (ya4 a.2 7).bind fun g=>
    some (.go (g.2.dH,g.2.at_,g.2.dL.v,r.1.bC.bG,e.Id,(w64 (g.1-1)),e.d9,r.1.bC.bq))
   else
    if a.1==2 then
     (zq92 a.2 ([(-1),0,1799,1798,1800]:List Int)).bind fun h=>
     some (.go (h.2.dH,h.2.at_,h.2.dL.v,r.1.bC.bG,e.Id,e.bK,h.1,r.1.bC.bq))
    else
     if a.1==3 then
      (zq94 a.2).bind fun b=>
      some (.go (b.2.dH,b.2.at_,b.2.dL.v,b.1.bG,e.Id,e.bK,e.d9,b.1.bq))
     else
      if a.1==4 then
       (iter (ykz) ((0:Int),a.2.dH,a.2.at_,a.2.dL.v,r.1.bn)).bind fun((i,j,k,l):(List UInt8)×Int×Int×(List cZ))=>
       some (.ret ((⟨(⟨r.1.bC.bq,r.1.bC.bG⟩:bC),l⟩:bA),(⟨i,j,(⟨k⟩:IK .u64)⟩:bM)))
      else
       some (.go (a.2.dH,a.2.at_,a.2.dL.v,r.1.bC.bG,e.Id,e.bK,e.d9,r.1.bC.bq))) fun((v,m,n,o,q,s,t,u):(List UInt8)×Int×Int×(List bK)×Int×Int×Int×(List ByteArray))=>
  (idx r.1.bn d.1).bind fun w=>
  some ((⟨(⟨u,o⟩:bC),(r.1.bn.set d.1.toNat (⟨q,s,t⟩:cZ))⟩:bA),(⟨v,m,(⟨n⟩:IK .u64)⟩:bM))
def yj1(a:Int)(b:Int):Option (Int):=
 if decide (b<a) then
  some a
 else
  some b
def yio(g:bC×bM):Int×(List UInt8)×Int×Int×(List cZ)->Option (Lp (Int×(List UInt8)×Int×Int×(List cZ)) ((List UInt8)×Int×Int×(List cZ)))
 |(i,v,e,f,a)=>
  if decide (0<i) then
   (ya4 (⟨v,e,(⟨f⟩:IK .u64)⟩:bM) 2).bind fun c=>
   (ya4 c.2 (g.1.bG.length:Int)).bind fun d=>
   (ya4 d.2 16).bind fun b=>
   (chk (a.length+([(⟨(w64 ((w64 ((a.length:Int)+1))+(w64 ((w64 (2*(a.length:Int)))*c.1)))),d.1,(w64 (360+(w64 (5*b.1))))⟩:cZ)]:List cZ).length<=4294967296)).bind fun h=>
   some (.nx ((w64 (i-1)),b.2.dH,b.2.at_,b.2.dL.v,(a++([(⟨(w64 ((w64 ((a.length:Int)+1))+(w64 ((w64 (2*(a.length:Int)))*c.1)))),d.1,(w64 (360+(w64 (5*b.1))))⟩:cZ)]:List cZ))))
  else
   some (.dn (v,e,f,a))
def yin:Int×(List cZ)->Option (Lp (Int×(List cZ)) ((List cZ)))
 |(x,a)=>
  if decide (x<(a.length:Int)) then
   (idx a x).bind fun e=>
   (idx a (w64 (x-1))).bind fun c=>
   (yj1 e.Id (w64 (c.Id+1))).bind fun b=>
   (idx a x).bind fun d=>
   some (.nx ((w64 (x+1)),(a.set x.toNat (⟨b,e.bK,e.d9⟩:cZ))))
  else
   some (.dn a)
def yj3(c:bM):Option (bA×bM):=
 (yc3 c 16).bind fun r=>
 if r.1 then
  (zq95 r.2).bind fun a=>
  some ((⟨(⟨a.1.bC.bq,a.1.bC.bG⟩:bC),a.1.bn⟩:bA),a.2)
 else
  (yqq r.2).bind fun b=>
  (ya4 b.2 6).bind fun d=>
  (iter (yio b) ((w64 (3+d.1)),d.2.dH,d.2.at_,d.2.dL.v,([]:List cZ))).bind fun((e,f,g,h):(List UInt8)×Int×Int×(List cZ))=>
  (iter (yin) ((1:Int),h)).bind fun(i:List cZ)=>
  some ((⟨(⟨b.1.bq,b.1.bG⟩:bC),i⟩:bA),(⟨e,f,(⟨g⟩:IK .u64)⟩:bM))
def ykw(n:bC)(k:Int):Int×(List UInt8)×Int×Int×(List Int)->Option (Lp (Int×(List UInt8)×Int×Int×(List Int)) ((List UInt8)×Int×Int×(List Int)))
 |(b,d,e,f,c)=>
  if decide (b<(n.bq.length:Int)) then
   (yj1 (w64 (k-b)) (w64 (b-k))).bind fun g=>
   (ya4 (⟨d,e,(⟨f⟩:IK .u64)⟩:bM) 4).bind fun a=>
   (chk (c.length+([(w64 (g*(w64 (2+a.1))))]:List Int).length<=4294967296)).bind fun u=>
   some (.nx ((w64 (b+1)),a.2.dH,a.2.at_,a.2.dL.v,(c++([(w64 (g*(w64 (2+a.1))))]:List Int))))
  else
   some (.dn (d,e,f,c))
def ykv(n:bC):Int×(List UInt8)×Int×Int×(List (List Int))->Option (Lp (Int×(List UInt8)×Int×Int×(List (List Int))) ((List UInt8)×Int×Int×(List (List Int))))
 |(k,v,e,f,b)=>
  if decide (k<(n.bq.length:Int)) then
   (iter (ykw n k) ((0:Int),v,e,f,([]:List Int))).bind fun((g,c,d,a):(List UInt8)×Int×Int×(List Int))=>
   (chk (b.length+([a]:List (List Int)).length<=4294967296)).bind fun h=>
   some (.nx ((w64 (k+1)),g,c,d,(b++([a]:List (List Int)))))
  else
   some (.dn (v,e,f,b))
def zq99(c:bM)(n:bC):Option (bL×bM):=
 (zq93 c ([0,2,5,3]:List Int)).bind fun r=>
 (iter (ykv n) ((0:Int),r.2.dH,r.2.at_,r.2.dL.v,([]:List (List Int)))).bind fun((g,h,i,a):(List UInt8)×Int×Int×(List (List Int)))=>
 ((ya4 (⟨g,h,(⟨i⟩:IK .u64)⟩:bM) 32).bind fun b=>
 if b.1==0 then
  (zq93 b.2 ([30,31,(-1)]:List Int)).bind fun d=>
  some (d.2.dH,d.2.at_,d.2.dL.v,a,d.1)
 else
  if b.1==1 then
   (idx a 0).bind fun e=>
   (idx e 0).bind fun s=>
   some (b.2.dH,b.2.at_,b.2.dL.v,(a.set (0:Int).toNat (e.set (0:Int).toNat 1)),r.1)
  else
   if b.1==2 then
    (idx a 0).bind fun q=>
    (zq93 b.2 ([120,121,(-1)]:List Int)).bind fun f=>
    (idx q (w64 ((n.bq.length:Int)-1))).bind fun t=>
    some (f.2.dH,f.2.at_,f.2.dL.v,(a.set (0:Int).toNat (q.set (w64 ((n.bq.length:Int)-1)).toNat f.1)),r.1)
   else
    if b.1==3 then
     (chk ((0:Int)<=1/\ 1<=(a.length:Int))).bind fun u=>
     some (b.2.dH,b.2.at_,b.2.dL.v,(a.drop (1:Int).toNat),r.1)
    else
     some (b.2.dH,b.2.at_,b.2.dL.v,a,r.1)).bind fun((j,k,l,m,o):(List UInt8)×Int×Int×(List (List Int))×Int)=>
 some ((⟨m,o⟩:bL),(⟨j,k,(⟨l⟩:IK .u64)⟩:bM))
def yqn(c:bM):Option (cB×bM):=
 (ya4 c 3).bind fun r=>
 (ya4 r.2 2).bind fun h=>
 (zq92 h.2 ([40,60,90,120,300]:List Int)).bind fun b=>
 (zq92 b.2 ([0,5,10,20]:List Int)).bind fun i=>
 (zq92 i.2 ([0,10,30]:List Int)).bind fun j=>
 (zq92 j.2 ([90,150,240,500]:List Int)).bind fun d=>
 ((ya4 d.2 24).bind fun a=>
 if a.1==0 then
  (zq92 a.2 ([(-1),900,901]:List Int)).bind fun e=>
  some (e.2.dH,e.2.at_,e.2.dL.v,e.1,b.1,d.1)
 else
  if a.1==1 then
   (zq92 a.2 ([(-1),901,0]:List Int)).bind fun f=>
   some (f.2.dH,f.2.at_,f.2.dL.v,(w64 (r.1*5)),f.1,d.1)
  else
   if a.1==2 then
    (zq92 a.2 ([900,901,0]:List Int)).bind fun g=>
    some (g.2.dH,g.2.at_,g.2.dL.v,(w64 (r.1*5)),b.1,g.1)
   else
    some (a.2.dH,a.2.at_,a.2.dL.v,(w64 (r.1*5)),b.1,d.1)).bind fun((v,k,l,m,n,o):(List UInt8)×Int×Int×Int×Int×Int)=>
 some ((⟨m,(w64 (h.1*5)),n,i.1,j.1,o⟩:cB),(⟨v,k,(⟨l⟩:IK .u64)⟩:bM))
def ybo(x:Int)(a:Int)(b:Int):Option (Bool):=
 (if decide (a<=x) then some (decide (x<=b))else some false).bind fun(v:Bool)=>
 some v
def yc7(s:ByteArray):Int->Option (Lp (Int) (Fl (Bool) (Unit)))
 |a=>
  if decide (a<(s.size:Int)) then
   (chk ((0:Int)<=a/\ a<(s.size:Int))).bind fun c=>
   (if decide (((s.data.toList.getD a.toNat 0).toNat:Int)<97) then(chk ((0:Int)<=a/\ a<(s.size:Int))).bind fun d=>
   if decide (((s.data.toList.getD a.toNat 0).toNat:Int)<48) then some true else(chk ((0:Int)<=a/\ a<(s.size:Int))).bind fun e=>
   some (decide (57<((s.data.toList.getD a.toNat 0).toNat:Int)))else(chk ((0:Int)<=a/\ a<(s.size:Int))).bind fun f=>
   if decide (122<((s.data.toList.getD a.toNat 0).toNat:Int)) then(chk ((0:Int)<=a/\ a<(s.size:Int))).bind fun g=>
   if decide (((s.data.toList.getD a.toNat 0).toNat:Int)<48) then some true else(chk ((0:Int)<=a/\ a<(s.size:Int))).bind fun h=>
   some (decide (57<((s.data.toList.getD a.toNat 0).toNat:Int)))else some false).bind fun(b:Bool)=>
   if b then
    some (.dn (.ret false))
   else
    some (.nx (w64 (a+1)))
  else
   some (.dn (.go ()))
def ymz(s:ByteArray):Option (Bool):=
 (ybo (s.size:Int) 1 8).bind fun r=>
 (if !r then some true else(chk ((0:Int)<=0/\ 0<(s.size:Int))).bind fun u=>
 if decide (((s.data.toList.getD (0:Int).toNat 0).toNat:Int)<97) then some true else(chk ((0:Int)<=0/\ 0<(s.size:Int))).bind fun a=>
 some (decide (122<((s.data.toList.getD (0:Int).toNat 0).toNat:Int)))).bind fun(v:Bool)=>
 if v then
  some false
 else
  flb (iter (yc7 s) (0:Int)) fun(_:Unit)=>
  some true
def ye0(a:List ByteArray)(b:ByteArray):Int->Option (Lp (Int) (Fl (Int) (Unit)))
 |v=>
  if decide (v<(a.length:Int)) then
   (idx a v).bind fun e=>
   if e.toList==b.toList then
    some (.dn (.ret v))
   else
    some (.nx (w64 (v+1)))
  else
   some (.dn (.go ()))
def yqj(a:List ByteArray)(b:ByteArray):Option (Int):=
 flb (iter (ye0 a b) (0:Int)) fun(_:Unit)=>
 some (-1)
def yex(x:bK)(g:Int):Int->Option (Lp (Int) (Fl (Bool) (Unit)))
 |a=>
  if decide (a<(x.bq.length:Int)) then
   (idx x.bq a).bind fun b=>
   (ybo b 0 (w64 (g-1))).bind fun c=>
   (if !c then some true else(idx x.bq a).bind fun d=>
   (yjy x d).bind fun e=>
   some (e !=a)).bind fun(f:Bool)=>
   if f then
    some (.dn (.ret false))
   else
    some (.nx (w64 (a+1)))
  else
   some (.dn (.go ()))
def yew(x:bK):Int->Option (Lp (Int) (Fl (Bool) (Unit)))
 |a=>
  if decide (a<(x.bY.length:Int)) then
   (idx x.bY a).bind fun b=>
   (ybo b 1 60).bind fun c=>
   if !c then
    some (.dn (.ret false))
   else
    some (.nx (w64 (a+1)))
  else
   some (.dn (.go ()))
def yqi(x:bK)(b:Int):Option (Bool):=
 (ymz x.eH).bind fun r=>
 (if !r then some true else(ybo (x.bq.length:Int) 2 6).bind fun a=>
 if !a then some true else some ((x.bY.length:Int)!=(w64 ((x.bq.length:Int)-1)))).bind fun(v:Bool)=>
 if v then
  some false
 else
  flb (iter (yex x b) (0:Int)) fun(_:Unit)=>
  flb (iter (yew x) (0:Int)) fun(_:Unit)=>
  some true
def yev(n:bC)(a:ByteArray):Int->Option (Lp (Int) (Fl (Int) (Unit)))
 |v=>
  if decide (v<(n.bG.length:Int)) then
   (idx n.bG v).bind fun e=>
   if e.eH.toList==a.toList then
    some (.dn (.ret v))
   else
    some (.nx (w64 (v+1)))
  else
   some (.dn (.go ()))
def ym0(n:bC)(a:ByteArray):Option (Int):=
 flb (iter (yev n a) (0:Int)) fun(_:Unit)=>
 some (-1)
def yez(n:bC):Int->Option (Lp (Int) (Fl (Bool) (Unit)))
 |i=>
  if decide (i<(n.bq.length:Int)) then
   (idx n.bq i).bind fun a=>
   (ymz a).bind fun b=>
   (if !b then some true else(idx n.bq i).bind fun c=>
   (yqj n.bq c).bind fun d=>
   some (d !=i)).bind fun(e:Bool)=>
   if e then
    some (.dn (.ret false))
   else
    some (.nx (w64 (i+1)))
  else
   some (.dn (.go ()))
def yey(n:bC):Int->Option (Lp (Int) (Fl (Bool) (Unit)))
 |a=>
  if decide (a<(n.bG.length:Int)) then
   (idx n.bG a).bind fun c=>
   (yqi c (n.bq.length:Int)).bind fun d=>
   (if !d then some true else(idx n.bG a).bind fun e=>
   (ym0 n e.eH).bind fun b=>
   some (b !=a)).bind fun(f:Bool)=>
   if f then
    some (.dn (.ret false))
   else
    some (.nx (w64 (a+1)))
  else
   some (.dn (.go ()))
def ym1(n:bC):Option (Bool):=
 (ybo (n.bq.length:Int) 2 8).bind fun r=>
 (if !r then some true else(ybo (n.bG.length:Int) 1 5).bind fun a=>
 some (!a)).bind fun(v:Bool)=>
 if v then
  some false
 else
  flb (iter (yez n) (0:Int)) fun(_:Unit)=>
  flb (iter (yey n) (0:Int)) fun(_:Unit)=>
  some true
def yge(t:Int):Option (Bool):=
 (ybo t 0 1799).bind fun r=>
 some r
def yms(t:bA)(i:Int):Option (bK):=
 (idx t.bn i).bind fun a=>
 (idx t.bC.bG a.bK).bind fun b=>
 some b
def yjw(t:bA)(i:Int):Option ((List Int)):=
 (yms t i).bind fun r=>
 some r.bq
def yh8(x:bK)(b:Int):Int×Int->Option (Lp (Int×Int) (Int))
 |(v,a)=>
  if decide (a<b) then
   (idx x.bY a).bind fun e=>
   some (.nx ((w64 (v+e)),(w64 (a+1))))
  else
   some (.dn v)
def yjx(x:bK)(b:Int)(c:Int):Option (Int):=
 (iter (yh8 x c) ((0:Int),b)).bind fun(a:Int)=>
 some a
def yqh(t:bA)(i:Int)(k:Int):Option (Int):=
 (idx t.bn i).bind fun a=>
 (yms t i).bind fun b=>
 (yjx b 0 k).bind fun c=>
 some (w64 (a.d9+c))
def yft(t:bA)(i:Int):Option (Int):=
 (yjw t i).bind fun a=>
 (yqh t i (w64 ((a.length:Int)-1))).bind fun b=>
 some b
def yh4(t:bA):Int->Option (Lp (Int) (Fl (Bool) (Unit)))
 |x=>
  if decide (x<(t.bn.length:Int)) then
   (idx t.bn x).bind fun e=>
   (ybo e.Id 1 999).bind fun b=>
   (if !b then some true else(ybo e.bK 0 (w64 ((t.bC.bG.length:Int)-1))).bind fun c=>
   if !c then some true else(yge e.d9).bind fun d=>
   if !d then some true else(yft t x).bind fun f=>
   (yge f).bind fun a=>
   if !a then some true else if decide (0<x) then(idx t.bn (w64 (x-1))).bind fun g=>
   some (decide (e.Id<=g.Id))else some false).bind fun(h:Bool)=>
   if h then
    some (.dn (.ret false))
   else
    some (.nx (w64 (x+1)))
  else
   some (.dn (.go ()))
def ymt(t:bA):Option (Bool):=
 (ym1 t.bC).bind fun r=>
 (if !r then some true else some (decide (12<(t.bn.length:Int)))).bind fun(v:Bool)=>
 if v then
  some false
 else
  flb (iter (yh4 t) (0:Int)) fun(_:Unit)=>
  some true
def yhb(f:bL)(b:Int):Int->Option (Lp (Int) (Fl (Lp (Int) (Fl (Bool) (Unit))) (Unit)))
 |a=>
  (idx f.dR b).bind fun c=>
  if decide (a<(c.length:Int)) then
   (idx f.dR b).bind fun d=>
   (idx d a).bind fun e=>
   (ybo e 0 120).bind fun g=>
   if !g then
    some (.dn (.ret (.dn (.ret false))))
   else
    some (.nx (w64 (a+1)))
  else
   some (.dn (.go ()))
def ylg(n:bC)(f:bL):Int->Option (Lp (Int) (Fl (Bool) (Unit)))
 |a=>
  if decide (a<(f.dR.length:Int)) then
   (idx f.dR a).bind fun b=>
   (if (b.length:Int)!=(n.bq.length:Int) then some true else(idx f.dR a).bind fun c=>
   (idx c a).bind fun d=>
   some (d !=0)).bind fun(e:Bool)=>
   if e then
    some (.dn (.ret false))
   else
    flb (iter (yhb f a) (0:Int)) fun(_:Unit)=>
    some (.nx (w64 (a+1)))
  else
   some (.dn (.go ()))
def zq65(n:bC)(f:bL):Option (Bool):=
 (ym1 n).bind fun r=>
 (if !r then some true else if (f.dR.length:Int)!=(n.bq.length:Int) then some true else(ybo f.gV 0 30).bind fun a=>
 some (!a)).bind fun(v:Bool)=>
 if v then
  some false
 else
  flb (iter (ylg n f) (0:Int)) fun(_:Unit)=>
  some true
def zq60(t:bA)(f:bL):Option (Bool):=
 (ymt t).bind fun r=>
 (if r then(zq65 t.bC f).bind fun a=>
 some a else some false).bind fun(v:Bool)=>
 some v
def zq64(t:bA)(f:bL)(a:Int)(b:Int):Option (Int):=
 (yjw t a).bind fun c=>
 (yjw t b).bind fun d=>
 (idx c (w64 ((c.length:Int)-1))).bind fun e=>
 (idx f.dR e).bind fun g=>
 (idx d 0).bind fun h=>
 (idx g h).bind fun i=>
 some i
def zq66(t:bA)(f:bL)(a:Int)(b:Int):Option (Bool):=
 (if a !=b then(idx t.bn b).bind fun c=>
 (yft t a).bind fun d=>
 (zq64 t f a b).bind fun e=>
 some (decide ((w64 ((w64 (d+f.gV))+e))<=c.d9))else some false).bind fun(v:Bool)=>
 some v
def yj2(a:Int)(b:Int):Option (Int):=
 if decide (a<b) then
  some a
 else
  some b
def yle(n:kr->Int->Int->Option (Int×(List (List Int))))(x:kr)(i:Int)(m:Int):Int×Int×(List (List Int))->Option (Lp (Int×Int×(List (List Int))) (Int×(List (List Int))))
 |(v,a,b)=>
  if decide (a<(x.t_.bn.length:Int)) then
   ((chk ((0:Int)<=(IntKind.u64.wrap (a)))).bind fun k=>
   (if (IntKind.i64.wrap ((BitVec.ofInt (IntKind.i64).bits (m.fdiv (2^(min ((IntKind.u64.wrap (a)):Int).toNat (IntKind.i64).bits)))&&&BitVec.ofInt (IntKind.i64).bits 1).toNat:Int))==0 then(zq66 x.t_ x.f_ a i).bind fun d=>
   some d else some false).bind fun(e:Bool)=>
   if e then
    (zq64 x.t_ x.f_ a i).bind fun f=>
    (chk ((0:Int)<=(IntKind.u64.wrap (a)))).bind fun l=>
    (n (⟨x.t_,x.f_,b⟩:kr) (w64 (i+1)) (IntKind.i64.wrap ((BitVec.ofInt (IntKind.i64).bits m|||BitVec.ofInt (IntKind.i64).bits (w64 (1*2^(min ((IntKind.u64.wrap (a)):Int).toNat (IntKind.i64).bits)))).toNat:Int))).bind fun c=>
    (yj2 v (w64 (f+c.1))).bind fun g=>
    some (g,c.2)
   else
    some (v,b)).bind fun((h,j):Int×(List (List Int)))=>
   some (.nx (h,(w64 (a+1)),j))
  else
   some (.dn (v,b))
def yfg(k:kr->Int->Int->Option (Int×(List (List Int))))(x:kr)(i:Int)(j:Int):Option (Int×(List (List Int))):=
 if i==(x.t_.bn.length:Int) then
  some (0,x.iG)
 else
  (idx x.iG i).bind fun e=>
  (idx e j).bind fun d=>
  if decide (0<=d) then
   (idx x.iG i).bind fun g=>
   (idx e j).bind fun f=>
   some (f,x.iG)
  else
   (k (⟨x.t_,x.f_,x.iG⟩:kr) (w64 (i+1)) j).bind fun r=>
   (iter (yle k x i j) ((w64 (100000+r.1)),(0:Int),r.2)).bind fun((a,b):Int×(List (List Int)))=>
   (idx b i).bind fun c=>
   (idx c j).bind fun h=>
   some (a,(b.set i.toNat (c.set j.toNat a)))
def yjp:Nat->kr->Int->Int->Option (Int×(List (List Int)))
 |0=>fun _ _ _=>none
 |n+1=>yfg (yjp n)
def zq68(x:kr)(i:Int)(a:Int):Option (Int×(List (List Int))):=yjp 4294967296 x i a
def yll:Int×(List Int)->Option (Lp (Int×(List Int)) ((List Int)))
 |(a,out)=>
  if decide (a<(out.length:Int)) then
   (idx out a).bind fun e=>
   some (.nx ((w64 (a+1)),(out.set a.toNat (-1))))
  else
   some (.dn out)
def ylk(t:bA):Int×(List (List Int))->Option (Lp (Int×(List (List Int))) ((List (List Int))))
 |(k,v)=>
  if decide (k<(t.bn.length:Int)) then
   (chk ((0:Int)<=(IntKind.u64.wrap ((t.bn.length:Int))))).bind fun u=>
   (chk ((0:Int)<=(w64 (1*2^(min ((IntKind.u64.wrap ((t.bn.length:Int))):Int).toNat (IntKind.i64).bits)))/\ ((w64 (1*2^(min ((IntKind.u64.wrap ((t.bn.length:Int))):Int).toNat (IntKind.i64).bits))):Int)<=4294967296)).bind fun a=>
   (iter (yll) ((0:Int),(List.replicate (w64 (1*2^(min ((IntKind.u64.wrap ((t.bn.length:Int))):Int).toNat (IntKind.i64).bits))).toNat (0:Int)))).bind fun(c:List Int)=>
   (chk (v.length+([c]:List (List Int)).length<=4294967296)).bind fun b=>
   some (.nx ((w64 (k+1)),(v++([c]:List (List Int)))))
  else
   some (.dn v)
def ylj(t:bA)(f:bL)(p:Int)(o:Int)(r:Int×(List (List Int))):Int×Int×(List (List Int))->Option (Lp (Int×Int×(List (List Int))) (Int×(List (List Int))))
 |(d,a,c)=>
  (if decide (a<(t.bn.length:Int)) then some (decide (d<0))else some false).bind fun(i:Bool)=>
  if i then
   ((chk ((0:Int)<=(IntKind.u64.wrap (a)))).bind fun m=>
   (if (IntKind.i64.wrap ((BitVec.ofInt (IntKind.i64).bits (p.fdiv (2^(min ((IntKind.u64.wrap (a)):Int).toNat (IntKind.i64).bits)))&&&BitVec.ofInt (IntKind.i64).bits 1).toNat:Int))==0 then(zq66 t f a o).bind fun j=>
   if j then(zq64 t f a o).bind fun k=>
   (chk ((0:Int)<=(IntKind.u64.wrap (a)))).bind fun n=>
   (zq68 (⟨t,f,c⟩:kr) (w64 (o+1)) (IntKind.i64.wrap ((BitVec.ofInt (IntKind.i64).bits p|||BitVec.ofInt (IntKind.i64).bits (w64 (1*2^(min ((IntKind.u64.wrap (a)):Int).toNat (IntKind.i64).bits)))).toNat:Int))).bind fun h=>
   some (((w64 (k+h.1))==r.1),h.2)else some (false,c)else some (false,c)).bind fun((e,b):Bool×(List (List Int)))=>
   if e then
    some (a,b)
   else
    some (d,b)).bind fun((l,g):Int×(List (List Int)))=>
   some (.nx (l,(w64 (a+1)),g))
  else
   some (.dn (d,c))
def yli(t:bA)(f:bL):Int×Int×(List Int)×(List (List Int))->Option (Lp (Int×Int×(List Int)×(List (List Int))) ((List Int)))
 |(l,k,i,e)=>
  if decide (k<(t.bn.length:Int)) then
   (zq68 (⟨t,f,e⟩:kr) k l).bind fun r=>
   ((zq68 (⟨t,f,r.2⟩:kr) (w64 (k+1)) l).bind fun b=>
   if (w64 (100000+b.1))!=r.1 then
    (iter (ylj t f l k r) (((-1):Int),(0:Int),b.2)).bind fun((a,c):Int×(List (List Int)))=>
    (chk ((0:Int)<=(IntKind.u64.wrap (a)))).bind fun h=>
    some ((IntKind.i64.wrap ((BitVec.ofInt (IntKind.i64).bits l|||BitVec.ofInt (IntKind.i64).bits (w64 (1*2^(min ((IntKind.u64.wrap (a)):Int).toNat (IntKind.i64).bits)))).toNat:Int)),a,c)
   else
    some (l,((-1):Int),b.2)).bind fun((m,d,g):Int×Int×(List (List Int)))=>
   (chk (i.length+([d]:List Int).length<=4294967296)).bind fun j=>
   some (.nx (m,(w64 (k+1)),(i++([d]:List Int)),g))
  else
   some (.dn i)
def zq61(t:bA)(f:bL):Option ((List Int)):=
 (iter (ylk t) ((0:Int),([]:List (List Int)))).bind fun(a:List (List Int))=>
 (iter (yli t f) ((0:Int),(0:Int),([]:List Int),a)).bind fun(b:List Int)=>
 some b
def yhe(d:List Int)(k:Int):Int×Int->Option (Lp (Int×Int) (Int))
 |(v,a)=>
  if decide (a<(d.length:Int)) then
   ((idx d a).bind fun b=>
   if b==k then
    some a
   else
    some v).bind fun(c:Int)=>
   some (.nx (c,(w64 (a+1))))
  else
   some (.dn v)
def yhd(t:bA)(c:List Int):Int×(List Int)->Option (Lp (Int×(List Int)) ((List Int)))
 |(k,next)=>
  if decide (0<=k) then
   (idx t.bn k).bind fun a=>
   (chk (next.length+([a.Id]:List Int).length<=4294967296)).bind fun u=>
   (iter (yhe c k) (((-1):Int),(0:Int))).bind fun(b:Int)=>
   some (.nx (b,(next++([a.Id]:List Int))))
  else
   some (.dn next)
def ylh(t:bA)(b:List Int):Int×(List (List Int))->Option (Lp (Int×(List (List Int))) ((List (List Int))))
 |(at_,block)=>
  if decide (at_<(b.length:Int)) then
   ((idx b at_).bind fun e=>
   if decide (0<=e) then
    some block
   else
    (iter (yhd t b) (at_,([]:List Int))).bind fun(c:List Int)=>
    (chk (block.length+([c]:List (List Int)).length<=4294967296)).bind fun a=>
    some (block++([c]:List (List Int)))).bind fun(d:List (List Int))=>
   some (.nx ((w64 (at_+1)),d))
  else
   some (.dn block)
def zq63(t:bA)(a:List Int):Option ((List (List Int))):=
 (iter (ylh t a) ((0:Int),([]:List (List Int)))).bind fun(b:List (List Int))=>
 some b
def zq97(c:bM):Option (bA×bL×(List (List Int))×cB×bM):=
 (yj3 c).bind fun r=>
 ((if decide (6<(r.1.bn.length:Int)) then(yc3 r.2 10).bind fun d=>
 some ((!d.1),d.2.dH,d.2.at_,d.2.dL.v)else some (false,r.2.dH,r.2.at_,r.2.dL.v)).bind fun((i,f,g,h):Bool×(List UInt8)×Int×Int)=>
 if i then
  (chk ((0:Int)<=0/\ (0:Int)<=(6:Int)/\ (6:Int)<=(r.1.bn.length:Int))).bind fun u=>
  some (f,g,h,((r.1.bn.take (6:Int).toNat).drop (0:Int).toNat))
 else
  some (f,g,h,r.1.bn)).bind fun((v,j,k,a):(List UInt8)×Int×Int×(List cZ))=>
 (zq99 (⟨v,j,(⟨k⟩:IK .u64)⟩:bM) r.1.bC).bind fun b=>
 (yqn b.2).bind fun e=>
 (zq60 (⟨r.1.bC,a⟩:bA) b.1).bind fun l=>
 (if !l then some true else some (decide (9<(a.length:Int)))).bind fun(m:Bool)=>
 if m then
  some ((⟨r.1.bC,a⟩:bA),b.1,([]:List (List Int)),e.1,e.2)
 else
  (zq61 (⟨r.1.bC,a⟩:bA) b.1).bind fun n=>
  (zq63 (⟨r.1.bC,a⟩:bA) n).bind fun o=>
  some ((⟨r.1.bC,a⟩:bA),b.1,o,e.1,e.2)
def yes(t:bA)(id:Int):Int->Option (Lp (Int) (Fl (Int) (Unit)))
 |v=>
  if decide (v<(t.bn.length:Int)) then
   (idx t.bn v).bind fun e=>
   if e.Id==id then
    some (.dn (.ret v))
   else
    some (.nx (w64 (v+1)))
  else
   some (.dn (.go ()))
def ycs(t:bA)(id:Int):Option (Int):=
 flb (iter (yes t id) (0:Int)) fun(_:Unit)=>
 some (-1)
def ye3(l:List Int)(n:Int):Int->Option (Lp (Int) (Fl (Bool) (Unit)))
 |v=>
  if decide (v<(l.length:Int)) then
   (idx l v).bind fun e=>
   if e==n then
    some (.dn (.ret true))
   else
    some (.nx (w64 (v+1)))
  else
   some (.dn (.go ()))
def yfw(l:List Int)(n:Int):Option (Bool):=
 flb (iter (ye3 l n) (0:Int)) fun(_:Unit)=>
 some false
def ybj(t:bA)(f:bL)(m:List (List Int))(v:Int):Int×(List Int)->Option (Lp (Int×(List Int)) (Fl (Lp (Int×(List Int)) (Fl (Bool) ((List Int)))) ((List Int))))
 |(a,n)=>
  (idx m v).bind fun c=>
  if decide (a<(c.length:Int)) then
   (idx m v).bind fun d=>
   (idx d a).bind fun e=>
   (ycs t e).bind fun b=>
   (if decide (b<0) then some true else(yfw n b).bind fun i=>
   if i then some true else if decide (0<a) then(idx m v).bind fun g=>
   (idx g (w64 (a-1))).bind fun h=>
   (ycs t h).bind fun j=>
   (zq66 t f j b).bind fun k=>
   some (!k)else some false).bind fun(l:Bool)=>
   if l then
    some (.dn (.ret (.dn (.ret false))))
   else
    (chk (n.length+([b]:List Int).length<=4294967296)).bind fun u=>
    some (.nx ((w64 (a+1)),(n++([b]:List Int))))
  else
   some (.dn (.go n))
def ybi(t:bA)(f:bL)(h:List (List Int)):Int×(List Int)->Option (Lp (Int×(List Int)) (Fl (Bool) ((List Int))))
 |(v,at_)=>
  if decide (v<(h.length:Int)) then
   (idx h v).bind fun a=>
   (if (a.length:Int)==0 then some true else if decide (0<v) then(idx h (w64 (v-1))).bind fun b=>
   (idx b 0).bind fun c=>
   (idx h v).bind fun d=>
   (idx d 0).bind fun e=>
   some (decide (e<=c))else some false).bind fun(g:Bool)=>
   if g then
    some (.dn (.ret false))
   else
    flb (iter (ybj t f h v) ((0:Int),at_)) fun(i:List Int)=>
    some (.nx ((w64 (v+1)),i))
  else
   some (.dn (.go at_))
def zq62(t:bA)(f:bL)(a:List (List Int)):Option (Bool):=
 flb (iter (ybi t f a) ((0:Int),([]:List Int))) fun(b:List Int)=>
 some ((b.length:Int)==(t.bn.length:Int))
def zq70(t:bA)(f:bL)(b:List (List Int)):Option (Bool):=
 (zq60 t f).bind fun r=>
 (if r then(zq62 t f b).bind fun a=>
 some a else some false).bind fun(v:Bool)=>
 some v
def zq75(x:Int):Option (Bool):=
 (ybo x 0 900).bind fun r=>
 some r
def zq79(r:cB):Option (Bool):=
 (zq75 r.iU).bind fun a=>
 (if a then(zq75 r.iV).bind fun b=>
 if b then(zq75 r.jV).bind fun c=>
 if c then(zq75 r.jM).bind fun d=>
 if d then(zq75 r.jd).bind fun e=>
 if e then(zq75 r.kP).bind fun f=>
 some f else some false else some false else some false else some false else some false).bind fun(v:Bool)=>
 some v
def zq69(t:bA)(f:bL)(c:List (List Int))(r:cB):Option (Bool):=
 (zq70 t f c).bind fun a=>
 (if a then(zq79 r).bind fun b=>
 some b else some false).bind fun(v:Bool)=>
 some v
def yqo(c:bM)(l:List (List Int)):Option ((List Int)×bM):=
 if (l.length:Int)==0 then
  some (([1]:List Int),c)
 else
  (ya4 c (l.length:Int)).bind fun r=>
  (idx l r.1).bind fun e=>
  if (e.length:Int)==0 then
   some (([]:List Int),r.2)
  else
   (ya4 r.2 (e.length:Int)).bind fun a=>
   (ya4 a.2 (w64 ((e.length:Int)-a.1))).bind fun f=>
   (chk ((0:Int)<=a.1/\ (a.1:Int)<=(w64 ((w64 (a.1+1))+f.1))/\ (w64 ((w64 (a.1+1))+f.1))<=(e.length:Int))).bind fun u=>
   (yjz ((e.take (w64 ((w64 (a.1+1))+f.1)).toNat).drop a.1.toNat)).bind fun g=>
   ((yc3 f.2 10).bind fun b=>
   if b.1 then
    (ya4 b.2 9).bind fun d=>
    (chk (g.length+([d.1]:List Int).length<=4294967296)).bind fun k=>
    some (d.2.dH,d.2.at_,d.2.dL.v,(g++([d.1]:List Int)))
   else
    some (b.2.dH,b.2.at_,b.2.dL.v,g)).bind fun((v,h,i,j):(List UInt8)×Int×Int×(List Int))=>
   some (j,(⟨v,h,(⟨i⟩:IK .u64)⟩:bM))
def yha(d:List (List Int))(id:Int)(v:Int):Int->Option (Lp (Int) (Fl (Lp (Int) (Fl (Int×Int) (Unit))) (Unit)))
 |a=>
  (idx d v).bind fun e=>
  if decide (a<(e.length:Int)) then
   (idx d v).bind fun b=>
   (idx b a).bind fun c=>
   if c==id then
    some (.dn (.ret (.dn (.ret (v,a)))))
   else
    some (.nx (w64 (a+1)))
  else
   some (.dn (.go ()))
def yg9(a:List (List Int))(id:Int):Int->Option (Lp (Int) (Fl (Int×Int) (Unit)))
 |v=>
  if decide (v<(a.length:Int)) then
   flb (iter (yha a id v) (0:Int)) fun(_:Unit)=>
   some (.nx (w64 (v+1)))
  else
   some (.dn (.go ()))
def zq67(a:List (List Int))(id:Int):Option (Int×Int):=
 flb (iter (yg9 a id) (0:Int)) fun(_:Unit)=>
 some ((-1),(-1))
def yc8(a:List Int)(b:List Int):Int->Option (Lp (Int) (Fl (Bool) (Unit)))
 |v=>
  if decide (v<(a.length:Int)) then
   (idx a v).bind fun c=>
   (idx b v).bind fun d=>
   if c !=d then
    some (.dn (.ret false))
   else
    some (.nx (w64 (v+1)))
  else
   some (.dn (.go ()))
def yqk(a:List Int)(b:List Int):Option (Bool):=
 if (a.length:Int)!=(b.length:Int) then
  some false
 else
  flb (iter (yc8 a b) (0:Int)) fun(_:Unit)=>
  some true
def zq77(f:List (List Int))(d:List Int):Option (Bool):=
 if (d.length:Int)==0 then
  some false
 else
  (idx d 0).bind fun e=>
  (zq67 f e).bind fun r=>
  (if decide (r.1<0) then some true else(idx f r.1).bind fun b=>
  some (decide ((b.length:Int)<(w64 (r.2+(d.length:Int)))))).bind fun(v:Bool)=>
  if v then
   some false
  else
   (idx f r.1).bind fun a=>
   (chk ((0:Int)<=r.2/\ (r.2:Int)<=(w64 (r.2+(d.length:Int)))/\ (w64 (r.2+(d.length:Int)))<=(a.length:Int))).bind fun u=>
   (yqk ((a.take (w64 (r.2+(d.length:Int))).toNat).drop r.2.toNat) d).bind fun c=>
   some c
def zq80(t:bA)(d:List Int):Option (Int):=
 (idx d 0).bind fun a=>
 (ycs t a).bind fun b=>
 (idx t.bn b).bind fun c=>
 some c.d9
def yky(g:List (List Int)):Int×(List UInt8)×Int×Int×(List (List Int))->Option (Lp (Int×(List UInt8)×Int×Int×(List (List Int))) ((List UInt8)×Int×Int×(List (List Int))))
 |(b,v,d,e,c)=>
  if decide (0<b) then
   (yqo (⟨v,d,(⟨e⟩:IK .u64)⟩:bM) g).bind fun a=>
   (chk (c.length+([a.1]:List (List Int)).length<=4294967296)).bind fun f=>
   some (.nx ((w64 (b-1)),a.2.dH,a.2.at_,a.2.dL.v,(c++([a.1]:List (List Int)))))
  else
   some (.dn (v,d,e,c))
def ykx(t:bA)(p:List (List Int)):Int×(List (List Int))->Option (Lp (Int×(List (List Int))) ((List (List Int))))
 |(a,b)=>
  (if decide (a<(b.length:Int)) then(ymt t).bind fun n=>
  some n else some false).bind fun(e:Bool)=>
  if e then
   ((idx b (w64 (a-1))).bind fun d=>
   (idx b a).bind fun c=>
   (zq77 p d).bind fun f=>
   (if f then(zq77 p c).bind fun g=>
   if g then(idx d 0).bind fun o=>
   (ycs t o).bind fun h=>
   if decide (0<=h) then(idx c 0).bind fun q=>
   (ycs t q).bind fun i=>
   if decide (0<=i) then(zq80 t c).bind fun j=>
   (zq80 t d).bind fun k=>
   some (decide (j<k))else some false else some false else some false else some false).bind fun(l:Bool)=>
   if l then
    (idx b (w64 (a-1))).bind fun r=>
    (idx (b.set (w64 (a-1)).toNat c) a).bind fun s=>
    some ((b.set (w64 (a-1)).toNat c).set a.toNat d)
   else
    some b).bind fun(m:List (List Int))=>
   some (.nx ((w64 (a+1)),m))
  else
   some (.dn b)
def zq98(c:bM)(t:bA)(l:List (List Int)):Option (bB×bM):=
 (zq92 c ([1,1,2,2,3,4]:List Int)).bind fun r=>
 (iter (yky l) (r.1,r.2.dH,r.2.at_,r.2.dL.v,([]:List (List Int)))).bind fun((h,i,j,k):(List UInt8)×Int×Int×(List (List Int)))=>
 (iter (ykx t l) ((1:Int),k)).bind fun(b:List (List Int))=>
 ((yc3 (⟨h,i,(⟨j⟩:IK .u64)⟩:bM) 24).bind fun a=>
 if a.1 then
  some (a.2.dH,a.2.at_,a.2.dL.v,([]:List (List Int)))
 else
  some (a.2.dH,a.2.at_,a.2.dL.v,b)).bind fun((d,e,f,g):(List UInt8)×Int×Int×(List (List Int)))=>
 some ((⟨g⟩:bB),(⟨d,e,(⟨f⟩:IK .u64)⟩:bM))
def yg2(t:bA)(f:List (List Int))(cut:Int):Int->Option (Lp (Int) (Fl (Bool) (Unit)))
 |v=>
  if decide (v<(f.length:Int)) then
   (idx f v).bind fun b=>
   (idx f v).bind fun c=>
   (idx b (w64 ((c.length:Int)-1))).bind fun d=>
   (ycs t d).bind fun a=>
   (chk ((0:Int)<=(IntKind.u64.wrap (a)))).bind fun e=>
   if (IntKind.i64.wrap ((BitVec.ofInt (IntKind.i64).bits (cut.fdiv (2^(min ((IntKind.u64.wrap (a)):Int).toNat (IntKind.i64).bits)))&&&BitVec.ofInt (IntKind.i64).bits 1).toNat:Int))==1 then
    some (.dn (.ret false))
   else
    some (.nx (w64 (v+1)))
  else
   some (.dn (.go ()))
def zq83(t:bA)(a:List (List Int))(cut:Int):Option (Bool):=
 (chk ((0:Int)<=(IntKind.u64.wrap ((t.bn.length:Int))))).bind fun u=>
 (ybo cut 0 (w64 ((w64 (1*2^(min ((IntKind.u64.wrap ((t.bn.length:Int))):Int).toNat (IntKind.i64).bits)))-1))).bind fun r=>
 if !r then
  some false
 else
  flb (iter (yg2 t a cut) (0:Int)) fun(_:Unit)=>
  some true
def yg1(t:bA)(p:List (List Int))(cut:Int)(v:Int):Int×(List (List Int))×(List Int)->Option (Lp (Int×(List (List Int))×(List Int)) ((List (List Int))))
 |(a,b,c)=>
  (idx p v).bind fun e=>
  if decide (a<(e.length:Int)) then
   ((idx p v).bind fun g=>
   (idx g a).bind fun d=>
   (chk (c.length+([d]:List Int).length<=4294967296)).bind fun u=>
   (idx p v).bind fun h=>
   (if a==(w64 ((h.length:Int)-1)) then some true else(idx p v).bind fun i=>
   (idx i a).bind fun j=>
   (ycs t j).bind fun f=>
   (chk ((0:Int)<=(IntKind.u64.wrap (f)))).bind fun n=>
   some ((IntKind.i64.wrap ((BitVec.ofInt (IntKind.i64).bits (cut.fdiv (2^(min ((IntKind.u64.wrap (f)):Int).toNat (IntKind.i64).bits)))&&&BitVec.ofInt (IntKind.i64).bits 1).toNat:Int))==1)).bind fun(k:Bool)=>
   if k then
    (chk (b.length+([(c++([d]:List Int))]:List (List Int)).length<=4294967296)).bind fun o=>
    some ((b++([(c++([d]:List Int))]:List (List Int))),([]:List Int))
   else
    some (b,(c++([d]:List Int)))).bind fun((l,m):(List (List Int))×(List Int))=>
   some (.nx ((w64 (a+1)),l,m))
  else
   some (.dn b)
def yla(t:bA)(b:List (List Int))(cut:Int):Int×(List (List Int))->Option (Lp (Int×(List (List Int))) ((List (List Int))))
 |(v,k)=>
  if decide (v<(b.length:Int)) then
   (iter (yg1 t b cut v) ((0:Int),k,([]:List Int))).bind fun(a:List (List Int))=>
   some (.nx ((w64 (v+1)),a))
  else
   some (.dn k)
def zq86(t:bA)(b:List (List Int))(cut:Int):Option ((List (List Int))):=
 (iter (yla t b cut) ((0:Int),([]:List (List Int)))).bind fun(a:List (List Int))=>
 some a
def yg7(d:bB)(v:Int):Int×(List Int)->Option (Lp (Int×(List Int)) (Fl (Lp (Int×(List Int)) (Fl (Bool) (Unit))) ((List Int))))
 |(a,b)=>
  (idx d.bE v).bind fun e=>
  if decide (a<(e.length:Int)) then
   (idx d.bE v).bind fun f=>
   (idx f a).bind fun g=>
   (yfw b g).bind fun h=>
   if h then
    some (.dn (.ret (.dn (.ret false))))
   else
    (idx d.bE v).bind fun i=>
    (idx i a).bind fun c=>
    (chk (b.length+([c]:List Int).length<=4294967296)).bind fun u=>
    some (.nx ((w64 (a+1)),(b++([c]:List Int))))
  else
   some (.dn (.go b))
def yg6(b:List (List Int))(d:bB):Int×(List Int)->Option (Lp (Int×(List Int)) (Fl (Bool) (Unit)))
 |(v,k)=>
  if decide (v<(d.bE.length:Int)) then
   (idx d.bE v).bind fun e=>
   (zq77 b e).bind fun r=>
   if !r then
    some (.dn (.ret false))
   else
    flb (iter (yg7 d v) ((0:Int),k)) fun(a:List Int)=>
    some (.nx ((w64 (v+1)),a))
  else
   some (.dn (.go ()))
def zq78(b:List (List Int))(d:bB):Option (Bool):=
 flb (iter (yg6 b d) ((0:Int),([]:List Int))) fun(_:Unit)=>
 (ybo (d.bE.length:Int) 1 3).bind fun a=>
 some a
def zq72(t:bA)(d:List Int):Option (Int):=
 (idx d (w64 ((d.length:Int)-1))).bind fun a=>
 (ycs t a).bind fun b=>
 (yft t b).bind fun c=>
 some c
def zq73(t:bA)(f:bL)(a:List Int)(b:List Int):Option (Int):=
 (zq80 t b).bind fun c=>
 (zq72 t a).bind fun d=>
 (idx a (w64 ((a.length:Int)-1))).bind fun e=>
 (ycs t e).bind fun g=>
 (idx b 0).bind fun h=>
 (ycs t h).bind fun i=>
 (zq64 t f g i).bind fun j=>
 some (w64 ((w64 (c-d))-j))
def zq74(t:bA)(r:cB)(d:bB):Option (Int):=
 (idx d.bE (w64 ((d.bE.length:Int)-1))).bind fun a=>
 (zq72 t a).bind fun b=>
 (idx d.bE 0).bind fun c=>
 (zq80 t c).bind fun e=>
 some (w64 ((w64 ((w64 (r.iU+b))-e))+r.iV))
def ydm(t:bA)(r:cB)(d:bB):Int->Option (Lp (Int) (Fl (Int) (Unit)))
 |v=>
  if decide (v<(d.bE.length:Int)) then
   (idx d.bE v).bind fun a=>
   (zq72 t a).bind fun b=>
   (idx d.bE v).bind fun c=>
   (zq80 t c).bind fun e=>
   if decide (r.jV<(w64 (b-e))) then
    some (.dn (.ret 2))
   else
    some (.nx (w64 (v+1)))
  else
   some (.dn (.go ()))
def ydl(t:bA)(f:bL)(r:cB)(d:bB):Int->Option (Lp (Int) (Fl (Int) (Unit)))
 |a=>
  if decide (a<(d.bE.length:Int)) then
   (idx d.bE (w64 (a-1))).bind fun b=>
   (idx d.bE a).bind fun c=>
   (zq73 t f b c).bind fun e=>
   if decide (e<r.jM) then
    some (.dn (.ret 3))
   else
    some (.nx (w64 (a+1)))
  else
   some (.dn (.go ()))
def zq71(t:bA)(f:bL)(c:List (List Int))(r:cB)(d:bB):Option (Int):=
 (zq78 c d).bind fun b=>
 if !b then
  some 1
 else
  flb (iter (ydm t r d) (0:Int)) fun(_:Unit)=>
  flb (iter (ydl t f r d) (1:Int)) fun(_:Unit)=>
  (zq74 t r d).bind fun a=>
  if decide (r.kP<a) then
   some 4
  else
   some 0
def yld(t:bA)(f:bL)(r:cB)(d:bB):Int×Int->Option (Lp (Int×Int) (Int))
 |(v,a)=>
  if decide (a<(d.bE.length:Int)) then
   ((idx d.bE a).bind fun e=>
   (zq72 t e).bind fun b=>
   (idx d.bE a).bind fun g=>
   (zq80 t g).bind fun c=>
   if decide (0<a) then
    (idx d.bE (w64 (a-1))).bind fun h=>
    (idx d.bE a).bind fun i=>
    (zq73 t f h i).bind fun j=>
    (yj2 j r.jd).bind fun k=>
    some (w64 ((w64 ((w64 (v+b))-c))+k))
   else
    some (w64 ((w64 (v+b))-c))).bind fun(l:Int)=>
   some (.nx (l,(w64 (a+1))))
  else
   some (.dn v)
def zq76(t:bA)(f:bL)(r:cB)(d:bB):Option (Int):=
 (iter (yld t f r d) ((w64 (r.iU+r.iV)),(0:Int))).bind fun(a:Int)=>
 some a
def zq85(t:bA)(f:bL)(c:List (List Int))(r:cB)(d:bB):Option (Int):=
 (zq71 t f c r d).bind fun a=>
 if a !=0 then
  some (-1)
 else
  (zq76 t f r d).bind fun b=>
  some b
def yk2(x:eZ)(b:Int):Int×(List Int)->Option (Lp (Int×(List Int)) (eZ))
 |(v,a)=>
  if decide (v<(a.length:Int)) then
   (idx a v).bind fun e=>
   some (.nx ((w64 (v+1)),(a.set v.toNat (-2))))
  else
   some (.dn (⟨x.bP,x.gQ,x.dF,b,a⟩:eZ))
def zq90(x:eZ)(b:Int):Option (eZ):=
 (chk ((0:Int)<=(IntKind.u64.wrap ((x.bP.length:Int))))).bind fun u=>
 (chk ((0:Int)<=(w64 (1*2^(min ((IntKind.u64.wrap ((x.bP.length:Int))):Int).toNat (IntKind.i64).bits)))/\ ((w64 (1*2^(min ((IntKind.u64.wrap ((x.bP.length:Int))):Int).toNat (IntKind.i64).bits))):Int)<=4294967296)).bind fun a=>
 iter (yk2 x b) ((0:Int),(List.replicate (w64 (1*2^(min ((IntKind.u64.wrap ((x.bP.length:Int))):Int).toNat (IntKind.i64).bits))).toNat (0:Int)))
def ylc(t:bA)(f:bL)(j:List (List Int))(r:cB)(b:(List (List Int)))(v:Int):Int×(List Int)->Option (Lp (Int×(List Int)) ((List Int)))
 |(a,c)=>
  if decide (a<(b.length:Int)) then
   (if v !=a then
    (idx b v).bind fun e=>
    (idx b a).bind fun g=>
    (zq85 t f j r (⟨([e,g]:List (List Int))⟩:bB)).bind fun h=>
    some h
   else
    some ((-1):Int)).bind fun(d:Int)=>
   (chk (c.length+([d]:List Int).length<=4294967296)).bind fun i=>
   some (.nx ((w64 (a+1)),(c++([d]:List Int))))
  else
   some (.dn c)
def ylb(t:bA)(f:bL)(j:List (List Int))(r:cB)(a:(List (List Int))):Int×(List Int)×(List (List Int))->Option (Lp (Int×(List Int)×(List (List Int))) ((List Int)×(List (List Int))))
 |(v,b,c)=>
  if decide (v<(a.length:Int)) then
   (idx a v).bind fun g=>
   (zq85 t f j r (⟨([g]:List (List Int))⟩:bB)).bind fun d=>
   (chk (b.length+([d]:List Int).length<=4294967296)).bind fun h=>
   (iter (ylc t f j r a v) ((0:Int),([]:List Int))).bind fun(e:List Int)=>
   (chk (c.length+([e]:List (List Int)).length<=4294967296)).bind fun i=>
   some (.nx ((w64 (v+1)),(b++([d]:List Int)),(c++([e]:List (List Int)))))
  else
   some (.dn (b,c))
def zq84(t:bA)(f:bL)(e:List (List Int))(r:cB)(cut:Int):Option (eZ):=
 (zq86 t e cut).bind fun b=>
 (iter (ylb t f e r b) ((0:Int),([]:List Int),([]:List (List Int)))).bind fun((c,d):(List Int)×(List (List Int)))=>
 (zq90 (⟨b,c,d,0,([]:List Int)⟩:eZ) 0).bind fun a=>
 some (⟨a.bP,a.gQ,a.dF,a.iB,a.iG⟩:eZ)
def zq88(g:eZ->Int->Option (Int×(List Int)))(x:eZ)(done:Int)(i:Int)(k:Int):Option (Int×(List Int)):=
 (chk ((0:Int)<=(IntKind.u64.wrap (i)))).bind fun u=>
 (if (IntKind.i64.wrap ((BitVec.ofInt (IntKind.i64).bits (x.iB.fdiv (2^(min ((IntKind.u64.wrap (i)):Int).toNat (IntKind.i64).bits)))&&&BitVec.ofInt (IntKind.i64).bits 1).toNat:Int))==1 then some true else(idx x.dF i).bind fun e=>
 (idx e k).bind fun a=>
 some (decide (a<0))).bind fun(v:Bool)=>
 if v then
  some ((-1),x.iG)
 else
  (chk ((0:Int)<=(IntKind.u64.wrap (i)))).bind fun d=>
  (chk ((0:Int)<=(IntKind.u64.wrap (k)))).bind fun f=>
  (g (⟨x.bP,x.gQ,x.dF,x.iB,x.iG⟩:eZ) (IntKind.i64.wrap ((BitVec.ofInt (IntKind.i64).bits (IntKind.i64.wrap ((BitVec.ofInt (IntKind.i64).bits done|||BitVec.ofInt (IntKind.i64).bits (w64 (1*2^(min ((IntKind.u64.wrap (i)):Int).toNat (IntKind.i64).bits)))).toNat:Int))|||BitVec.ofInt (IntKind.i64).bits (w64 (1*2^(min ((IntKind.u64.wrap (k)):Int).toNat (IntKind.i64).bits)))).toNat:Int))).bind fun r=>
  if decide (r.1<0) then
   some ((-1),r.2)
  else
   (idx x.dF i).bind fun b=>
   (idx b k).bind fun c=>
   some ((w64 ((w64 (100000+c))+r.1)),r.2)
def yk5(done:Int):Int->Option (Lp (Int) (Int))
 |rest=>
  (chk ((0:Int)<=(IntKind.u64.wrap (rest)))).bind fun a=>
  if (IntKind.i64.wrap ((BitVec.ofInt (IntKind.i64).bits (done.fdiv (2^(min ((IntKind.u64.wrap (rest)):Int).toNat (IntKind.i64).bits)))&&&BitVec.ofInt (IntKind.i64).bits 1).toNat:Int))==1 then
   some (.nx (w64 (rest+1)))
  else
   some (.dn rest)
def yk4(n:eZ->Int->Option (Int×(List Int)))(x:eZ)(done:Int)(m:Int):Int×Int×(List Int)->Option (Lp (Int×Int×(List Int)) (Int×(List Int)))
 |(a,l,d)=>
  if decide (l<(x.bP.length:Int)) then
   ((chk ((0:Int)<=(IntKind.u64.wrap (l)))).bind fun k=>
   if (IntKind.i64.wrap ((BitVec.ofInt (IntKind.i64).bits (done.fdiv (2^(min ((IntKind.u64.wrap (l)):Int).toNat (IntKind.i64).bits)))&&&BitVec.ofInt (IntKind.i64).bits 1).toNat:Int))==1 then
    some (a,d)
   else
    ((zq88 n (⟨x.bP,x.gQ,x.dF,x.iB,d⟩:eZ) done m l).bind fun b=>
    (if decide (0<=b.1) then if decide (a<0) then some true else some (decide (b.1<a))else some false).bind fun(f:Bool)=>
    if f then
     some (b.1,b.2)
    else
     some (a,b.2)).bind fun((e,g):Int×(List Int))=>
    (zq88 n (⟨x.bP,x.gQ,x.dF,x.iB,g⟩:eZ) done l m).bind fun c=>
    (if decide (0<=c.1) then if decide (e<0) then some true else some (decide (c.1<e))else some false).bind fun(h:Bool)=>
    if h then
     some (c.1,c.2)
    else
     some (e,c.2)).bind fun((i,j):Int×(List Int))=>
   some (.nx (i,(w64 (l+1)),j))
  else
   some (.dn (a,d))
def yfc(j:eZ->Int->Option (Int×(List Int)))(x:eZ)(done:Int):Option (Int×(List Int)):=
 (chk ((0:Int)<=(IntKind.u64.wrap ((x.bP.length:Int))))).bind fun u=>
 if done==(w64 ((w64 (1*2^(min ((IntKind.u64.wrap ((x.bP.length:Int))):Int).toNat (IntKind.i64).bits)))-1)) then
  some (0,x.iG)
 else
  (idx x.iG done).bind fun e=>
  if e !=(-2) then
   (idx x.iG done).bind fun c=>
   some (c,x.iG)
  else
   (iter (yk5 done) (0:Int)).bind fun(i:Int)=>
   ((idx x.gQ i).bind fun d=>
   if decide (0<=d) then
    (chk ((0:Int)<=(IntKind.u64.wrap (i)))).bind fun g=>
    (j (⟨x.bP,x.gQ,x.dF,x.iB,x.iG⟩:eZ) (IntKind.i64.wrap ((BitVec.ofInt (IntKind.i64).bits done|||BitVec.ofInt (IntKind.i64).bits (w64 (1*2^(min ((IntKind.u64.wrap (i)):Int).toNat (IntKind.i64).bits)))).toNat:Int))).bind fun r=>
    if decide (0<=r.1) then
     (idx x.gQ i).bind fun f=>
     some ((w64 ((w64 (100000+f))+r.1)),r.2)
    else
     some (((-1):Int),r.2)
   else
    some (((-1):Int),x.iG)).bind fun((k,v):Int×(List Int))=>
   (iter (yk4 j x done i) (k,(w64 (i+1)),v)).bind fun((a,b):Int×(List Int))=>
   (idx b done).bind fun h=>
   some (a,(b.set done.toNat a))
def ygi:Nat->eZ->Int->Option (Int×(List Int))
 |0=>fun _ _=>none
 |n+1=>yfc (ygi n)
def zq89(x:eZ)(done:Int):Option (Int×(List Int)):=ygi 4294967296 x done
def yk9(x:eZ):Int×(List Int)->Option (Lp (Int×(List Int)) ((List Int)))
 |(i,done)=>
  if decide (i<(x.bP.length:Int)) then
   (idx done i).bind fun e=>
   some (.nx ((w64 (i+1)),(done.set i.toNat (x.bP.length:Int))))
  else
   some (.dn done)
def yk8(x:eZ)(p:Int)(g:Int)(k:Int)(v:List (List Int))(h:List Int)(i:List (List Int))(j:Int):Int×(List Int)×(List Int)->Option (Lp (Int×(List Int)×(List Int)) ((List Int)×(List Int)))
 |(a,o,b)=>
  (if decide (a<(x.bP.length:Int)) then(idx o k).bind fun l=>
  some (l==(x.bP.length:Int))else some false).bind fun(c:Bool)=>
  if c then
   ((if a==k then some true else(chk ((0:Int)<=(IntKind.u64.wrap (a)))).bind fun m=>
   some ((IntKind.i64.wrap ((BitVec.ofInt (IntKind.i64).bits (p.fdiv (2^(min ((IntKind.u64.wrap (a)):Int).toNat (IntKind.i64).bits)))&&&BitVec.ofInt (IntKind.i64).bits 1).toNat:Int))==1)).bind fun(d:Bool)=>
   if d then
    some (o,b)
   else
    (zq88 zq89 (⟨v,h,i,j,b⟩:eZ) p k a).bind fun e=>
    if e.1==g then
     (idx o k).bind fun n=>
     some ((o.set k.toNat a),e.2)
    else
     some (o,e.2)).bind fun((q,f):(List Int)×(List Int))=>
   some (.nx ((w64 (a+1)),q,f))
  else
   some (.dn (o,b))
def yk7(x:eZ):Int×Int×Int×Int×(List (List Int))×(List Int)×(List (List Int))×Int×(List Int)×(List Int)->Option (Lp (Int×Int×Int×Int×(List (List Int))×(List Int)×(List (List Int))×Int×(List Int)×(List Int)) ((List (List Int))×(List Int)×(List (List Int))×Int×(List Int)×(List Int)))
 |(p,left,g,k,v,b,a,c,B,h)=>
  if decide (k<(x.bP.length:Int)) then
   ((chk ((0:Int)<=(IntKind.u64.wrap (k)))).bind fun u=>
   if (IntKind.i64.wrap ((BitVec.ofInt (IntKind.i64).bits (p.fdiv (2^(min ((IntKind.u64.wrap (k)):Int).toNat (IntKind.i64).bits)))&&&BitVec.ofInt (IntKind.i64).bits 1).toNat:Int))==1 then
    some (p,left,g,v,b,a,c,B,h)
   else
    (iter (yk8 x p g k v b a c) ((0:Int),B,h)).bind fun((A,d):(List Int)×(List Int))=>
    (idx A k).bind fun i=>
    if decide (i<(x.bP.length:Int)) then
     (idx a k).bind fun j=>
     (idx A k).bind fun l=>
     (idx j l).bind fun m=>
     (chk ((0:Int)<=(IntKind.u64.wrap (k)))).bind fun w=>
     (idx A k).bind fun e=>
     (chk ((0:Int)<=(IntKind.u64.wrap (e)))).bind fun y=>
     some ((IntKind.i64.wrap ((BitVec.ofInt (IntKind.i64).bits (IntKind.i64.wrap ((BitVec.ofInt (IntKind.i64).bits p|||BitVec.ofInt (IntKind.i64).bits (w64 (1*2^(min ((IntKind.u64.wrap (k)):Int).toNat (IntKind.i64).bits)))).toNat:Int))|||BitVec.ofInt (IntKind.i64).bits (w64 (1*2^(min ((IntKind.u64.wrap (e)):Int).toNat (IntKind.i64).bits)))).toNat:Int)),left,(w64 ((w64 (g-100000))-m)),v,b,a,c,A,d)
    else
     (chk ((0:Int)<=(IntKind.u64.wrap (k)))).bind fun z=>
     (zq90 (⟨v,b,a,c,d⟩:eZ) (IntKind.i64.wrap ((BitVec.ofInt (IntKind.i64).bits left|||BitVec.ofInt (IntKind.i64).bits (w64 (1*2^(min ((IntKind.u64.wrap (k)):Int).toNat (IntKind.i64).bits)))).toNat:Int))).bind fun f=>
     some (p,(IntKind.i64.wrap ((BitVec.ofInt (IntKind.i64).bits left|||BitVec.ofInt (IntKind.i64).bits (w64 (1*2^(min ((IntKind.u64.wrap (k)):Int).toNat (IntKind.i64).bits)))).toNat:Int)),g,f.bP,f.gQ,f.dF,f.iB,A,f.iG)).bind fun((C,E,n,o,q,r,s,D,t):Int×Int×Int×(List (List Int))×(List Int)×(List (List Int))×Int×(List Int)×(List Int))=>
   some (.nx (C,E,n,(w64 (k+1)),o,q,r,s,D,t))
  else
   some (.dn (v,b,a,c,B,h))
def zq87(x:eZ):Option ((List Int)×eZ):=
 (chk ((0:Int)<=(x.bP.length:Int)/\ ((x.bP.length:Int):Int)<=4294967296)).bind fun u=>
 (zq90 x 0).bind fun r=>
 (zq89 (⟨r.bP,r.gQ,r.dF,r.iB,r.iG⟩:eZ) 0).bind fun f=>
 (iter (yk9 x) ((0:Int),(List.replicate (x.bP.length:Int).toNat (0:Int)))).bind fun(g:List Int)=>
 (iter (yk7 x) ((0:Int),(0:Int),f.1,(0:Int),r.bP,r.gQ,r.dF,r.iB,g,f.2)).bind fun((a,b,c,d,h,e):(List (List Int))×(List Int)×(List (List Int))×Int×(List Int)×(List Int))=>
 some (h,(⟨a,b,c,d,e⟩:eZ))
def yk1(h:List bB)(d:bB):Int->Option (Lp (Int) (Int))
 |v=>
  (if decide (0<v) then(idx h (w64 (v-1))).bind fun a=>
  (idx a.bE 0).bind fun b=>
  (idx b 0).bind fun c=>
  (idx d.bE 0).bind fun e=>
  (idx e 0).bind fun f=>
  some (decide (f<c))else some false).bind fun(g:Bool)=>
  if g then
   some (.nx (w64 (v-1)))
  else
   some (.dn v)
def zq91(h:List bB)(d:bB):Option ((List bB)):=
 (iter (yk1 h d) (h.length:Int)).bind fun(a:Int)=>
 (chk ((0:Int)<=0/\ (0:Int)<=a/\ a<=(h.length:Int))).bind fun b=>
 (chk (([]:List bB).length+((h.take a.toNat).drop (0:Int).toNat).length<=4294967296)).bind fun c=>
 (chk ((([]:List bB)++((h.take a.toNat).drop (0:Int).toNat)).length+([d]:List bB).length<=4294967296)).bind fun e=>
 (chk ((0:Int)<=a/\ a<=(h.length:Int))).bind fun f=>
 (chk (((([]:List bB)++((h.take a.toNat).drop (0:Int).toNat))++([d]:List bB)).length+(h.drop a.toNat).length<=4294967296)).bind fun g=>
 some (((([]:List bB)++((h.take a.toNat).drop (0:Int).toNat))++([d]:List bB))++(h.drop a.toNat))
def yg5(t:bA)(f:bL)(g:List (List Int))(r:cB):Int×Int×Int->Option (Lp (Int×Int×Int) (Int×Int))
 |(out,x,e)=>
  (chk ((0:Int)<=(IntKind.u64.wrap ((t.bn.length:Int))))).bind fun u=>
  if decide (e<(w64 (1*2^(min ((IntKind.u64.wrap ((t.bn.length:Int))):Int).toNat (IntKind.i64).bits)))) then
   ((zq83 t g e).bind fun c=>
   if !c then
    some (out,x)
   else
    (zq84 t f g r e).bind fun a=>
    (zq89 (⟨a.bP,a.gQ,a.dF,a.iB,a.iG⟩:eZ) 0).bind fun b=>
    (if decide (0<=b.1) then if decide (out<0) then some true else some (decide (b.1<x))else some false).bind fun(v:Bool)=>
    if v then
     some (e,b.1)
    else
     some (out,x)).bind fun((h,d):Int×Int)=>
   some (.nx (h,d,(w64 (e+1))))
  else
   some (.dn (out,x))
def yg4(a:(List Int)×eZ):Int×(List bB)->Option (Lp (Int×(List bB)) ((List bB)))
 |(b,c)=>
  if decide (b<(a.1.length:Int)) then
   ((idx a.1 b).bind fun e=>
   if decide (e<(a.1.length:Int)) then
    (idx a.2.bP b).bind fun j=>
    (ydr j).bind fun k=>
    (idx a.1 b).bind fun l=>
    (idx a.2.bP l).bind fun m=>
    (ydr m).bind fun d=>
    (zq91 c (⟨([k,d]:List (List Int))⟩:bB)).bind fun f=>
    some f
   else
    (yfw a.1 b).bind fun g=>
    if !g then
     (idx a.2.bP b).bind fun n=>
     (ydr n).bind fun h=>
     (zq91 c (⟨([h]:List (List Int))⟩:bB)).bind fun i=>
     some i
    else
     some c).bind fun(o:List bB)=>
   some (.nx ((w64 (b+1)),o))
  else
   some (.dn c)
def zq81(t:bA)(f:bL)(g:List (List Int))(r:cB):Option ((List bB)×Int×Int×Bool):=
 (iter (yg5 t f g r) (((-1):Int),(0:Int),(0:Int))).bind fun((h,a):Int×Int)=>
 if decide (h<0) then
  some (([]:List bB),0,0,false)
 else
  (zq84 t f g r h).bind fun b=>
  (zq87 b).bind fun c=>
  (iter (yg4 c) ((0:Int),([]:List bB))).bind fun(d:List bB)=>
  (chk ((100000:Int)≠0)).bind fun e=>
  some (d,h,(a.tmod 100000),true)
def zq96(c:bM)(t:bA)(f:bL)(p:List (List Int))(r:cB):Option ((List bB)×bM):=
 (zq69 t f p r).bind fun m=>
 (if !m then some true else some (decide (8<(t.bn.length:Int)))).bind fun(v:Bool)=>
 if v then
  (zq98 c t p).bind fun i=>
  some (([i.1]:List bB),i.2)
 else
  (zq81 t f p r).bind fun a=>
  ((if decide (0<(a.1.length:Int)) then(yc3 c 5).bind fun d=>
  some (d.1,d.2.dH,d.2.at_,d.2.dL.v)else some (false,c.dH,c.at_,c.dL.v)).bind fun((n,j,k,l):Bool×(List UInt8)×Int×Int)=>
  if n then
   (ya4 (⟨j,k,(⟨l⟩:IK .u64)⟩:bM) (a.1.length:Int)).bind fun g=>
   (yc3 g.2 2).bind fun b=>
   if b.1 then
    (idx a.1 g.1).bind fun e=>
    (chk (a.1.length+([e]:List bB).length<=4294967296)).bind fun u=>
    some (b.2.dH,b.2.at_,b.2.dL.v,(a.1++([e]:List bB)))
   else
    (zq98 b.2 t p).bind fun h=>
    (idx a.1 g.1).bind fun x=>
    some (h.2.dH,h.2.at_,h.2.dL.v,(a.1.set g.1.toNat h.1))
  else
   some (j,k,l,a.1)).bind fun((o,q,s,w):(List UInt8)×Int×Int×(List bB))=>
  some (w,(⟨o,q,(⟨s⟩:IK .u64)⟩:bM))
def zq58(b:List UInt8):Option (bA×bL×(List (List Int))×cB×(List bB)):=
 (zq97 (⟨b,0,(⟨0⟩:IK .u64)⟩:bM)).bind fun r=>
 (zq96 r.2.2.2.2 r.1 r.2.1 r.2.2.1 r.2.2.2.1).bind fun a=>
 some (r.1,r.2.1,r.2.2.1,r.2.2.2.1,a.1)
def zq55(n:Int)(lo:Int)(hi:Int):Option (Bool):=
 (if decide (lo<=n) then some (decide (n<=hi))else some false).bind fun(v:Bool)=>
 some v
def yfk(s:ByteArray):Int->Option (Lp (Int) (Fl (Bool) (Unit)))
 |a=>
  if decide (a<(s.size:Int)) then
   (chk ((0:Int)<=a/\ a<(s.size:Int))).bind fun u=>
   (if decide (97<=((s.data.toList.getD a.toNat 0).toNat:Int)) then(chk ((0:Int)<=a/\ a<(s.size:Int))).bind fun d=>
   some (decide (((s.data.toList.getD a.toNat 0).toNat:Int)<=122))else some false).bind fun(b:Bool)=>
   (if !b then if a==0 then some true else(chk ((0:Int)<=a/\ a<(s.size:Int))).bind fun e=>
   if decide (((s.data.toList.getD a.toNat 0).toNat:Int)<48) then some true else(chk ((0:Int)<=a/\ a<(s.size:Int))).bind fun f=>
   some (decide (57<((s.data.toList.getD a.toNat 0).toNat:Int)))else some false).bind fun(c:Bool)=>
   if c then
    some (.dn (.ret false))
   else
    some (.nx (w64 (a+1)))
  else
   some (.dn (.go ()))
def zq36(s:ByteArray):Option (Bool):=
 (if decide ((s.size:Int)<1) then some true else some (decide (8<(s.size:Int)))).bind fun(v:Bool)=>
 if v then
  some false
 else
  flb (iter (yfk s) (0:Int)) fun(_:Unit)=>
  some true
def yep(s:List ByteArray)(v:ByteArray):Int->Option (Lp (Int) (Fl (Int) (Unit)))
 |a=>
  if decide (a<(s.length:Int)) then
   (idx s a).bind fun e=>
   if v.toList==e.toList then
    some (.dn (.ret a))
   else
    some (.nx (w64 (a+1)))
  else
   some (.dn (.go ()))
def yqf(s:List ByteArray)(v:ByteArray):Option (Int):=
 flb (iter (yep s v) (0:Int)) fun(_:Unit)=>
 some (-1)
def yh0(names:List ByteArray):Int->Option (Lp (Int) (Fl (Bool) (Unit)))
 |v=>
  if decide (v<(names.length:Int)) then
   (idx names v).bind fun e=>
   (zq36 e).bind fun r=>
   (if !r then some true else(yqf names e).bind fun a=>
   some (a !=v)).bind fun(b:Bool)=>
   if b then
    some (.dn (.ret false))
   else
    some (.nx (w64 (v+1)))
  else
   some (.dn (.go ()))
def zq13(names:List ByteArray):Option (Bool):=
 flb (iter (yh0 names) (0:Int)) fun(_:Unit)=>
 some true
def yhh(n:bC):Int×(List ByteArray)->Option (Lp (Int×(List ByteArray)) ((List ByteArray)))
 |(v,i)=>
  if decide (v<(n.bG.length:Int)) then
   (idx n.bG v).bind fun e=>
   (idx i v).bind fun a=>
   some (.nx ((w64 (v+1)),(i.set v.toNat e.eH)))
  else
   some (.dn i)
def zq43(n:bC):Option ((List ByteArray)):=
 (chk ((0:Int)<=(n.bG.length:Int)/\ ((n.bG.length:Int):Int)<=4294967296)).bind fun u=>
 (iter (yhh n) ((0:Int),(List.replicate (n.bG.length:Int).toNat (ByteArray.empty:ByteArray)))).bind fun(a:List ByteArray)=>
 some a
def zq39(n:bC)(a:Int):Option (Bool):=
 (if decide (0<=a) then some (decide (a<(n.bq.length:Int)))else some false).bind fun(v:Bool)=>
 some v
def yeq(s:List Int)(v:Int):Int->Option (Lp (Int) (Fl (Int) (Unit)))
 |a=>
  if decide (a<(s.length:Int)) then
   (idx s a).bind fun e=>
   if v==e then
    some (.dn (.ret a))
   else
    some (.nx (w64 (a+1)))
  else
   some (.dn (.go ()))
def ymo(s:List Int)(v:Int):Option (Int):=
 flb (iter (yeq s v) (0:Int)) fun(_:Unit)=>
 some (-1)
def yhj(n:bC)(l:bK):Int->Option (Lp (Int) (Fl (Bool) (Unit)))
 |a=>
  if decide (a<(l.bq.length:Int)) then
   (idx l.bq a).bind fun e=>
   (zq39 n e).bind fun b=>
   (if !b then some true else(ymo l.bq e).bind fun c=>
   some (c !=a)).bind fun(d:Bool)=>
   if d then
    some (.dn (.ret false))
   else
    some (.nx (w64 (a+1)))
  else
   some (.dn (.go ()))
def yhi(l:bK):Int->Option (Lp (Int) (Fl (Bool) (Unit)))
 |a=>
  if decide (a<(l.bY.length:Int)) then
   (idx l.bY a).bind fun b=>
   (zq55 b 1 60).bind fun c=>
   if !c then
    some (.dn (.ret false))
   else
    some (.nx (w64 (a+1)))
  else
   some (.dn (.go ()))
def zq40(n:bC)(l:bK):Option (Bool):=
 (zq55 (l.bq.length:Int) 2 6).bind fun r=>
 (if !r then some true else some ((l.bY.length:Int)!=(w64 ((l.bq.length:Int)-1)))).bind fun(v:Bool)=>
 if v then
  some false
 else
  flb (iter (yhj n l) (0:Int)) fun(_:Unit)=>
  flb (iter (yhi l) (0:Int)) fun(_:Unit)=>
  some true
def yny(n:bC):Int->Option (Lp (Int) (Fl (Bool) (Unit)))
 |a=>
  if decide (a<(n.bG.length:Int)) then
   (idx n.bG a).bind fun e=>
   (zq40 n e).bind fun b=>
   if !b then
    some (.dn (.ret false))
   else
    some (.nx (w64 (a+1)))
  else
   some (.dn (.go ()))
def zq8(n:bC):Option (Bool):=
 (zq55 (n.bq.length:Int) 2 8).bind fun r=>
 (if !r then some true else(zq55 (n.bG.length:Int) 1 5).bind fun a=>
 if !a then some true else(zq13 n.bq).bind fun b=>
 if !b then some true else(zq43 n).bind fun c=>
 (zq13 c).bind fun d=>
 some (!d)).bind fun(v:Bool)=>
 if v then
  some false
 else
  flb (iter (yny n) (0:Int)) fun(_:Unit)=>
  some true
def zq35(n:bC)(a:Int):Option (Bool):=
 (if decide (0<=a) then some (decide (a<(n.bG.length:Int)))else some false).bind fun(v:Bool)=>
 some v
def zq10(t:Int):Option (Bool):=
 (zq55 t 0 1799).bind fun r=>
 some r
def yhf(b:List Int):Int×Int->Option (Lp (Int×Int) (Int))
 |(v,a)=>
  if decide (a<(b.length:Int)) then
   (idx b a).bind fun e=>
   some (.nx ((w64 (v+e)),(w64 (a+1))))
  else
   some (.dn v)
def zq51(b:List Int):Option (Int):=
 (iter (yhf b) ((0:Int),(0:Int))).bind fun(a:Int)=>
 some a
def zq27(t:bA)(x:cZ):Option (Int):=
 (idx t.bC.bG x.bK).bind fun a=>
 (zq51 a.bY).bind fun b=>
 some (w64 (x.d9+b))
def ymb(t:bA):Int×Int->Option (Lp (Int×Int) (Fl (Bool) (Unit)))
 |(v,a)=>
  if decide (a<(t.bn.length:Int)) then
   (idx t.bn a).bind fun e=>
   (if decide (e.Id<=v) then some true else if decide (999<e.Id) then some true else(zq35 t.bC e.bK).bind fun r=>
   if !r then some true else(zq10 e.d9).bind fun b=>
   if !b then some true else(zq27 t e).bind fun c=>
   (zq10 c).bind fun d=>
   some (!d)).bind fun(f:Bool)=>
   if f then
    some (.dn (.ret false))
   else
    some (.nx (e.Id,(w64 (a+1))))
  else
   some (.dn (.go ()))
def zq15(t:bA):Option (Bool):=
 if decide (12<(t.bn.length:Int)) then
  some false
 else
  flb (iter (ymb t) ((0:Int),(0:Int))) fun(_:Unit)=>
  some true
def zq11(t:bA):Option (Bool):=
 (zq8 t.bC).bind fun r=>
 (if r then(zq15 t).bind fun a=>
 some a else some false).bind fun(v:Bool)=>
 some v
def yhl(e:List Int):Int->Option (Lp (Int) (Fl (Lp (Int) (Fl (Bool) (Unit))) (Unit)))
 |a=>
  if decide (a<(e.length:Int)) then
   (idx e a).bind fun b=>
   (zq55 b 0 120).bind fun c=>
   if !c then
    some (.dn (.ret (.dn (.ret false))))
   else
    some (.nx (w64 (a+1)))
  else
   some (.dn (.go ()))
def yls(n:bC)(f:bL):Int->Option (Lp (Int) (Fl (Bool) (Unit)))
 |a=>
  if decide (a<(f.dR.length:Int)) then
   (idx f.dR a).bind fun e=>
   (if (e.length:Int)!=(n.bq.length:Int) then some true else(idx e a).bind fun b=>
   some (b !=0)).bind fun(c:Bool)=>
   if c then
    some (.dn (.ret false))
   else
    flb (iter (yhl e) (0:Int)) fun(_:Unit)=>
    some (.nx (w64 (a+1)))
  else
   some (.dn (.go ()))
def zq34(n:bC)(f:bL):Option (Bool):=
 (if (f.dR.length:Int)!=(n.bq.length:Int) then some true else(zq55 f.gV 0 30).bind fun r=>
 some (!r)).bind fun(v:Bool)=>
 if v then
  some false
 else
  flb (iter (yls n f) (0:Int)) fun(_:Unit)=>
  some true
def zq38(t:bA)(f:bL):Option (Bool):=
 (zq11 t).bind fun r=>
 (if r then(zq34 t.bC f).bind fun a=>
 some a else some false).bind fun(v:Bool)=>
 some v
def zq53(x:cZ)(a:Int):Option (Bool):=
 some (x.Id==a)
def yer(s:List cZ)(f:cZ->Option (Bool)):Int->Option (Lp (Int) (Fl (Int) (Unit)))
 |v=>
  if decide (v<(s.length:Int)) then
   (idx s v).bind fun e=>
   (f e).bind fun r=>
   if r then
    some (.dn (.ret v))
   else
    some (.nx (w64 (v+1)))
  else
   some (.dn (.go ()))
def yvs(s:List cZ)(f:cZ->Option (Bool)):Option (Int):=
 flb (iter (yer s f) (0:Int)) fun(_:Unit)=>
 some (-1)
def yvr(s:List cZ)(a:Int):Option (Int):=
 yvs s (fun(b:cZ)=>zq53 b a)
def zq52(t:bA)(id:Int):Option (Int):=
 (yvr t.bn id).bind fun r=>
 some r
def zq54(t:bA)(id:Int):Option (cZ):=
 (zq52 t id).bind fun a=>
 (idx t.bn a).bind fun b=>
 some b
def zq44(t:bA)(x:cZ):Option (bK):=
 (idx t.bC.bG x.bK).bind fun e=>
 some e
def zq41(t:bA)(x:cZ):Option (Int):=
 (zq44 t x).bind fun r=>
 (idx r.bq (w64 ((r.bq.length:Int)-1))).bind fun e=>
 some e
def zq29(t:bA)(x:cZ):Option (Int):=
 (zq44 t x).bind fun r=>
 (idx r.bq 0).bind fun e=>
 some e
def zq24(t:bA)(f:bL)(a:cZ)(b:cZ):Option (Int):=
 (zq41 t a).bind fun c=>
 (idx f.dR c).bind fun d=>
 (zq29 t b).bind fun e=>
 (idx d e).bind fun g=>
 some g
def zq17(t:bA)(f:bL)(a:cZ)(b:cZ):Option (Bool):=
 (zq27 t a).bind fun c=>
 (zq24 t f a b).bind fun d=>
 some (decide ((w64 ((w64 (c+f.gV))+d))<=b.d9))
def yb1(t:bA)(f:bL)(e:List Int):Int×Int×(List Bool)->Option (Lp (Int×Int×(List Bool)) (Fl (Lp (Int×Int×Int×(List Bool)) (Fl (Bool) (Int))) (Int×(List Bool))))
 |(p,b,c)=>
  if decide (b<(e.length:Int)) then
   (idx e b).bind fun g=>
   (zq52 t g).bind fun a=>
   (if decide (a<0) then some true else(chk ((0:Int)<=a/\ (a:Int)<12)).bind fun n=>
   (idx c a).bind fun h=>
   if h then some true else if decide (0<b) then(idx e (w64 (b-1))).bind fun i=>
   (zq54 t i).bind fun j=>
   (idx t.bn a).bind fun d=>
   (zq17 t f j d).bind fun k=>
   some (!k)else some false).bind fun(l:Bool)=>
   if l then
    some (.dn (.ret (.dn (.ret false))))
   else
    (chk ((0:Int)<=a/\ (a:Int)<12)).bind fun o=>
    (idx c a).bind fun m=>
    some (.nx ((w64 (p+1)),(w64 (b+1)),(c.set a.toNat true)))
  else
   some (.dn (.go (p,c)))
def ybs(t:bA)(f:bL)(h:List (List Int)):Int×Int×Int×(List Bool)->Option (Lp (Int×Int×Int×(List Bool)) (Fl (Bool) (Int)))
 |(block,k,v,a)=>
  if decide (v<(h.length:Int)) then
   (idx h v).bind fun e=>
   (if (e.length:Int)==0 then some true else(idx e 0).bind fun b=>
   some (decide (b<=k))).bind fun(c:Bool)=>
   if c then
    some (.dn (.ret false))
   else
    (idx e 0).bind fun d=>
    flb (iter (yb1 t f e) (block,(0:Int),a)) fun((i,g):Int×(List Bool))=>
    some (.nx (i,d,(w64 (v+1)),g))
  else
   some (.dn (.go block))
def zq12(t:bA)(f:bL)(b:List (List Int)):Option (Bool):=
 flb (iter (ybs t f b) ((0:Int),(0:Int),(0:Int),(List.replicate 12 (false:Bool)))) fun(a:Int)=>
 some (a==(t.bn.length:Int))
def zq7(t:bA)(f:bL)(b:List (List Int)):Option (Bool):=
 (zq38 t f).bind fun r=>
 (if r then(zq12 t f b).bind fun a=>
 some a else some false).bind fun(v:Bool)=>
 some v
def yq9(r:cB):Int->Option (Lp (Int) (Fl (Bool) (Unit)))
 |v=>
  if decide (v<6) then
   (chk ((0:Int)<=v/\ (v:Int)<6)).bind fun u=>
   (idx ([r.iU,r.iV,r.jV,r.jM,r.jd,r.kP]:List Int) v).bind fun e=>
   (zq55 e 0 900).bind fun a=>
   if !a then
    some (.dn (.ret false))
   else
    some (.nx (w64 (v+1)))
  else
   some (.dn (.go ()))
def zq9(r:cB):Option (Bool):=
 flb (iter (yq9 r) (0:Int)) fun(_:Unit)=>
 some true
def zq14(t:bA)(f:bL)(c:List (List Int))(r:cB):Option (Bool):=
 (zq7 t f c).bind fun a=>
 (if a then(zq9 r).bind fun b=>
 some b else some false).bind fun(v:Bool)=>
 some v
def ycx(a:List (List Int))(id:Int):Int->Option (Lp (Int) (Fl (Int×Int) (Unit)))
 |v=>
  if decide (v<(a.length:Int)) then
   (idx a v).bind fun e=>
   (ymo e id).bind fun r=>
   if decide (0<=r) then
    some (.dn (.ret (v,r)))
   else
    some (.nx (w64 (v+1)))
  else
   some (.dn (.go ()))
def zq48(a:List (List Int))(id:Int):Option (Int×Int):=
 flb (iter (ycx a id) (0:Int)) fun(_:Unit)=>
 some ((-1),0)
def yc6(a:List Int)(b:List Int):Int->Option (Lp (Int) (Fl (Bool) (Unit)))
 |v=>
  if decide (v<(a.length:Int)) then
   (idx a v).bind fun c=>
   (idx b v).bind fun d=>
   if c !=d then
    some (.dn (.ret false))
   else
    some (.nx (w64 (v+1)))
  else
   some (.dn (.go ()))
def yqg(a:List Int)(b:List Int):Option (Bool):=
 if (a.length:Int)!=(b.length:Int) then
  some false
 else
  flb (iter (yc6 a b) (0:Int)) fun(_:Unit)=>
  some true
def zq37(f:List (List Int))(d:List Int):Option (Bool):=
 if (d.length:Int)==0 then
  some false
 else
  (idx d 0).bind fun e=>
  (zq48 f e).bind fun r=>
  (if decide (0<=r.1) then(idx f r.1).bind fun b=>
  if decide ((w64 (r.2+(d.length:Int)))<=(b.length:Int)) then(idx f r.1).bind fun a=>
  (chk ((0:Int)<=r.2/\ (r.2:Int)<=(w64 (r.2+(d.length:Int)))/\ (w64 (r.2+(d.length:Int)))<=(a.length:Int))).bind fun u=>
  (yqg ((a.take (w64 (r.2+(d.length:Int))).toNat).drop r.2.toNat) d).bind fun c=>
  some c else some false else some false).bind fun(k:Bool)=>
  some k
def zq57(x:IK .u64):Option (Int):=
 (if decide (4294967296<=x.v) then
  (chk ((0:Int)<=32)).bind fun u=>
  some ((x.v.fdiv (2^(min (32:Int).toNat (IntKind.u64).bits))),(32:Int))
 else
  some (x.v,(0:Int))).bind fun((a,v):Int×Int)=>
 (if decide (65536<=a) then
  (chk ((0:Int)<=16)).bind fun f=>
  some ((a.fdiv (2^(min (16:Int).toNat (IntKind.u64).bits))),(w64 (v+16)))
 else
  some (a,v)).bind fun((b,d):Int×Int)=>
 (if decide (256<=b) then
  (chk ((0:Int)<=8)).bind fun g=>
  some ((b.fdiv (2^(min (8:Int).toNat (IntKind.u64).bits))),(w64 (d+8)))
 else
  some (b,d)).bind fun((c,e):Int×Int)=>
 (chk ((0:Int)<=(IntKind.u8.wrap (c))/\ (IntKind.u8.wrap (c))<((str [0,1,2,2,3,3,3,3,4,4,4,4,4,4,4,4,5,5,5,5,5,5,5,5,5,5,5,5,5,5,5,5,6,6,6,6,6,6,6,6,6,6,6,6,6,6,6,6,6,6,6,6,6,6,6,6,6,6,6,6,6,6,6,6,7,7,7,7,7,7,7,7,7,7,7,7,7,7,7,7,7,7,7,7,7,7,7,7,7,7,7,7,7,7,7,7,7,7,7,7,7,7,7,7,7,7,7,7,7,7,7,7,7,7,7,7,7,7,7,7,7,7,7,7,7,7,7,7,8,8,8,8,8,8,8,8,8,8,8,8,8,8,8,8,8,8,8,8,8,8,8,8,8,8,8,8,8,8,8,8,8,8,8,8,8,8,8,8,8,8,8,8,8,8,8,8,8,8,8,8,8,8,8,8,8,8,8,8,8,8,8,8,8,8,8,8,8,8,8,8,8,8,8,8,8,8,8,8,8,8,8,8,8,8,8,8,8,8,8,8,8,8,8,8,8,8,8,8,8,8,8,8,8,8,8,8,8,8,8,8,8,8,8,8,8,8,8,8,8,8,8,8,8,8,8,8]).size:Int))).bind fun h=>
 some (w64 (e+(w64 ((((str [0,1,2,2,3,3,3,3,4,4,4,4,4,4,4,4,5,5,5,5,5,5,5,5,5,5,5,5,5,5,5,5,6,6,6,6,6,6,6,6,6,6,6,6,6,6,6,6,6,6,6,6,6,6,6,6,6,6,6,6,6,6,6,6,7,7,7,7,7,7,7,7,7,7,7,7,7,7,7,7,7,7,7,7,7,7,7,7,7,7,7,7,7,7,7,7,7,7,7,7,7,7,7,7,7,7,7,7,7,7,7,7,7,7,7,7,7,7,7,7,7,7,7,7,7,7,7,7,8,8,8,8,8,8,8,8,8,8,8,8,8,8,8,8,8,8,8,8,8,8,8,8,8,8,8,8,8,8,8,8,8,8,8,8,8,8,8,8,8,8,8,8,8,8,8,8,8,8,8,8,8,8,8,8,8,8,8,8,8,8,8,8,8,8,8,8,8,8,8,8,8,8,8,8,8,8,8,8,8,8,8,8,8,8,8,8,8,8,8,8,8,8,8,8,8,8,8,8,8,8,8,8,8,8,8,8,8,8,8,8,8,8,8,8,8,8,8,8,8,8,8,8,8,8,8,8]).data.toList.getD (IntKind.u8.wrap (c)).toNat 0).toNat:Int)))))
def zq56(x:IK .u64):Option (Int):=
 (zq57 x).bind fun r=>
 some r
def zq3(x:Int):Option (Bool):=
 some (x !=x)
def zq1(x:Int)(b:Int):Option (Bool):=
 (zq3 x).bind fun r=>
 (if r then(zq3 b).bind fun a=>
 if !a then some true else some (decide (x<b))else some (decide (x<b))).bind fun(v:Bool)=>
 some v
def yel(a:Int):Int×(List Int)->Option (Lp (Int×(List Int)) ((List Int)))
 |(c,b)=>
  (if decide (a<c) then(idx b c).bind fun e=>
  (idx b (w64 (c-1))).bind fun f=>
  (zq1 e f).bind fun g=>
  some g else some false).bind fun(h:Bool)=>
  if h then
   (idx b (w64 (c-1))).bind fun d=>
   (idx b c).bind fun i=>
   (idx b c).bind fun j=>
   (idx (b.set c.toNat d) (w64 (c-1))).bind fun k=>
   some (.nx ((w64 (c-1)),((b.set c.toNat d).set (w64 (c-1)).toNat i)))
  else
   some (.dn b)
def yek(a:Int)(b:Int):Int×(List Int)->Option (Lp (Int×(List Int)) ((List Int)))
 |(v,c)=>
  if decide (v<b) then
   (iter (yel a) (v,c)).bind fun(d:List Int)=>
   some (.nx ((w64 (v+1)),d))
  else
   some (.dn c)
def yqb(c:List Int)(a:Int)(b:Int):Option ((List Int)):=
 iter (yek a b) ((w64 (a+1)),c)
def yd5(hi:Int)(first:Int):Int×(List Int)->Option (Lp (Int×(List Int)) ((List Int)))
 |(v,a)=>
  if decide (hi<=(w64 ((w64 (2*v))+1))) then
   some (.dn a)
  else
   ((if decide ((w64 ((w64 ((w64 (2*v))+1))+1))<hi) then(idx a (w64 (first+(w64 ((w64 (2*v))+1))))).bind fun e=>
   (idx a (w64 ((w64 (first+(w64 ((w64 (2*v))+1))))+1))).bind fun f=>
   (zq1 e f).bind fun g=>
   some g else some false).bind fun(h:Bool)=>
   if h then
    some (w64 ((w64 ((w64 (2*v))+1))+1))
   else
    some (w64 ((w64 (2*v))+1))).bind fun(b:Int)=>
   (idx a (w64 (first+v))).bind fun i=>
   (idx a (w64 (first+b))).bind fun j=>
   (zq1 i j).bind fun k=>
   if !k then
    some (.dn a)
   else
    (idx a (w64 (first+b))).bind fun c=>
    (idx a (w64 (first+v))).bind fun d=>
    (idx a (w64 (first+v))).bind fun l=>
    (idx (a.set (w64 (first+v)).toNat c) (w64 (first+b))).bind fun m=>
    some (.nx (b,((a.set (w64 (first+v)).toNat c).set (w64 (first+b)).toNat d)))
def yl3(a:List Int)(lo:Int)(hi:Int)(first:Int):Option ((List Int)):=
 iter (yd5 hi first) (lo,a)
def yen(a:Int)(b:Int):Int×(List Int)->Option (Lp (Int×(List Int)) ((List Int)))
 |(v,c)=>
  if decide (0<=v) then
   (yl3 c v (w64 (b-a)) a).bind fun r=>
   some (.nx ((w64 (v-1)),r))
  else
   some (.dn c)
def yem(a:Int):Int×(List Int)->Option (Lp (Int×(List Int)) ((List Int)))
 |(c,b)=>
  if decide (0<=c) then
   (idx b (w64 (a+c))).bind fun d=>
   (idx b a).bind fun e=>
   (idx b a).bind fun g=>
   (idx (b.set a.toNat d) (w64 (a+c))).bind fun h=>
   (yl3 ((b.set a.toNat d).set (w64 (a+c)).toNat e) 0 c a).bind fun f=>
   some (.nx ((w64 (c-1)),f))
  else
   some (.dn b)
def yqc(d:List Int)(a:Int)(b:Int):Option ((List Int)):=
 (chk ((2:Int)≠0)).bind fun u=>
 (iter (yen a b) ((w64 ((w64 ((w64 (b-a))-1)).tdiv 2)),d)).bind fun(c:List Int)=>
 iter (yem a) ((w64 ((w64 (b-a))-1)),c)
def yhw(g:List Int)(a:Int)(b:Int)(f:Int):Option (Int×Int×Int):=
 (idx g b).bind fun c=>
 (idx g a).bind fun d=>
 (zq1 c d).bind fun e=>
 if e then
  some (b,a,(w64 (f+1)))
 else
  some (a,b,f)
def ymd(f:List Int)(a:Int)(b:Int)(c:Int)(g:Int):Option (Int×Int):=
 (yhw f a b g).bind fun r=>
 (yhw f r.2.1 c r.2.2).bind fun d=>
 (yhw f r.1 d.1 d.2.2).bind fun e=>
 some (e.2.1,e.2.2)
def yju(c:List Int)(a:Int)(b:Int):Option (Int×Int):=
 (ymd c (w64 (a-1)) a (w64 (a+1)) b).bind fun r=>
 some (r.1,r.2)
def yqd(m:List Int)(a:Int)(b:Int):Option (Int×Int):=
 (chk ((4:Int)≠0)).bind fun u=>
 (chk ((4:Int)≠0)).bind fun k=>
 (chk ((4:Int)≠0)).bind fun l=>
 (if decide (8<=(w64 (b-a))) then
  (if decide (50<=(w64 (b-a))) then
   (yju m (w64 (a+(w64 ((w64 ((w64 (b-a)).tdiv 4))*1)))) 0).bind fun r=>
   (yju m (w64 (a+(w64 ((w64 ((w64 (b-a)).tdiv 4))*2)))) r.2).bind fun c=>
   (yju m (w64 (a+(w64 ((w64 ((w64 (b-a)).tdiv 4))*3)))) c.2).bind fun d=>
   some (r.1,c.1,d.1,d.2)
  else
   some ((w64 (a+(w64 ((w64 ((w64 (b-a)).tdiv 4))*1)))),(w64 (a+(w64 ((w64 ((w64 (b-a)).tdiv 4))*2)))),(w64 (a+(w64 ((w64 ((w64 (b-a)).tdiv 4))*3)))),(0:Int))).bind fun((g,h,i,j):Int×Int×Int×Int)=>
  (ymd m g h i j).bind fun e=>
  some (e.1,e.2)
 else
  some ((w64 (a+(w64 ((w64 ((w64 (b-a)).tdiv 4))*2)))),(0:Int))).bind fun((v,f):Int×Int)=>
 if f==0 then
  some (v,1)
 else
  if f==12 then
   some (v,2)
  else
   some (v,0)
def yd6:Int×Int×(List Int)->Option (Lp (Int×Int×(List Int)) ((List Int)))
 |(v,b,a)=>
  if decide (v<b) then
   (idx a b).bind fun c=>
   (idx a v).bind fun d=>
   (idx a v).bind fun e=>
   (idx (a.set v.toNat c) b).bind fun f=>
   some (.nx ((w64 (v+1)),(w64 (b-1)),((a.set v.toNat c).set b.toNat d)))
  else
   some (.dn a)
def yp7(c:List Int)(a:Int)(b:Int):Option ((List Int)):=
 iter (yd6) (a,(w64 (b-1)),c)
def yej(b:Int)(a:List Int):Int->Option (Lp (Int) (Int))
 |j2=>
  (if decide (j2<b) then(idx a j2).bind fun c=>
  (idx a (w64 (j2-1))).bind fun d=>
  (zq1 c d).bind fun e=>
  some (!e)else some false).bind fun(f:Bool)=>
  if f then
   some (.nx (w64 (j2+1)))
  else
   some (.dn j2)
def yei:Int×(List Int)->Option (Lp (Int×(List Int)) ((List Int)))
 |(b,a)=>
  if decide (1<=b) then
   (idx a b).bind fun d=>
   (idx a (w64 (b-1))).bind fun e=>
   (zq1 d e).bind fun g=>
   if !g then
    some (.dn a)
   else
    (idx a (w64 (b-1))).bind fun c=>
    (idx a b).bind fun f=>
    (idx a b).bind fun h=>
    (idx (a.set b.toNat c) (w64 (b-1))).bind fun i=>
    some (.nx ((w64 (b-1)),((a.set b.toNat c).set (w64 (b-1)).toNat f)))
  else
   some (.dn a)
def yeh(b:Int):Int×(List Int)->Option (Lp (Int×(List Int)) ((List Int)))
 |(c,a)=>
  if decide (c<b) then
   (idx a c).bind fun e=>
   (idx a (w64 (c-1))).bind fun f=>
   (zq1 e f).bind fun h=>
   if !h then
    some (.dn a)
   else
    (idx a (w64 (c-1))).bind fun d=>
    (idx a c).bind fun g=>
    (idx a c).bind fun i=>
    (idx (a.set c.toNat d) (w64 (c-1))).bind fun j=>
    some (.nx ((w64 (c+1)),((a.set c.toNat d).set (w64 (c-1)).toNat g)))
  else
   some (.dn a)
def yeg(a:Int)(b:Int):Int×Int×(List Int)->Option (Lp (Int×Int×(List Int)) (Fl (Bool×(List Int)) ((List Int))))
 |(j,v,c)=>
  if decide (v<5) then
   flb ((iter (yej b c) j).bind fun(m:Int)=>
   if m==b then
    some (.ret (.dn (.ret (true,c))))
   else
    if decide ((w64 (b-a))<50) then
     some (.ret (.dn (.ret (false,c))))
    else
     (idx c (w64 (m-1))).bind fun e=>
     (idx c m).bind fun i=>
     (idx c m).bind fun k=>
     (idx (c.set m.toNat e) (w64 (m-1))).bind fun l=>
     (if decide (2<=(w64 (m-a))) then
      (iter (yei) ((w64 (m-1)),((c.set m.toNat e).set (w64 (m-1)).toNat i))).bind fun(f:List Int)=>
      some f
     else
      some ((c.set m.toNat e).set (w64 (m-1)).toNat i)).bind fun(d:List Int)=>
     if decide (2<=(w64 (b-m))) then
      (iter (yeh b) ((w64 (m+1)),d)).bind fun(g:List Int)=>
      some (.go (m,g))
     else
      some (.go (m,d))) fun((n,h):Int×(List Int))=>
   some (.nx (n,(w64 (v+1)),h))
  else
   some (.dn (.go c))
def yqa(d:List Int)(a:Int)(b:Int):Option (Bool×(List Int)):=
 flb (iter (yeg a b) ((w64 (a+1)),(0:Int),d)) fun(c:List Int)=>
 some (false,c)
def yef(a:Int)(f:Int)(b:List Int):Int->Option (Lp (Int) (Int))
 |c=>
  (if decide (c<=f) then(idx b a).bind fun d=>
  (idx b c).bind fun e=>
  (zq1 d e).bind fun g=>
  some (!g)else some false).bind fun(h:Bool)=>
  if h then
   some (.nx (w64 (c+1)))
  else
   some (.dn c)
def yee(a:Int)(b:List Int)(f:Int):Int->Option (Lp (Int) (Int))
 |c=>
  (if decide (f<=c) then(idx b a).bind fun d=>
  (idx b c).bind fun e=>
  (zq1 d e).bind fun g=>
  some g else some false).bind fun(h:Bool)=>
  if h then
   some (.nx (w64 (c-1)))
  else
   some (.dn c)
def yed(a:Int):Int×Int×(List Int)->Option (Lp (Int×Int×(List Int)) (Int×(List Int)))
 |(v,g,b)=>
  (iter (yef a g b) v).bind fun(c:Int)=>
  (iter (yee a b c) g).bind fun(d:Int)=>
  if decide (d<c) then
   some (.dn (c,b))
  else
   (idx b d).bind fun e=>
   (idx b c).bind fun f=>
   (idx b c).bind fun h=>
   (idx (b.set c.toNat e) d).bind fun i=>
   some (.nx ((w64 (c+1)),(w64 (d-1)),((b.set c.toNat e).set d.toNat f)))
def yp9(i:List Int)(a:Int)(b:Int)(j:Int):Option (Int×(List Int)):=
 (idx i j).bind fun d=>
 (idx i a).bind fun e=>
 (idx i a).bind fun g=>
 (idx (i.set a.toNat d) j).bind fun h=>
 (iter (yed a) ((w64 (a+1)),(w64 (b-1)),((i.set a.toNat d).set j.toNat e))).bind fun((f,c):Int×(List Int))=>
 some (f,c)
def yec(j:List Int)(a:Int)(b:Int)(i:Int)(e:Int)(f:Int):Int->Option (Lp (Int) (Int))
 |v=>
  (if decide (v<=(w64 (b-1))) then(idx ((j.set a.toNat e).set i.toNat f) v).bind fun c=>
  (idx ((j.set a.toNat e).set i.toNat f) a).bind fun d=>
  (zq1 c d).bind fun g=>
  some g else some false).bind fun(h:Bool)=>
  if h then
   some (.nx (w64 (v+1)))
  else
   some (.dn v)
def yeb(k:List Int)(a:Int)(j:Int)(e:Int)(f:Int)(g:Int):Int->Option (Lp (Int) (Int))
 |b=>
  (if decide (g<=b) then(idx ((k.set a.toNat e).set j.toNat f) b).bind fun c=>
  (idx ((k.set a.toNat e).set j.toNat f) a).bind fun d=>
  (zq1 c d).bind fun h=>
  some (!h)else some false).bind fun(i:Bool)=>
  if i then
   some (.nx (w64 (b-1)))
  else
   some (.dn b)
def yea(a:Int)(f:Int)(b:List Int):Int->Option (Lp (Int) (Int))
 |c=>
  (if decide (c<=f) then(idx b c).bind fun d=>
  (idx b a).bind fun e=>
  (zq1 d e).bind fun g=>
  some g else some false).bind fun(h:Bool)=>
  if h then
   some (.nx (w64 (c+1)))
  else
   some (.dn c)
def yd9(a:Int)(b:List Int)(d:Int):Int->Option (Lp (Int) (Int))
 |c=>
  (if decide (d<=c) then(idx b c).bind fun e=>
  (idx b a).bind fun f=>
  (zq1 e f).bind fun h=>
  some (!h)else some false).bind fun(g:Bool)=>
  if g then
   some (.nx (w64 (c-1)))
  else
   some (.dn c)
def yd8(a:Int):Int×Int×(List Int)->Option (Lp (Int×Int×(List Int)) (Int×(List Int)))
 |(h,g,b)=>
  (iter (yea a g b) h).bind fun(c:Int)=>
  (iter (yd9 a b c) g).bind fun(d:Int)=>
  if decide (d<c) then
   some (.dn (d,b))
  else
   (idx b d).bind fun e=>
   (idx b c).bind fun f=>
   (idx b c).bind fun i=>
   (idx (b.set c.toNat e) d).bind fun j=>
   some (.nx ((w64 (c+1)),(w64 (d-1)),((b.set c.toNat e).set d.toNat f)))
def yp8(x:List Int)(a:Int)(b:Int)(p:Int):Option (Int×Bool×(List Int)):=
 (idx x p).bind fun d=>
 (idx x a).bind fun e=>
 (idx x a).bind fun v=>
 (idx (x.set a.toNat d) p).bind fun w=>
 (iter (yec x a b p d e) (w64 (a+1))).bind fun(h:Int)=>
 (iter (yeb x a p d e h) (w64 (b-1))).bind fun(g:Int)=>
 if decide (g<h) then
  (idx ((x.set a.toNat d).set p.toNat e) a).bind fun i=>
  (idx ((x.set a.toNat d).set p.toNat e) g).bind fun l=>
  (idx ((x.set a.toNat d).set p.toNat e) g).bind fun o=>
  (idx (((x.set a.toNat d).set p.toNat e).set g.toNat i) a).bind fun q=>
  some (g,true,((((x.set a.toNat d).set p.toNat e).set g.toNat i).set a.toNat l))
 else
  (idx ((x.set a.toNat d).set p.toNat e) g).bind fun j=>
  (idx ((x.set a.toNat d).set p.toNat e) h).bind fun m=>
  (idx ((x.set a.toNat d).set p.toNat e) h).bind fun r=>
  (idx (((x.set a.toNat d).set p.toNat e).set h.toNat j) g).bind fun s=>
  (iter (yd8 a) ((w64 (h+1)),(w64 (g-1)),((((x.set a.toNat d).set p.toNat e).set h.toNat j).set g.toNat m))).bind fun((f,c):Int×(List Int))=>
  (idx c a).bind fun k=>
  (idx c f).bind fun n=>
  (idx c f).bind fun t=>
  (idx (c.set f.toNat k) a).bind fun u=>
  some (f,false,((c.set f.toNat k).set a.toNat n))
def yd4(length:Int):Option ((IK .u64)):=
 (zq56 (⟨(IntKind.u64.wrap (length))⟩:IK .u64)).bind fun r=>
 (chk ((0:Int)<=r)).bind fun u=>
 some (⟨(IntKind.u64.wrap (1*2^(min (r:Int).toNat (IntKind.u64).bits)))⟩:IK .u64)
def ydq(r:IK .u64):Option ((IK .u64)×(IK .u64)):=
 (chk ((0:Int)<=13)).bind fun a=>
 (chk ((0:Int)<=7)).bind fun b=>
 (chk ((0:Int)<=17)).bind fun c=>
 some ((⟨(IntKind.u64.wrap ((BitVec.ofInt (IntKind.u64).bits (IntKind.u64.wrap ((BitVec.ofInt (IntKind.u64).bits (IntKind.u64.wrap ((BitVec.ofInt (IntKind.u64).bits r.v^^^BitVec.ofInt (IntKind.u64).bits (IntKind.u64.wrap (r.v*2^(min (13:Int).toNat (IntKind.u64).bits)))).toNat:Int))^^^BitVec.ofInt (IntKind.u64).bits ((IntKind.u64.wrap ((BitVec.ofInt (IntKind.u64).bits r.v^^^BitVec.ofInt (IntKind.u64).bits (IntKind.u64.wrap (r.v*2^(min (13:Int).toNat (IntKind.u64).bits)))).toNat:Int)).fdiv (2^(min (7:Int).toNat (IntKind.u64).bits)))).toNat:Int))^^^BitVec.ofInt (IntKind.u64).bits (IntKind.u64.wrap ((IntKind.u64.wrap ((BitVec.ofInt (IntKind.u64).bits (IntKind.u64.wrap ((BitVec.ofInt (IntKind.u64).bits r.v^^^BitVec.ofInt (IntKind.u64).bits (IntKind.u64.wrap (r.v*2^(min (13:Int).toNat (IntKind.u64).bits)))).toNat:Int))^^^BitVec.ofInt (IntKind.u64).bits ((IntKind.u64.wrap ((BitVec.ofInt (IntKind.u64).bits r.v^^^BitVec.ofInt (IntKind.u64).bits (IntKind.u64.wrap (r.v*2^(min (13:Int).toNat (IntKind.u64).bits)))).toNat:Int)).fdiv (2^(min (7:Int).toNat (IntKind.u64).bits)))).toNat:Int))*2^(min (17:Int).toNat (IntKind.u64).bits)))).toNat:Int))⟩:IK .u64),(⟨(IntKind.u64.wrap ((BitVec.ofInt (IntKind.u64).bits (IntKind.u64.wrap ((BitVec.ofInt (IntKind.u64).bits (IntKind.u64.wrap ((BitVec.ofInt (IntKind.u64).bits r.v^^^BitVec.ofInt (IntKind.u64).bits (IntKind.u64.wrap (r.v*2^(min (13:Int).toNat (IntKind.u64).bits)))).toNat:Int))^^^BitVec.ofInt (IntKind.u64).bits ((IntKind.u64.wrap ((BitVec.ofInt (IntKind.u64).bits r.v^^^BitVec.ofInt (IntKind.u64).bits (IntKind.u64.wrap (r.v*2^(min (13:Int).toNat (IntKind.u64).bits)))).toNat:Int)).fdiv (2^(min (7:Int).toNat (IntKind.u64).bits)))).toNat:Int))^^^BitVec.ofInt (IntKind.u64).bits (IntKind.u64.wrap ((IntKind.u64.wrap ((BitVec.ofInt (IntKind.u64).bits (IntKind.u64.wrap ((BitVec.ofInt (IntKind.u64).bits r.v^^^BitVec.ofInt (IntKind.u64).bits (IntKind.u64.wrap (r.v*2^(min (13:Int).toNat (IntKind.u64).bits)))).toNat:Int))^^^BitVec.ofInt (IntKind.u64).bits ((IntKind.u64.wrap ((BitVec.ofInt (IntKind.u64).bits r.v^^^BitVec.ofInt (IntKind.u64).bits (IntKind.u64.wrap (r.v*2^(min (13:Int).toNat (IntKind.u64).bits)))).toNat:Int)).fdiv (2^(min (7:Int).toNat (IntKind.u64).bits)))).toNat:Int))*2^(min (17:Int).toNat (IntKind.u64).bits)))).toNat:Int))⟩:IK .u64))
def yeo(a:Int)(b:Int)(r:(IK .u64)):Int×(List Int)×Int->Option (Lp (Int×(List Int)×Int) ((List Int)))
 |(v,c,g)=>
  (chk ((4:Int)≠0)).bind fun i=>
  if decide (v<=(w64 ((w64 (a+(w64 ((w64 ((w64 (b-a)).tdiv 4))*2))))+1))) then
   (ydq (⟨g⟩:IK .u64)).bind fun d=>
   (if decide ((w64 (b-a))<=(w64 ((IntKind.u64.wrap ((BitVec.ofInt (IntKind.u64).bits d.1.v&&&BitVec.ofInt (IntKind.u64).bits (IntKind.u64.wrap (r.v-1))).toNat:Int))))) then
    some (w64 ((w64 ((IntKind.u64.wrap ((BitVec.ofInt (IntKind.u64).bits d.1.v&&&BitVec.ofInt (IntKind.u64).bits (IntKind.u64.wrap (r.v-1))).toNat:Int))))-(w64 (b-a))))
   else
    some (w64 ((IntKind.u64.wrap ((BitVec.ofInt (IntKind.u64).bits d.1.v&&&BitVec.ofInt (IntKind.u64).bits (IntKind.u64.wrap (r.v-1))).toNat:Int))))).bind fun(e:Int)=>
   (idx c (w64 (a+e))).bind fun f=>
   (idx c v).bind fun h=>
   (idx c v).bind fun j=>
   (idx (c.set v.toNat f) (w64 (a+e))).bind fun k=>
   some (.nx ((w64 (v+1)),((c.set v.toNat f).set (w64 (a+e)).toNat h),d.2.v))
  else
   some (.dn c)
def yqe(c:List Int)(a:Int)(b:Int):Option ((List Int)):=
 if decide (8<=(w64 (b-a))) then
  (yd4 (w64 (b-a))).bind fun r=>
  (chk ((4:Int)≠0)).bind fun u=>
  iter (yeo a b r) ((w64 ((w64 (a+(w64 ((w64 ((w64 (b-a)).tdiv 4))*2))))-1)),c,(IntKind.u64.wrap ((w64 (b-a)))))
 else
  some c
def yd7(B:(List Int)->Int->Int->Int->Option ((List Int))):Int×Int×Int×Bool×Bool×(List Int)->Option (Lp (Int×Int×Int×Bool×Bool×(List Int)) ((List Int)))
 |(x,y,w,z,C,b)=>
  if decide ((w64 (y-x))<=12) then
   (yqb b x y).bind fun r=>
   some (.dn r)
  else
   if w==0 then
    (yqc b x y).bind fun l=>
    some (.dn l)
   else
    (if !z then
     (yqe b x y).bind fun m=>
     some ((w64 (w-1)),m)
    else
     some (w,b)).bind fun((t,d):Int×(List Int))=>
    (yqd d x y).bind fun g=>
    (if g.2==2 then
     (yp7 d x y).bind fun n=>
     some ((w64 ((w64 (y-1))-(w64 (g.1-x)))),(1:Int),n)
    else
     some (g.1,g.2,d)).bind fun((p,A,e):Int×Int×(List Int))=>
    flb ((if z then if C then some (A==1)else some false else some false).bind fun(v:Bool)=>
    if v then
     (yqa e x y).bind fun h=>
     if h.1 then
      some (.ret (.dn h.2))
     else
      some (.go h.2)
    else
     some (.go e)) fun(c:List Int)=>
    (if decide (0<x) then(idx c (w64 (x-1))).bind fun o=>
    (idx c p).bind fun q=>
    (zq1 o q).bind fun i=>
    some (!i)else some false).bind fun(s:Bool)=>
    if s then
     (yp9 c x y p).bind fun f=>
     some (.nx (f.1,y,t,z,C,f.2))
    else
     (yp8 c x y p).bind fun a=>
     (chk ((8:Int)≠0)).bind fun u=>
     if decide ((w64 (a.1-x))<(w64 (y-a.1))) then
      (B a.2.2 x a.1 t).bind fun j=>
      some (.nx ((w64 (a.1+1)),y,t,(decide ((w64 ((w64 (y-x)).tdiv 8))<=(w64 (a.1-x)))),a.2.1,j))
     else
      (B a.2.2 (w64 (a.1+1)) y t).bind fun k=>
      some (.nx (x,a.1,t,(decide ((w64 ((w64 (y-x)).tdiv 8))<=(w64 (y-a.1)))),a.2.1,k))
def yci(d:(List Int)->Int->Int->Int->Option ((List Int)))(c:List Int)(a:Int)(b:Int)(limit:Int):Option ((List Int)):=
 iter (yd7 d) (a,b,limit,true,true,c)
def yfp:Nat->(List Int)->Int->Int->Int->Option ((List Int))
 |0=>fun _ _ _ _=>none
 |n+1=>yci (yfp n)
def yu9(c:List Int)(a:Int)(b:Int)(limit:Int):Option ((List Int)):=yfp 4294967296 c a b limit
def ymk(x:List Int):Option ((List Int)):=
 (zq56 (⟨(IntKind.u64.wrap ((x.length:Int)))⟩:IK .u64)).bind fun r=>
 (yu9 x 0 (x.length:Int) r).bind fun a=>
 some a
def yh2(s:List Int):Option ((List Int)):=
 (chk (([]:List Int).length+s.length<=4294967296)).bind fun u=>
 some s
def Bc(s:List Int):Option ((List Int)):=
 comM s
def zq50(t:bA)(f:List Int):Option (vT):=
 (idx f 0).bind fun a=>
 (zq54 t a).bind fun b=>
 (idx f (w64 ((f.length:Int)-1))).bind fun c=>
 (zq54 t c).bind fun d=>
 (zq27 t d).bind fun e=>
 some (⟨b.d9,e⟩:vT)
def ylt(t:bA)(f:bL)(pieces:List (List Int)):Int×(List Int)->Option (Lp (Int×(List Int)) ((List Int)))
 |(v,b)=>
  if decide (v<(pieces.length:Int)) then
   (idx pieces (w64 (v-1))).bind fun a=>
   (idx pieces v).bind fun c=>
   (zq50 t c).bind fun d=>
   (zq50 t a).bind fun e=>
   (idx a (w64 ((a.length:Int)-1))).bind fun h=>
   (zq54 t h).bind fun i=>
   (idx c 0).bind fun j=>
   (zq54 t j).bind fun k=>
   (zq24 t f i k).bind fun g=>
   (chk (b.length+([(w64 ((w64 (d.vX-e.To))-g))]:List Int).length<=4294967296)).bind fun l=>
   some (.nx ((w64 (v+1)),(b++([(w64 ((w64 (d.vX-e.To))-g))]:List Int))))
  else
   some (.dn b)
def zq31(t:bA)(f:bL)(pieces:List (List Int)):Option ((List Int)):=
 (iter (ylt t f pieces) ((1:Int),([]:List Int))).bind fun(a:List Int)=>
 some a
def zq42(t:bA)(r:cB)(d:bB):Option (Int):=
 (idx d.bE (w64 ((d.bE.length:Int)-1))).bind fun a=>
 (zq50 t a).bind fun b=>
 (idx d.bE 0).bind fun c=>
 (zq50 t c).bind fun e=>
 some (w64 ((w64 ((w64 (r.iU+b.To))-e.vX))+r.iV))
def yhs(b:List (List Int))(d:bB):Int×(List Int)->Option (Lp (Int×(List Int)) (Fl (Int) ((List Int))))
 |(v,s)=>
  if decide (v<(d.bE.length:Int)) then
   (idx d.bE v).bind fun e=>
   (zq37 b e).bind fun a=>
   if !a then
    some (.dn (.ret 1))
   else
    (chk (s.length+e.length<=4294967296)).bind fun u=>
    some (.nx ((w64 (v+1)),(s++e)))
  else
   some (.dn (.go s))
def ydp(t:bA)(r:cB)(d:bB):Int->Option (Lp (Int) (Fl (Int) (Unit)))
 |a=>
  if decide (a<(d.bE.length:Int)) then
   (idx d.bE a).bind fun c=>
   (zq50 t c).bind fun b=>
   if decide (r.jV<(w64 (b.To-b.vX))) then
    some (.dn (.ret 2))
   else
    some (.nx (w64 (a+1)))
  else
   some (.dn (.go ()))
def ydo(r:cB)(b:(List Int)):Int->Option (Lp (Int) (Fl (Int) (Unit)))
 |a=>
  if decide (a<(b.length:Int)) then
   (idx b a).bind fun c=>
   if decide (c<r.jM) then
    some (.dn (.ret 3))
   else
    some (.nx (w64 (a+1)))
  else
   some (.dn (.go ()))
def zq16(t:bA)(f:bL)(j:List (List Int))(r:cB)(d:bB):Option (Int):=
 (zq55 (d.bE.length:Int) 1 3).bind fun c=>
 if !c then
  some 1
 else
  flb (iter (yhs j d) ((0:Int),([]:List Int))) fun(e:List Int)=>
  (ymk e).bind fun b=>
  (yh2 b).bind fun g=>
  (Bc g).bind fun h=>
  if decide ((h.length:Int)<(b.length:Int)) then
   some 1
  else
   flb (iter (ydp t r d) (0:Int)) fun(_:Unit)=>
   (zq31 t f d.bE).bind fun i=>
   flb (iter (ydo r i) (0:Int)) fun(_:Unit)=>
   (zq42 t r d).bind fun a=>
   if decide (r.kP<a) then
    some 4
   else
    some 0
def yhn(t:bA)(d:List Int):Int×Int×(List Bool)->Option (Lp (Int×Int×(List Bool)) (Fl (Lp (Int×Int×(List Bool)) (Fl (Lp (Int×Int×Int×(List Bool)) (Fl (Bool) (Int))) (Int×(List Bool)))) (Int×(List Bool))))
 |(i,c,b)=>
  if decide (c<(d.length:Int)) then
   (idx d c).bind fun e=>
   (zq52 t e).bind fun a=>
   (chk ((0:Int)<=a/\ (a:Int)<12)).bind fun u=>
   (idx b a).bind fun f=>
   if f then
    some (.dn (.ret (.dn (.ret (.dn (.ret false))))))
   else
    (chk ((0:Int)<=a/\ (a:Int)<12)).bind fun h=>
    (idx b a).bind fun g=>
    some (.nx ((w64 (i+1)),(w64 (c+1)),(b.set a.toNat true)))
  else
   some (.dn (.go (i,b)))
def yfl(t:bA)(e:bB):Int×Int×(List Bool)->Option (Lp (Int×Int×(List Bool)) (Fl (Lp (Int×Int×Int×(List Bool)) (Fl (Bool) (Int))) (Int×(List Bool))))
 |(f,a,b)=>
  if decide (a<(e.bE.length:Int)) then
   (idx e.bE a).bind fun c=>
   flb (iter (yhn t c) (f,(0:Int),b)) fun((g,d):Int×(List Bool))=>
   some (.nx (g,(w64 (a+1)),d))
  else
   some (.dn (.go (f,b)))
def ycg(t:bA)(f:bL)(l:List (List Int))(r:cB)(m:List bB):Int×Int×Int×(List Bool)->Option (Lp (Int×Int×Int×(List Bool)) (Fl (Bool) (Int)))
 |(p,v,a,c)=>
  if decide (a<(m.length:Int)) then
   (idx m a).bind fun e=>
   (zq16 t f l r e).bind fun d=>
   (if d !=0 then some true else(idx e.bE 0).bind fun g=>
   (idx g 0).bind fun h=>
   some (decide (h<=v))).bind fun(i:Bool)=>
   if i then
    some (.dn (.ret false))
   else
    (idx e.bE 0).bind fun j=>
    (idx j 0).bind fun k=>
    flb (iter (yfl t e) (p,(0:Int),c)) fun((n,b):Int×(List Bool))=>
    some (.nx (n,k,(w64 (a+1)),b))
  else
   some (.dn (.go p))
def zq32(t:bA)(f:bL)(a:List (List Int))(r:cB)(b:List bB):Option (Bool):=
 flb (iter (ycg t f a r b) ((0:Int),(0:Int),(0:Int),(List.replicate 12 (false:Bool)))) fun(c:Int)=>
 some (c==(t.bn.length:Int))
def zq6(t:bA)(f:bL)(c:List (List Int))(r:cB)(d:List bB):Option (Bool×Bool):=
 (zq14 t f c r).bind fun a=>
 if !a then
  some (false,false)
 else
  (zq32 t f c r d).bind fun b=>
  some (b,true)
def yg3(m:List bB)(v:Int)(d:Int):Int×(List Int)->Option (Lp (Int×(List Int)) (Fl (Lp (Int×(List Int)) (Fl (Lp (Int×(List Int)) (Fl (Bool) ((List Int)))) ((List Int)))) ((List Int))))
 |(b,c)=>
  (idx m v).bind fun e=>
  (idx e.bE d).bind fun f=>
  if decide (b<(f.length:Int)) then
   (idx m v).bind fun g=>
   (idx g.bE d).bind fun h=>
   (idx h b).bind fun i=>
   (yfw c i).bind fun l=>
   if l then
    some (.dn (.ret (.dn (.ret (.dn (.ret false))))))
   else
    (idx m v).bind fun j=>
    (idx j.bE d).bind fun k=>
    (idx k b).bind fun a=>
    (chk (c.length+([a]:List Int).length<=4294967296)).bind fun u=>
    some (.nx ((w64 (b+1)),(c++([a]:List Int))))
  else
   some (.dn (.go c))
def yfe(e:List bB)(v:Int):Int×(List Int)->Option (Lp (Int×(List Int)) (Fl (Lp (Int×(List Int)) (Fl (Bool) ((List Int)))) ((List Int))))
 |(a,c)=>
  (idx e v).bind fun b=>
  if decide (a<(b.bE.length:Int)) then
   flb (iter (yg3 e v a) ((0:Int),c)) fun(d:List Int)=>
   some (.nx ((w64 (a+1)),d))
  else
   some (.dn (.go c))
def yb3(t:bA)(f:bL)(n:List (List Int))(r:cB)(m:List bB):Int×(List Int)->Option (Lp (Int×(List Int)) (Fl (Bool) ((List Int))))
 |(v,e)=>
  if decide (v<(m.length:Int)) then
   (idx m v).bind fun g=>
   (zq71 t f n r g).bind fun h=>
   (if h !=0 then some true else if decide (0<v) then(idx m (w64 (v-1))).bind fun i=>
   (idx i.bE 0).bind fun j=>
   (idx j 0).bind fun a=>
   (idx m v).bind fun b=>
   (idx b.bE 0).bind fun c=>
   (idx c 0).bind fun d=>
   some (decide (d<=a))else some false).bind fun(k:Bool)=>
   if k then
    some (.dn (.ret false))
   else
    flb (iter (yfe m v) ((0:Int),e)) fun(l:List Int)=>
    some (.nx ((w64 (v+1)),l))
  else
   some (.dn (.go e))
def zq82(t:bA)(f:bL)(b:List (List Int))(r:cB)(c:List bB):Option (Bool):=
 flb (iter (yb3 t f b r c) ((0:Int),([]:List Int))) fun(a:List Int)=>
 some ((a.length:Int)==(t.bn.length:Int))
def zq59(t:bA)(f:bL)(c:List (List Int))(r:cB)(d:List bB):Option (Bool×Bool):=
 (zq69 t f c r).bind fun a=>
 if !a then
  some (false,false)
 else
  (zq82 t f c r d).bind fun b=>
  some (b,true)
def zq26(d:bB)(a:Int):Option (Bool):=
 (zq48 d.bE a).bind fun r=>
 some (decide (0<=r.1))
def yhz(s:List bB)(f:bB->Option (Bool)):Int->Option (Lp (Int) (Fl (Int) (Unit)))
 |v=>
  if decide (v<(s.length:Int)) then
   (idx s v).bind fun e=>
   (f e).bind fun r=>
   if r then
    some (.dn (.ret v))
   else
    some (.nx (w64 (v+1)))
  else
   some (.dn (.go ()))
def yvv(s:List bB)(f:bB->Option (Bool)):Option (Int):=
 flb (iter (yhz s f) (0:Int)) fun(_:Unit)=>
 some (-1)
def yvu(s:List bB)(a:Int):Option (Int):=
 yvv s (fun(b:bB)=>zq26 b a)
def zq25(a:List bB)(id:Int):Option (Int):=
 (yvu a id).bind fun r=>
 some r
def zq30(i:Int):Option (Int×Bool):=
 if decide (i<0) then
  some (0,false)
 else
  some (i,true)
def zq4(t:bA)(f:bL)(e:List (List Int))(r:cB)(g:List bB)(id:Int):Option (Int×Bool):=
 (zq14 t f e r).bind fun b=>
 (if !b then some true else(zq32 t f e r g).bind fun c=>
 some (!c)).bind fun(v:Bool)=>
 if v then
  some (0,false)
 else
  (zq25 g id).bind fun d=>
  (zq30 d).bind fun a=>
  some (a.1,a.2)
def yhm(t:bA)(f:List (List Int))(cut:Int):Int->Option (Lp (Int) (Fl (Bool) (Unit)))
 |a=>
  if decide (a<(f.length:Int)) then
   (idx f a).bind fun e=>
   (idx e (w64 ((e.length:Int)-1))).bind fun c=>
   (zq52 t c).bind fun b=>
   (chk ((0:Int)<=b)).bind fun d=>
   if (IntKind.i64.wrap ((BitVec.ofInt (IntKind.i64).bits (cut.fdiv (2^(min (b:Int).toNat (IntKind.i64).bits)))&&&BitVec.ofInt (IntKind.i64).bits 1).toNat:Int))==1 then
    some (.dn (.ret false))
   else
    some (.nx (w64 (a+1)))
  else
   some (.dn (.go ()))
def zq33(t:bA)(a:List (List Int))(cut:Int):Option (Bool):=
 (if decide (cut<0) then some true else(chk ((0:Int)<=(t.bn.length:Int))).bind fun u=>
 some (decide ((w64 (1*2^(min ((t.bn.length:Int):Int).toNat (IntKind.i64).bits)))<=cut))).bind fun(v:Bool)=>
 if v then
  some false
 else
  flb (iter (yhm t a cut) (0:Int)) fun(_:Unit)=>
  some true
def yhr(t:bA)(cut:Int)(e:List Int):Int×Int×(List (List Int))->Option (Lp (Int×Int×(List (List Int))) ((List (List Int))))
 |(b,a,j)=>
  if decide (a<(e.length:Int)) then
   ((idx e a).bind fun d=>
   (if a==(w64 ((e.length:Int)-1)) then some true else(zq52 t d).bind fun r=>
   (chk ((0:Int)<=r)).bind fun u=>
   some ((IntKind.i64.wrap ((BitVec.ofInt (IntKind.i64).bits (cut.fdiv (2^(min (r:Int).toNat (IntKind.i64).bits)))&&&BitVec.ofInt (IntKind.i64).bits 1).toNat:Int))==1)).bind fun(f:Bool)=>
   if f then
    (chk ((0:Int)<=b/\ (b:Int)<=(w64 (a+1))/\ (w64 (a+1))<=(e.length:Int))).bind fun h=>
    (yh2 ((e.take (w64 (a+1)).toNat).drop b.toNat)).bind fun c=>
    (chk (j.length+([c]:List (List Int)).length<=4294967296)).bind fun i=>
    some ((w64 (a+1)),(j++([c]:List (List Int))))
   else
    some (b,j)).bind fun((g,k):Int×(List (List Int)))=>
   some (.nx (g,(w64 (a+1)),k))
  else
   some (.dn j)
def ylz(t:bA)(a:List (List Int))(cut:Int):Int×(List (List Int))->Option (Lp (Int×(List (List Int))) ((List (List Int))))
 |(v,b)=>
  if decide (v<(a.length:Int)) then
   (idx a v).bind fun e=>
   (iter (yhr t cut e) ((0:Int),(0:Int),b)).bind fun(c:List (List Int))=>
   some (.nx ((w64 (v+1)),c))
  else
   some (.dn b)
def zq19(t:bA)(a:List (List Int))(cut:Int):Option ((List (List Int))):=
 (iter (ylz t a cut) ((0:Int),([]:List (List Int)))).bind fun(b:List (List Int))=>
 some b
def ylp(t:bA)(d:bB):Int×Int->Option (Lp (Int×Int) (Int))
 |(v,a)=>
  if decide (a<(d.bE.length:Int)) then
   (idx d.bE a).bind fun e=>
   (zq50 t e).bind fun b=>
   some (.nx ((w64 (v+(w64 (b.To-b.vX)))),(w64 (a+1))))
  else
   some (.dn v)
def ylo(r:cB)(b:(List Int)):Int×Int->Option (Lp (Int×Int) (Int))
 |(c,a)=>
  if decide (a<(b.length:Int)) then
   (idx b a).bind fun d=>
   some (.nx ((w64 (c+(if r.jd<d then r.jd else d))),(w64 (a+1))))
  else
   some (.dn c)
def zq47(t:bA)(f:bL)(r:cB)(d:bB):Option (Int):=
 (iter (ylp t d) ((w64 (r.iU+r.iV)),(0:Int))).bind fun(a:Int)=>
 (zq31 t f d.bE).bind fun b=>
 (iter (ylo r b) (a,(0:Int))).bind fun(c:Int)=>
 some c
def zq45(own:List (List Int))(b:bA)(c:bL)(e:List (List Int))(d:cB):Option (bI):=
 (zq16 b c e d (⟨own⟩:bB)).bind fun r=>
 if r !=0 then
  some (⟨1073741824,0⟩:bI)
 else
  (zq47 b c d (⟨own⟩:bB)).bind fun a=>
  some (⟨1,a⟩:bI)
def ylr(t:bA)(f:bL)(l:List (List Int))(r:cB)(pieces:List (List Int))(v:Int)(e:List Int):Int×(List (List bI))->Option (Lp (Int×(List (List bI))) ((List (List bI))))
 |(a,c)=>
  if decide (a<(pieces.length:Int)) then
   ((idx pieces a).bind fun d=>
   (idx c v).bind fun b=>
   (idx b a).bind fun k=>
   if v !=a then
    (idx (c.set v.toNat (b.set a.toNat (⟨1073741824,0⟩:bI))) v).bind fun g=>
    (zq45 ([e,d]:List (List Int)) t f l r).bind fun h=>
    (idx (b.set a.toNat (⟨1073741824,0⟩:bI)) a).bind fun i=>
    some ((c.set v.toNat (b.set a.toNat (⟨1073741824,0⟩:bI))).set v.toNat ((b.set a.toNat (⟨1073741824,0⟩:bI)).set a.toNat h))
   else
    some (c.set v.toNat (b.set a.toNat (⟨1073741824,0⟩:bI)))).bind fun(j:List (List bI))=>
   some (.nx ((w64 (a+1)),j))
  else
   some (.dn c)
def ylq(t:bA)(f:bL)(j:List (List Int))(r:cB)(pieces:List (List Int)):Int×(List bI)×(List (List bI))->Option (Lp (Int×(List bI)×(List (List bI))) ((List bI)×(List (List bI))))
 |(v,a,b)=>
  if decide (v<(pieces.length:Int)) then
   (idx pieces v).bind fun e=>
   (zq45 ([e]:List (List Int)) t f j r).bind fun c=>
   (idx a v).bind fun g=>
   (chk ((0:Int)<=(pieces.length:Int)/\ ((pieces.length:Int):Int)<=4294967296)).bind fun h=>
   (idx b v).bind fun i=>
   (iter (ylr t f j r pieces v e) ((0:Int),(b.set v.toNat (List.replicate (pieces.length:Int).toNat ((⟨0,0⟩:bI):bI))))).bind fun(d:List (List bI))=>
   some (.nx ((w64 (v+1)),(a.set v.toNat c),d))
  else
   some (.dn (a,b))
def zq46(t:bA)(f:bL)(e:List (List Int))(r:cB)(pieces:List (List Int)):Option (fq):=
 (chk ((0:Int)<=(pieces.length:Int)/\ ((pieces.length:Int):Int)<=4294967296)).bind fun c=>
 (chk ((0:Int)<=(pieces.length:Int)/\ ((pieces.length:Int):Int)<=4294967296)).bind fun d=>
 (iter (ylq t f e r pieces) ((0:Int),(List.replicate (pieces.length:Int).toNat ((⟨0,0⟩:bI):bI)),(List.replicate (pieces.length:Int).toNat (([]:List bI):List bI)))).bind fun((a,b):(List bI)×(List (List bI)))=>
 some (⟨pieces,a,b,([]:List ((Int×Int)×bI))⟩:fq)
def zq49(a:bI)(b:bI):Option (bI):=
 some (⟨(w64 (a.lZ+b.lZ)),(w64 (a.lT+b.lT))⟩:bI)
def zq0(x:Int)(b:Int):Option (Int):=
 (zq3 x).bind fun r=>
 (zq3 b).bind fun a=>
 if r then
  if a then
   some 0
  else
   some (-1)
 else
  if a then
   some 1
  else
   if decide (x<b) then
    some (-1)
   else
    if decide (b<x) then
     some 1
    else
     some 0
def ycd(a:List Int):Int->Option (Lp (Int) (Fl (Int) (Unit)))
 |v=>
  if decide (v<(a.length:Int)) then
   (idx a v).bind fun e=>
   if e !=0 then
    some (.dn (.ret e))
   else
    some (.nx (w64 (v+1)))
  else
   some (.dn (.go ()))
def zq2(a:List Int):Option (Int):=
 flb (iter (ycd a) (0:Int)) fun(_:Unit)=>
 some 0
def zq18(a:bI)(b:bI):Option (Int):=
 (zq0 a.lZ b.lZ).bind fun c=>
 (zq0 a.lT b.lT).bind fun d=>
 (zq2 ([c,d]:List Int)).bind fun e=>
 some e
def zq23(m:fq->Int->Int->Option (bI×(List ((Int×Int)×bI))))(x:fq)(i:Int)(k:Int)(l:Int):Option (bI×Bool×(List ((Int×Int)×bI))):=
 (if i==k then some true else(chk ((0:Int)<=i)).bind fun u=>
 if (IntKind.i64.wrap ((BitVec.ofInt (IntKind.i64).bits (l.fdiv (2^(min (i:Int).toNat (IntKind.i64).bits)))&&&BitVec.ofInt (IntKind.i64).bits 1).toNat:Int))==1 then some true else(chk ((0:Int)<=k)).bind fun g=>
 if (IntKind.i64.wrap ((BitVec.ofInt (IntKind.i64).bits (l.fdiv (2^(min (k:Int).toNat (IntKind.i64).bits)))&&&BitVec.ofInt (IntKind.i64).bits 1).toNat:Int))==1 then some true else(idx x.dF i).bind fun e=>
 (idx e k).bind fun b=>
 some (decide (1073741824<=b.lZ))).bind fun(v:Bool)=>
 if v then
  some ((⟨0,0⟩:bI),false,x.je)
 else
  (idx x.dF i).bind fun c=>
  (idx c k).bind fun d=>
  (chk ((0:Int)<=i)).bind fun h=>
  (chk ((0:Int)<=k)).bind fun j=>
  (m (⟨x.bP,x.eX,x.dF,x.je⟩:fq) (w64 (i+1)) (IntKind.i64.wrap ((BitVec.ofInt (IntKind.i64).bits (IntKind.i64.wrap ((BitVec.ofInt (IntKind.i64).bits l|||BitVec.ofInt (IntKind.i64).bits (w64 (1*2^(min (i:Int).toNat (IntKind.i64).bits)))).toNat:Int))|||BitVec.ofInt (IntKind.i64).bits (w64 (1*2^(min (k:Int).toNat (IntKind.i64).bits)))).toNat:Int))).bind fun a=>
  (zq49 d a.1).bind fun f=>
  some (f,true,a.2)
def yly(x:fq)(h:Int):Int×Int×Int->Option (Lp (Int×Int×Int) (Int×Int))
 |(a,b,c)=>
  if decide (a<(x.eX.length:Int)) then
   ((idx x.eX a).bind fun e=>
   (chk ((0:Int)<=a)).bind fun u=>
   if (IntKind.i64.wrap ((BitVec.ofInt (IntKind.i64).bits (h.fdiv (2^(min (a:Int).toNat (IntKind.i64).bits)))&&&BitVec.ofInt (IntKind.i64).bits 1).toNat:Int))==0 then
    (zq49 (⟨b,c⟩:bI) e).bind fun d=>
    some (d.lZ,d.lT)
   else
    some (b,c)).bind fun((f,g):Int×Int)=>
   some (.nx ((w64 (a+1)),f,g))
  else
   some (.dn (b,c))
def ylx(m:fq->Int->Int->Option (bI×(List ((Int×Int)×bI))))(x:fq)(i:Int)(l:Int):Int×(List ((Int×Int)×bI))×Int×Int->Option (Lp (Int×(List ((Int×Int)×bI))×Int×Int) ((List ((Int×Int)×bI))×Int×Int))
 |(a,e,b,c)=>
  if decide (a<(x.bP.length:Int)) then
   ((zq23 m (⟨x.bP,x.eX,x.dF,e⟩:fq) i a l).bind fun d=>
   (if d.2.1 then(zq18 d.1 (⟨b,c⟩:bI)).bind fun k=>
   some (decide (k<0))else some false).bind fun(f:Bool)=>
   if f then
    some (d.2.2,d.1.lZ,d.1.lT)
   else
    some (d.2.2,b,c)).bind fun((g,h,j):(List ((Int×Int)×bI))×Int×Int)=>
   some (.nx ((w64 (a+1)),g,h,j))
  else
   some (.dn (e,b,c))
def yfn(l:fq->Int->Int->Option (bI×(List ((Int×Int)×bI))))(x:fq)(i:Int)(k:Int):Option (bI×(List ((Int×Int)×bI))):=
 (some (getL ((⟨0,0⟩:bI):bI) (i,k) x.je)).bind fun e=>
 if e.2 then
  some (e.1,x.je)
 else
  (if i==(x.bP.length:Int) then
   (iter (yly x k) ((0:Int),(0:Int),(0:Int))).bind fun((h,j):Int×Int)=>
   some (x.je,h,j)
  else
   (l (⟨x.bP,x.eX,x.dF,x.je⟩:fq) (w64 (i+1)) k).bind fun a=>
   (iter (ylx l x i k) ((0:Int),a.2,a.1.lZ,a.1.lT)).bind fun((b,c,d):(List ((Int×Int)×bI))×Int×Int)=>
   some (b,c,d)).bind fun((v,f,g):(List ((Int×Int)×bI))×Int×Int)=>
  some ((⟨f,g⟩:bI),(putL (i,k) (⟨f,g⟩:bI) v))
def ygm:Nat->fq->Int->Int->Option (bI×(List ((Int×Int)×bI)))
 |0=>fun _ _ _=>none
 |n+1=>yfn (ygm n)
def zq20(x:fq)(i:Int)(a:Int):Option (bI×(List ((Int×Int)×bI))):=ygm 4294967296 x i a
def zq21(a:bB)(b:bB):Option (Int):=
 (idx a.bE 0).bind fun c=>
 (idx c 0).bind fun d=>
 (idx b.bE 0).bind fun e=>
 (idx e 0).bind fun f=>
 (zq0 d f).bind fun g=>
 some g
def you(a:Int)(cmp:bB->bB->Option (Int)):Int×(List bB)->Option (Lp (Int×(List bB)) ((List bB)))
 |(c,b)=>
  (if decide (a<c) then(idx b c).bind fun e=>
  (idx b (w64 (c-1))).bind fun f=>
  (cmp e f).bind fun g=>
  some (decide (g<0))else some false).bind fun(h:Bool)=>
  if h then
   (idx b (w64 (c-1))).bind fun d=>
   (idx b c).bind fun i=>
   (idx b c).bind fun j=>
   (idx (b.set c.toNat d) (w64 (c-1))).bind fun k=>
   some (.nx ((w64 (c-1)),((b.set c.toNat d).set (w64 (c-1)).toNat i)))
  else
   some (.dn b)
def yot(a:Int)(b:Int)(cmp:bB->bB->Option (Int)):Int×(List bB)->Option (Lp (Int×(List bB)) ((List bB)))
 |(v,c)=>
  if decide (v<b) then
   (iter (you a cmp) (v,c)).bind fun(d:List bB)=>
   some (.nx ((w64 (v+1)),d))
  else
   some (.dn c)
def ys3(c:List bB)(a:Int)(b:Int)(cmp:bB->bB->Option (Int)):Option ((List bB)):=
 iter (yot a b cmp) ((w64 (a+1)),c)
def Bf(c:List bB)(a:Int)(b:Int):Option ((List bB)):=
 ys3 c a b (fun(d:bB)(e:bB)=>zq21 d e)
def yhu(c:List bB)(a:Int)(b:Int)(limit:Int)(cmp:bB->bB->Option (Int)):Unit->Option (Lp (Unit) ((List bB)))
 |()=>
  if decide ((w64 (b-a))<=12) then
   (ys3 c a b cmp).bind fun r=>
   some (.dn r)
  else
   if limit==0 then
    none
   else
    (some ()).bind fun(_:Unit)=>
    none
def ys1(c:List bB)(a:Int)(b:Int)(limit:Int)(cmp:bB->bB->Option (Int)):Option ((List bB)):=
 iter (yhu c a b limit cmp) ()
def Bg(c:List bB)(a:Int)(b:Int)(limit:Int):Option ((List bB)):=
 ys1 c a b limit (fun(d:bB)(e:bB)=>zq21 d e)
def yvo(x:List bB)(cmp:bB->bB->Option (Int)):Option ((List bB)):=
 (zq56 (⟨(IntKind.u64.wrap ((x.length:Int)))⟩:IK .u64)).bind fun r=>
 (ys1 x 0 (x.length:Int) r cmp).bind fun a=>
 some a
def ys4(x:List bB):Option ((List bB)):=
 yvo x (fun(a:bB)(b:bB)=>zq21 a b)
def ylv(x:fq)(i:Int)(v:Int)(l:List bB)(r:bI×(List ((Int×Int)×bI))):Int×(List ((Int×Int)×bI))->Option (Lp (Int×(List ((Int×Int)×bI))) (Int×(List ((Int×Int)×bI))×(List bB)))
 |(a,c)=>
  if decide (a<(x.bP.length:Int)) then
   (zq23 zq20 (⟨x.bP,x.eX,x.dF,c⟩:fq) v a i).bind fun b=>
   (if b.2.1 then(zq18 b.1 r.1).bind fun f=>
   some (f==0)else some false).bind fun(g:Bool)=>
   if g then
    (idx x.bP v).bind fun d=>
    (idx x.bP a).bind fun e=>
    (chk (l.length+([(⟨([d,e]:List (List Int))⟩:bB)]:List bB).length<=4294967296)).bind fun h=>
    (chk ((0:Int)<=v)).bind fun j=>
    (chk ((0:Int)<=a)).bind fun k=>
    some (.dn ((IntKind.i64.wrap ((BitVec.ofInt (IntKind.i64).bits i|||BitVec.ofInt (IntKind.i64).bits (IntKind.i64.wrap ((BitVec.ofInt (IntKind.i64).bits (w64 (1*2^(min (v:Int).toNat (IntKind.i64).bits)))|||BitVec.ofInt (IntKind.i64).bits (w64 (1*2^(min (a:Int).toNat (IntKind.i64).bits)))).toNat:Int))).toNat:Int)),b.2.2,(l++([(⟨([d,e]:List (List Int))⟩:bB)]:List bB))))
   else
    some (.nx ((w64 (a+1)),b.2.2))
  else
   some (.dn (i,c,l))
def yhq(x:fq):Int×Int×(List ((Int×Int)×bI))×(List bB)->Option (Lp (Int×Int×(List ((Int×Int)×bI))×(List bB)) (Int×(List ((Int×Int)×bI))×(List bB)))
 |(i,v,a,f)=>
  if decide (v<(x.bP.length:Int)) then
   ((zq20 (⟨x.bP,x.eX,x.dF,a⟩:fq) v i).bind fun r=>
   (iter (ylv x i v f r) ((0:Int),r.2)).bind fun((b,c,h):Int×(List ((Int×Int)×bI))×(List bB))=>
   some (b,c,h)).bind fun((d,e,g):Int×(List ((Int×Int)×bI))×(List bB))=>
   some (.nx (d,(w64 (v+1)),e,g))
  else
   some (.dn (i,a,f))
def yhp(x:fq)(c:Int):Int×(List bB)->Option (Lp (Int×(List bB)) ((List bB)))
 |(a,f)=>
  if decide (a<(x.bP.length:Int)) then
   ((idx x.bP a).bind fun b=>
   (chk ((0:Int)<=a)).bind fun d=>
   if (IntKind.i64.wrap ((BitVec.ofInt (IntKind.i64).bits (c.fdiv (2^(min (a:Int).toNat (IntKind.i64).bits)))&&&BitVec.ofInt (IntKind.i64).bits 1).toNat:Int))==0 then
    (chk (f.length+([(⟨([b]:List (List Int))⟩:bB)]:List bB).length<=4294967296)).bind fun e=>
    some (f++([(⟨([b]:List (List Int))⟩:bB)]:List bB))
   else
    some f).bind fun(g:List bB)=>
   some (.nx ((w64 (a+1)),g))
  else
   some (.dn f)
def zq22(x:fq):Option ((List bB)×(List ((Int×Int)×bI))):=
 (iter (yhq x) ((0:Int),(0:Int),x.je,([]:List bB))).bind fun((a,b,d):Int×(List ((Int×Int)×bI))×(List bB))=>
 (iter (yhp x a) ((0:Int),d)).bind fun(e:List bB)=>
 (ys4 e).bind fun c=>
 some (c,b)
def yho(t:bA)(f:bL)(p:List (List Int))(r:cB):Int×Int×Int×Int×(Option fq)->Option (Lp (Int×Int×Int×Int×(Option fq)) (Int×Int×Int×(Option fq)))
 |(v,c,e,g,x)=>
  (x).elim
   (if decide (c<(w64 (1*2^(min ((t.bn.length:Int):Int).toNat (IntKind.i64).bits)))) then
    ((zq33 t p c).bind fun y=>
    if !y then
     some (v,e,g,none)
    else
     (zq19 t p c).bind fun z=>
     (zq46 t f p r z).bind fun h=>
     (zq20 (⟨h.bP,h.eX,h.dF,h.je⟩:fq) 0 0).bind fun i=>
     (zq18 i.1 (⟨e,g⟩:bI)).bind fun A=>
     if decide (A<0) then
      some (c,i.1.lZ,i.1.lT,(some (⟨h.bP,h.eX,h.dF,i.2⟩:fq)))
     else
      some (v,e,g,none)).bind fun((s,u,w,B):Int×Int×Int×(Option fq))=>
    (B).elim
     (some (.nx (s,(w64 (c+1)),u,w,none)))
     fun j=>
     some (.nx (s,(w64 (c+1)),u,w,(some (⟨j.bP,j.eX,j.dF,j.je⟩:fq))))
   else
    some (.dn (v,e,g,none)))
   fun b=>
   if decide (c<(w64 (1*2^(min ((t.bn.length:Int):Int).toNat (IntKind.i64).bits)))) then
    ((zq33 t p c).bind fun C=>
    if !C then
     some (v,b.bP,b.eX,b.dF,e,g,b.je)
    else
     (zq19 t p c).bind fun k=>
     (zq46 t f p r k).bind fun a=>
     (zq20 (⟨a.bP,a.eX,a.dF,a.je⟩:fq) 0 0).bind fun d=>
     (zq18 d.1 (⟨e,g⟩:bI)).bind fun l=>
     if decide (l<0) then
      some (c,a.bP,a.eX,a.dF,d.1.lZ,d.1.lT,d.2)
     else
      some (v,b.bP,b.eX,b.dF,e,g,b.je)).bind fun((D,E,H,m,n,o,q):Int×(List (List Int))×(List bI)×(List (List bI))×Int×Int×(List ((Int×Int)×bI)))=>
    some (.nx (D,(w64 (c+1)),n,o,(some (⟨E,H,m,q⟩:fq))))
   else
    some (.dn (v,e,g,(some (⟨b.bP,b.eX,b.dF,b.je⟩:fq))))
def zq28(t:bA)(f:bL)(h:List (List Int))(r:cB):Option ((List bB)×Int×Int×Bool):=
 if decide (8<(t.bn.length:Int)) then
  some (([]:List bB),0,0,false)
 else
  (chk ((0:Int)<=(t.bn.length:Int))).bind fun u=>
  (iter (yho t f h r) ((0:Int),(0:Int),(1073741824:Int),(0:Int),none)).bind fun((b,e,c,g):Int×Int×Int×(Option fq))=>
  (g).elim
   (some (([]:List bB),0,0,false))
   fun a=>
   (zq22 (⟨a.bP,a.eX,a.dF,a.je⟩:fq)).bind fun d=>
   some (d.1,b,c,true)
def zq5(t:bA)(f:bL)(c:List (List Int))(r:cB):Option ((List bB)×Int×Int×Bool):=
 (zq14 t f c r).bind fun b=>
 if !b then
  some (([]:List bB),0,0,false)
 else
  (zq28 t f c r).bind fun a=>
  some (a.1,a.2.1,a.2.2.1,a.2.2.2)
def ycm(a:bA×bL×(List (List Int))×cB×(List bB))(k:Int)(m:Int):Int->Option (Lp (Int) (Fl (Lp (Int) (Fl (Lp (Bool×Int) (Fl (Bool) (Bool))) (Unit))) (Unit)))
 |at_=>
  (idx a.2.2.2.2 k).bind fun c=>
  (idx c.bE m).bind fun d=>
  if decide (at_<(d.length:Int)) then
   (idx a.2.2.2.2 k).bind fun e=>
   (idx e.bE m).bind fun f=>
   (idx f at_).bind fun g=>
   (zq4 a.1 a.2.1 a.2.2.1 a.2.2.2.1 a.2.2.2.2 g).bind fun b=>
   (if !b.2 then some true else some (b.1 !=k)).bind fun(h:Bool)=>
   if h then
    some (.dn (.ret (.dn (.ret (.dn (.ret false))))))
   else
    some (.nx (w64 (at_+1)))
  else
   some (.dn (.go ()))
def ycl(a:bA×bL×(List (List Int))×cB×(List bB))(k:Int):Int->Option (Lp (Int) (Fl (Lp (Bool×Int) (Fl (Bool) (Bool))) (Unit)))
 |m=>
  (idx a.2.2.2.2 k).bind fun b=>
  if decide (m<(b.bE.length:Int)) then
   flb (iter (ycm a k m) (0:Int)) fun(_:Unit)=>
   some (.nx (w64 (m+1)))
  else
   some (.dn (.go ()))
def ybw(a:bA×bL×(List (List Int))×cB×(List bB)):Bool×Int->Option (Lp (Bool×Int) (Fl (Bool) (Bool)))
 |(i,k)=>
  if decide (k<(a.2.2.2.2.length:Int)) then
   (if i then(idx a.2.2.2.2 k).bind fun e=>
   some (decide ((e.bE.length:Int)<=2))else some false).bind fun(b:Bool)=>
   flb (iter (ycl a k) (0:Int)) fun(_:Unit)=>
   some (.nx (b,(w64 (k+1))))
  else
   some (.dn (.go i))
def ycn(g:List UInt8):Option (Bool):=
 (ysy g).bind fun r=>
 if r then
  some true
 else
  (zq58 g).bind fun a=>
  (zq6 a.1 a.2.1 a.2.2.1 a.2.2.2.1 a.2.2.2.2).bind fun b=>
  (zq59 a.1 a.2.1 a.2.2.1 a.2.2.2.1 a.2.2.2.2).bind fun c=>
  (if !(b.1==c.1) then some true else some (!(b.2==c.2))).bind fun(v:Bool)=>
  if v then
   some false
  else
   (if !b.2 then some true else some (!b.1)).bind fun(e:Bool)=>
   if e then
    some true
   else
    flb (iter (ybw a) (true,(0:Int))) fun(f:Bool)=>
    (zq5 a.1 a.2.1 a.2.2.1 a.2.2.2.1).bind fun d=>
    (if !f then some true else if decide (8<(a.1.bn.length:Int)) then some true else if d.2.2.2 then some (decide ((d.1.length:Int)<=(a.2.2.2.2.length:Int)))else some false).bind fun(t:Bool)=>
    some t
end
end Go.Proofs.YtimecodbnhcnoaaGreat
