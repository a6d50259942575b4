/- Models of the functions that the law reaches: plain Lean; none where the function would panic or not end. Made by program (dec.py). -/
import Derived.Test.YtimecodbnhcnoaaGreatAbC0
import Derived.Test.YtimecodbnhcnoaaGreatAbMp
import Derived.Test.YtimecodbnhcnoaaGreatAbIns
import Derived.Test.YtimecodbnhcnoaaGreatAbCom
namespace Go.Proofs.YtimecodbnhcnoaaGreat
open Go Go.Ab
set_option maxRecDepth 100000
set_option maxHeartbeats 4000000
set_option linter.unusedVariables false
set_option linter.unusedSimpArgs false
noncomputable section
structure l1Cur where
 code_:List UInt8
 at_:Int
 seed_:IK .u64
instance enc_l1Cur:Enc l1Cur:=⟨3,fun x=>.agg [Enc.e x.code_,.sc (.int .i64 x.at_),.sc (.int .u64 x.seed_.v)],fun a b h=>by
 simp only[D.agg.injEq,List.cons.injEq,and_true]at h;obtain⟨c,d,f⟩:=a;obtain⟨g,i,j⟩:=b;obtain⟨k,l,m⟩:=h;have q1:=Enc.inj (α:=List UInt8) c g k;have n:=Enc.inj (α:=Int) d i l;have o:=Enc.inj (α:=IK .u64) f j m;subst q1;subst n;subst o;rfl⟩
structure Line where
 Name:ByteArray
 Stops:List Int
 Runs:List Int
instance enc_Line:Enc Line:=⟨3,fun x=>.agg [.sc (.string x.Name),Enc.e x.Stops,Enc.e x.Runs],fun a b h=>by
 simp only[D.agg.injEq,List.cons.injEq,and_true]at h;obtain⟨c,d,f⟩:=a;obtain⟨g,i,j⟩:=b;obtain⟨k,l,m⟩:=h;have q1:=Enc.inj (α:=ByteArray) c g k;have n:=Enc.inj (α:=List Int) d i l;have o:=Enc.inj (α:=List Int) f j m;subst q1;subst n;subst o;rfl⟩
structure Network where
 Stops:List ByteArray
 Lines:List Line
instance enc_Network:Enc Network:=⟨2,fun x=>.agg [Enc.e x.Stops,Enc.e x.Lines],fun a b h=>by
 simp only[D.agg.injEq,List.cons.injEq,and_true]at h;obtain⟨c,d⟩:=a;obtain⟨f,g⟩:=b;obtain⟨i,j⟩:=h;have q1:=Enc.inj (α:=List ByteArray) c f i;have k:=Enc.inj (α:=List Line) d g j;subst q1;subst k;rfl⟩
structure Trip where
 Id:Int
 Line:Int
 Start:Int
instance enc_Trip:Enc Trip:=⟨3,fun x=>.agg [.sc (.int .i64 x.Id),.sc (.int .i64 x.Line),.sc (.int .i64 x.Start)],fun a b h=>by
 simp only[D.agg.injEq,List.cons.injEq,and_true]at h;obtain⟨c,d,e⟩:=a;obtain⟨f,g,i⟩:=b;obtain⟨j,k,l⟩:=h;have q1:=Enc.inj (α:=Int) c f j;have m:=Enc.inj (α:=Int) d g k;have n:=Enc.inj (α:=Int) e i l;subst q1;subst m;subst n;rfl⟩
structure Timetable where
 Network:Network
 Trips:List Trip
instance enc_Timetable:Enc Timetable:=⟨3,fun x=>.agg [Enc.e x.Network.Stops,Enc.e x.Network.Lines,Enc.e x.Trips],fun a b h=>by
 simp only[D.agg.injEq,List.cons.injEq,and_true]at h;obtain⟨⟨c,d⟩,f⟩:=a;obtain⟨⟨g,i⟩,j⟩:=b;obtain⟨k,l,m⟩:=h;have q1:=Enc.inj (α:=List ByteArray) c g k;have n:=Enc.inj (α:=List Line) d i l;have o:=Enc.inj (α:=List Trip) f j m;subst q1;subst n;subst o;rfl⟩
structure Fleet where
 Dead:List (List Int)
 Turn:Int
instance enc_Fleet:Enc Fleet:=⟨2,fun x=>.agg [Enc.e x.Dead,.sc (.int .i64 x.Turn)],fun a b h=>by
 simp only[D.agg.injEq,List.cons.injEq,and_true]at h;obtain⟨c,d⟩:=a;obtain⟨f,g⟩:=b;obtain⟨i,j⟩:=h;have q1:=Enc.inj (α:=List (List Int)) c f i;have k:=Enc.inj (α:=Int) d g j;subst q1;subst k;rfl⟩
structure Rules where
 SignOn:Int
 SignOff:Int
 MaxDrive:Int
 MinBreak:Int
 PaidBreak:Int
 MaxLength:Int
instance enc_Rules:Enc Rules:=⟨6,fun x=>.agg [.sc (.int .i64 x.SignOn),.sc (.int .i64 x.SignOff),.sc (.int .i64 x.MaxDrive),.sc (.int .i64 x.MinBreak),.sc (.int .i64 x.PaidBreak),.sc (.int .i64 x.MaxLength)],fun a b h=>by
 simp only[D.agg.injEq,List.cons.injEq,and_true]at h;obtain⟨c,d,e,f,g,i⟩:=a;obtain⟨j,k,l,m,n,o⟩:=b;obtain⟨p,q,r,s,t,u⟩:=h;have q1:=Enc.inj (α:=Int) c j p;have v:=Enc.inj (α:=Int) d k q;have w:=Enc.inj (α:=Int) e l r;have y:=Enc.inj (α:=Int) f m s;have z:=Enc.inj (α:=Int) g n t;have A:=Enc.inj (α:=Int) i o u;subst q1;subst v;subst w;subst y;subst z;subst A;rfl⟩
structure l11Plan where
 t_:Timetable
 f_:Fleet
 known_:List (List Int)
instance enc_l11Plan:Enc l11Plan:=⟨6,fun x=>.agg [Enc.e x.t_.Network.Stops,Enc.e x.t_.Network.Lines,Enc.e x.t_.Trips,Enc.e x.f_.Dead,.sc (.int .i64 x.f_.Turn),Enc.e x.known_],fun a b h=>by
 simp only[D.agg.injEq,List.cons.injEq,and_true]at h;obtain⟨⟨⟨c,d⟩,f⟩,⟨g,i⟩,j⟩:=a;obtain⟨⟨⟨k,l⟩,m⟩,⟨n,o⟩,p⟩:=b;obtain⟨q,r,s,t,u,v⟩:=h;have q1:=Enc.inj (α:=List ByteArray) c k q;have w:=Enc.inj (α:=List Line) d l r;have y:=Enc.inj (α:=List Trip) f m s;have z:=Enc.inj (α:=List (List Int)) g n t;have A:=Enc.inj (α:=Int) i o u;have B:=Enc.inj (α:=List (List Int)) j p v;subst q1;subst w;subst y;subst z;subst A;subst B;rfl⟩
structure price where
 duties_:Int
 paid_:Int
instance enc_price:Enc price:=⟨2,fun x=>.agg [.sc (.int .i64 x.duties_),.sc (.int .i64 x.paid_)],fun a b h=>by
 simp only[D.agg.injEq,List.cons.injEq,and_true]at h;obtain⟨c,d⟩:=a;obtain⟨e,f⟩:=b;obtain⟨g,i⟩:=h;have q1:=Enc.inj (α:=Int) c e g;have j:=Enc.inj (α:=Int) d f i;subst q1;subst j;rfl⟩
structure Duty where
 Pieces:List (List Int)
instance enc_Duty:Enc Duty:=⟨1,fun x=>.agg [Enc.e x.Pieces],fun a b h=>by
 simp only[D.agg.injEq,List.cons.injEq,and_true]at h;obtain⟨c⟩:=a;obtain⟨d⟩:=b;have f:=h;have q1:=Enc.inj (α:=List (List Int)) c d f;subst q1;rfl⟩
structure Span where
 From:Int
 To:Int
instance enc_Span:Enc Span:=⟨2,fun x=>.agg [.sc (.int .i64 x.From),.sc (.int .i64 x.To)],fun a b h=>by
 simp only[D.agg.injEq,List.cons.injEq,and_true]at h;obtain⟨c,d⟩:=a;obtain⟨e,f⟩:=b;obtain⟨g,i⟩:=h;have q1:=Enc.inj (α:=Int) c e g;have j:=Enc.inj (α:=Int) d f i;subst q1;subst j;rfl⟩
structure cutter where
 pieces_:List (List Int)
 single_:List price
 pair_:List (List price)
 memo_:List ((Int×Int)×price)
instance enc_cutter:Enc cutter:=⟨4,fun x=>.agg [Enc.e x.pieces_,Enc.e x.single_,Enc.e x.pair_,Enc.e x.memo_],fun a b h=>by
 simp only[D.agg.injEq,List.cons.injEq,and_true]at h;obtain⟨c,d,f,g⟩:=a;obtain⟨i,j,k,l⟩:=b;obtain⟨m,n,o,p⟩:=h;have q1:=Enc.inj (α:=List (List Int)) c i m;have q:=Enc.inj (α:=List price) d j n;have r:=Enc.inj (α:=List (List price)) f k o;have s:=Enc.inj (α:=List ((Int×Int)×price)) g l p;subst q1;subst q;subst r;subst s;rfl⟩
structure l13Plan where
 pieces_:List (List Int)
 alone_:List Int
 pair_:List (List Int)
 forbid_:Int
 known_:List Int
instance enc_l13Plan:Enc l13Plan:=⟨5,fun x=>.agg [Enc.e x.pieces_,Enc.e x.alone_,Enc.e x.pair_,.sc (.int .i64 x.forbid_),Enc.e x.known_],fun a b h=>by
 simp only[D.agg.injEq,List.cons.injEq,and_true]at h;obtain⟨c,d,f,g,i⟩:=a;obtain⟨j,k,l,m,n⟩:=b;obtain⟨o,p,q,r,s⟩:=h;have q1:=Enc.inj (α:=List (List Int)) c j o;have t:=Enc.inj (α:=List Int) d k p;have u:=Enc.inj (α:=List (List Int)) f l q;have v:=Enc.inj (α:=Int) g m r;have w:=Enc.inj (α:=List Int) i n s;subst q1;subst t;subst u;subst v;subst w;rfl⟩
instance:BxE l1Cur:=⟨fun x y h=>Enc.inj x y (congrArg D.agg h)⟩
instance:BxE Line:=⟨fun x y h=>Enc.inj x y (congrArg D.agg h)⟩
instance:BxE Network:=⟨fun x y h=>Enc.inj x y (congrArg D.agg h)⟩
instance:BxE Trip:=⟨fun x y h=>Enc.inj x y (congrArg D.agg h)⟩
instance:BxE Timetable:=⟨fun x y h=>Enc.inj x y (congrArg D.agg h)⟩
instance:BxE Fleet:=⟨fun x y h=>Enc.inj x y (congrArg D.agg h)⟩
instance:BxE Rules:=⟨fun x y h=>Enc.inj x y (congrArg D.agg h)⟩
instance:BxE l11Plan:=⟨fun x y h=>Enc.inj x y (congrArg D.agg h)⟩
instance:BxE price:=⟨fun x y h=>Enc.inj x y (congrArg D.agg h)⟩
instance:BxE Duty:=⟨fun x y h=>Enc.inj x y (congrArg D.agg h)⟩
instance:BxE Span:=⟨fun x y h=>Enc.inj x y (congrArg D.agg h)⟩
instance:BxE cutter:=⟨fun x y h=>Enc.inj x y (congrArg D.agg h)⟩
instance:BxE l13Plan:=⟨fun x y h=>Enc.inj x y (congrArg D.agg h)⟩
instance:FlatEnc Trip:=⟨fun _=>jde rfl⟩
instance:FlatEnc Rules:=⟨fun _=>jde rfl⟩
instance:FlatEnc price:=⟨fun _=>jde rfl⟩
instance:FlatEnc Span:=⟨fun _=>jde rfl⟩
def yqf(a:List UInt8):Option (Bool):=
 some (decide (65536<(a.length:Int)))
def yk3(c:l1Cur):Option (Int×l1Cur):=
 (if(decide (c.at_<(c.code_.length:Int)))=true then
  (idx c.code_ c.at_).bind fun a=>
  some (w64 ((a.toNat:Int)))
 else
  some (0:Int)).bind fun(v:Int)=>
 if(decide ((w64 (c.at_+1))<=(c.code_.length:Int)))=true then
  some (v,(⟨c.code_,(w64 (c.at_+1)),(⟨(IntKind.u64.wrap ((IntKind.u64.wrap ((IntKind.u64.wrap (c.seed_.v*6364136223846793005))+(IntKind.u64.wrap (v))))+900900))⟩:IK .u64)⟩:l1Cur))
 else
  (chk ((0:Int)<=40)).bind fun u=>
  some ((w64 ((IntKind.u64.wrap ((BitVec.ofInt (IntKind.u64).bits ((IntKind.u64.wrap ((IntKind.u64.wrap ((IntKind.u64.wrap (c.seed_.v*6364136223846793005))+(IntKind.u64.wrap (v))))+900900)).fdiv (2^(min (40:Int).toNat (IntKind.u64).bits)))&&&BitVec.ofInt (IntKind.u64).bits 255).toNat:Int)))),(⟨c.code_,(w64 (c.at_+1)),(⟨(IntKind.u64.wrap ((IntKind.u64.wrap ((IntKind.u64.wrap (c.seed_.v*6364136223846793005))+(IntKind.u64.wrap (v))))+900900))⟩:IK .u64)⟩:l1Cur))
def yad(c:l1Cur)(n:Int):Option (Int×l1Cur):=
 if(decide (n<=1))=true then
  some (0,c)
 else
  (yk3 c).bind fun r=>
  (if(decide (200<n))=true then
   (yk3 r.2).bind fun a=>
   some ((w64 ((w64 (r.1*256))+a.1)),a.2.code_,a.2.at_,a.2.seed_.v)
  else
   some (r.1,r.2.code_,r.2.at_,r.2.seed_.v)).bind fun((v,b,d,e):Int×(List UInt8)×Int×Int)=>
  (chk ((n:Int)≠0)).bind fun u=>
  some ((v.tmod n),(⟨b,d,(⟨e⟩:IK .u64)⟩:l1Cur))
def yd3(c:l1Cur)(n:Int):Option (Bool×l1Cur):=
 (yad c n).bind fun r=>
 some ((r.1==0),r.2)
def ybw(h:Int->Option (ByteArray))(n:Int):Option (ByteArray):=
 if(decide (n<0))=true then
  (h (w64 (0-n))).bind fun r=>
  (chk ((str [45]).size+r.size<=4294967296)).bind fun u=>
  some ((str [45])++r)
 else
  if(decide (n<10))=true then
   (chk ((0:Int)<=n/\ (n:Int)<=(w64 (n+1))/\ (w64 (n+1))<=((str [48,49,50,51,52,53,54,55,56,57]).size:Int))).bind fun d=>
   some ((str [48,49,50,51,52,53,54,55,56,57]).extract n.toNat (w64 (n+1)).toNat)
  else
   (chk ((10:Int)≠0)).bind fun e=>
   (h (w64 (n.tdiv 10))).bind fun a=>
   (chk ((10:Int)≠0)).bind fun f=>
   (chk ((10:Int)≠0)).bind fun g=>
   (chk ((0:Int)<=(n.tmod 10)/\ ((n.tmod 10):Int)<=(w64 ((n.tmod 10)+1))/\ (w64 ((n.tmod 10)+1))<=((str [48,49,50,51,52,53,54,55,56,57]).size:Int))).bind fun b=>
   (chk (a.size+((str [48,49,50,51,52,53,54,55,56,57]).extract (n.tmod 10).toNat (w64 ((n.tmod 10)+1)).toNat).size<=4294967296)).bind fun c=>
   some (a++((str [48,49,50,51,52,53,54,55,56,57]).extract (n.tmod 10).toNat (w64 ((n.tmod 10)+1)).toNat))
def ygu:Nat->Int->Option (ByteArray)
 |0=>fun _=>none
 |n+1=>ybw (ygu n)
def yn1(n:Int):Option (ByteArray):=ygu 4294967296 n
def yc6(x:Line)(a:Int):Int->Option (Lp (Int) (Fl (Int) (Unit)))
 |v=>
  if(decide (v<(x.Stops.length:Int)))=true then
   (idx x.Stops v).bind fun e=>
   if(e==a)=true then
    some (.dn (.ret v))
   else
    some (.nx (w64 (v+1)))
  else
   some (.dn (.go ()))
def yh7(x:Line)(a:Int):Option (Int):=
 flb (iter (yc6 x a) (0:Int)) fun(_:Unit)=>
 some (-1)
def ye9(k:ByteArray)(j:Int):Int×Int×(List UInt8)×Int×Int×(List Int)->Option (Lp (Int×Int×(List UInt8)×Int×Int×(List Int)) ((List UInt8)×Int×Int×(List Int)))
 |(v,c,d,e,f,a)=>
  if(decide (0<c))=true then
   ((yh7 (⟨k,a,([]:List Int)⟩:Line) v).bind fun g=>
   if(decide (g<0))=true then
    (chk (a.length+([v]:List Int).length<=4294967296)).bind fun u=>
    some (a++([v]:List Int))
   else
    some a).bind fun(h:List Int)=>
   (yad (⟨d,e,(⟨f⟩:IK .u64)⟩:l1Cur) 2).bind fun b=>
   (chk ((j:Int)≠0)).bind fun i=>
   some (.nx (((w64 ((w64 (v+1))+b.1)).tmod j),(w64 (c-1)),b.2.code_,b.2.at_,b.2.seed_.v,h))
  else
   some (.dn (d,e,f,a))
def ye8(g:List Int):Int×(List UInt8)×Int×Int×(List Int)->Option (Lp (Int×(List UInt8)×Int×Int×(List Int)) ((List UInt8)×Int×Int×(List Int)))
 |(b,c,d,e,a)=>
  if(decide (b<(g.length:Int)))=true then
   (yad (⟨c,d,(⟨e⟩:IK .u64)⟩:l1Cur) 12).bind fun f=>
   (chk (a.length+([(w64 (3+f.1))]:List Int).length<=4294967296)).bind fun h=>
   some (.nx ((w64 (b+1)),f.2.code_,f.2.at_,f.2.seed_.v,(a++([(w64 (3+f.1))]:List Int))))
  else
   some (.dn (c,d,e,a))
def zq99(c:l1Cur)(p:ByteArray)(o:Int):Option (Line×l1Cur):=
 (yad c o).bind fun r=>
 (yad r.2 3).bind fun d=>
 (iter (ye9 p o) (r.1,(w64 (2+d.1)),d.2.code_,d.2.at_,d.2.seed_.v,([]:List Int))).bind fun((j,k,l,a):(List UInt8)×Int×Int×(List Int))=>
 (if(decide ((a.length:Int)<2))=true then
  (idx a 0).bind fun i=>
  (chk ((o:Int)≠0)).bind fun m=>
  (chk (a.length+([((w64 (i+1)).tmod o)]:List Int).length<=4294967296)).bind fun n=>
  some (a++([((w64 (i+1)).tmod o)]:List Int))
 else
  some a).bind fun(b:List Int)=>
 (iter (ye8 b) ((1:Int),j,k,l,([]:List Int))).bind fun((e,f,g,h):(List UInt8)×Int×Int×(List Int))=>
 some ((⟨p,b,h⟩:Line),(⟨e,f,(⟨g⟩:IK .u64)⟩:l1Cur))
def ym4(k:ByteArray)(j:Int):Int×Int×(List UInt8)×Int×Int×(List Int)->Option (Lp (Int×Int×(List UInt8)×Int×Int×(List Int)) ((List UInt8)×Int×Int×(List Int)))
 |(v,c,d,e,f,a)=>
  if(decide (0<c))=true then
   ((yh7 (⟨k,a,([]:List Int)⟩:Line) v).bind fun g=>
   if(decide (g<0))=true then
    (chk (a.length+([v]:List Int).length<=4294967296)).bind fun u=>
    some (a++([v]:List Int))
   else
    some a).bind fun(h:List Int)=>
   (yad (⟨d,e,(⟨f⟩:IK .u64)⟩:l1Cur) 2).bind fun b=>
   (chk ((j:Int)≠0)).bind fun i=>
   some (.nx (((w64 ((w64 (v+1))+b.1)).tmod j),(w64 (c-1)),b.2.code_,b.2.at_,b.2.seed_.v,h))
  else
   some (.dn (d,e,f,a))
def ym3(g:List Int):Int×(List UInt8)×Int×Int×(List Int)->Option (Lp (Int×(List UInt8)×Int×Int×(List Int)) ((List UInt8)×Int×Int×(List Int)))
 |(b,c,d,e,a)=>
  if(decide (b<(g.length:Int)))=true then
   (yad (⟨c,d,(⟨e⟩:IK .u64)⟩:l1Cur) 12).bind fun f=>
   (chk (a.length+([(w64 (3+f.1))]:List Int).length<=4294967296)).bind fun h=>
   some (.nx ((w64 (b+1)),f.2.code_,f.2.at_,f.2.seed_.v,(a++([(w64 (3+f.1))]:List Int))))
  else
   some (.dn (c,d,e,a))
def yn6(c:l1Cur)(p:ByteArray)(o:Int):Option (Line×l1Cur):=
 (yad c o).bind fun r=>
 (yad r.2 3).bind fun d=>
 (iter (ym4 p o) (r.1,(w64 (2+d.1)),d.2.code_,d.2.at_,d.2.seed_.v,([]:List Int))).bind fun((j,k,l,a):(List UInt8)×Int×Int×(List Int))=>
 (if(decide ((a.length:Int)<2))=true then
  (idx a 0).bind fun i=>
  (chk ((o:Int)≠0)).bind fun m=>
  (chk (a.length+([((w64 (i+1)).tmod o)]:List Int).length<=4294967296)).bind fun n=>
  some (a++([((w64 (i+1)).tmod o)]:List Int))
 else
  some a).bind fun(b:List Int)=>
 (iter (ym3 b) ((1:Int),j,k,l,([]:List Int))).bind fun((e,f,g,h):(List UInt8)×Int×Int×(List Int))=>
 some ((⟨p,b,h⟩:Line),(⟨e,f,(⟨g⟩:IK .u64)⟩:l1Cur))
def yde(a:List Int):Int×(List Int)->Option (Lp (Int×(List Int)) ((List Int)))
 |(v,i)=>
  if(decide (0<=v))=true then
   (idx a v).bind fun e=>
   (chk (i.length+([e]:List Int).length<=4294967296)).bind fun u=>
   some (.nx ((w64 (v-1)),(i++([e]:List Int))))
  else
   some (.dn i)
def yxq(b:List Int):Option ((List Int)):=
 (iter (yde b) ((w64 ((b.length:Int)-1)),([]:List Int))).bind fun(a:List Int)=>
 some a
def ymu(a:List Int):Int×(List Int)->Option (Lp (Int×(List Int)) ((List Int)))
 |(v,i)=>
  if(decide (0<=v))=true then
   (idx a v).bind fun e=>
   (chk (i.length+([e]:List Int).length<=4294967296)).bind fun u=>
   some (.nx ((w64 (v-1)),(i++([e]:List Int))))
  else
   some (.dn i)
def ygq(b:List Int):Option ((List Int)):=
 (iter (ymu b) ((w64 ((b.length:Int)-1)),([]:List Int))).bind fun(a:List Int)=>
 some a
def yn0(l:List Int):Option ((List Int)):=
 (chk (([]:List Int).length+l.length<=4294967296)).bind fun u=>
 some (([]:List Int)++l)
def yck(l:List Int):Option ((List Int)):=
 (chk (([]:List Int).length+l.length<=4294967296)).bind fun u=>
 some (([]:List Int)++l)
def yc7(n:Network):Int×(List Line)->Option (Lp (Int×(List Line)) ((List Line)))
 |(v,a)=>
  if(decide (v<(n.Lines.length:Int)))=true then
   (idx n.Lines v).bind fun b=>
   (idx n.Lines v).bind fun e=>
   (yck e.Stops).bind fun c=>
   (idx n.Lines v).bind fun f=>
   (yck f.Runs).bind fun d=>
   (chk (a.length+([(⟨b.Name,c,d⟩:Line)]:List Line).length<=4294967296)).bind fun g=>
   some (.nx ((w64 (v+1)),(a++([(⟨b.Name,c,d⟩:Line)]:List Line))))
  else
   some (.dn a)
def yks(n:Network):Option (Network):=
 (chk (([]:List ByteArray).length+n.Stops.length<=4294967296)).bind fun u=>
 (iter (yc7 n) ((0:Int),([]:List Line))).bind fun(a:List Line)=>
 some (⟨(([]:List ByteArray)++n.Stops),a⟩:Network)
def ym1(r:Int×l1Cur):Int×(List UInt8)×Int×Int×(List Line)->Option (Lp (Int×(List UInt8)×Int×Int×(List Line)) ((List UInt8)×Int×Int×(List Line)))
 |(x,v,c,d,b)=>
  if(decide (0<x))=true then
   (yn1 x).bind fun e=>
   (chk ((str [108]).size+e.size<=4294967296)).bind fun f=>
   (yn6 (⟨v,c,(⟨d⟩:IK .u64)⟩:l1Cur) ((str [108])++e) (w64 (2+r.1))).bind fun a=>
   (chk (b.length+([a.1]:List Line).length<=4294967296)).bind fun g=>
   some (.nx ((w64 (x-1)),a.2.code_,a.2.at_,a.2.seed_.v,(b++([a.1]:List Line))))
  else
   some (.dn (v,c,d,b))
def yn5(c:l1Cur):Option (Network×l1Cur):=
 (yad c 5).bind fun r=>
 (chk ((0:Int)<=0/\ (0:Int)<=(w64 (2+r.1))/\ (w64 (2+r.1))<=(([(str [112,111,114,116]),(str [109,105,108,108]),(str [112,97,114,107]),(str [104,97,108,108]),(str [100,111,99,107]),(str [102,97,105,114])]:List ByteArray).length:Int))).bind fun u=>
 (yad r.2 3).bind fun f=>
 (iter (ym1 r) ((w64 (1+f.1)),f.2.code_,f.2.at_,f.2.seed_.v,([]:List Line))).bind fun((k,l,m,g):(List UInt8)×Int×Int×(List Line))=>
 ((yd3 (⟨k,l,(⟨m⟩:IK .u64)⟩:l1Cur) 2).bind fun a=>
 if a.1=true then
  (idx g 0).bind fun e=>
  (ygq e.Stops).bind fun j=>
  (ygq e.Runs).bind fun b=>
  (chk (g.length+([(⟨(str [114,49]),j,b⟩:Line)]:List Line).length<=4294967296)).bind fun q=>
  some (a.2.code_,a.2.at_,a.2.seed_.v,(g++([(⟨(str [114,49]),j,b⟩:Line)]:List Line)))
 else
  some (a.2.code_,a.2.at_,a.2.seed_.v,g)).bind fun((n,o,h,i):(List UInt8)×Int×Int×(List Line))=>
 (yks (⟨((([(str [112,111,114,116]),(str [109,105,108,108]),(str [112,97,114,107]),(str [104,97,108,108]),(str [100,111,99,107]),(str [102,97,105,114])]:List ByteArray).take (w64 (2+r.1)).toNat).drop (0:Int).toNat),i⟩:Network)).bind fun d=>
 some ((⟨d.Stops,d.Lines⟩:Network),(⟨n,o,(⟨h⟩:IK .u64)⟩:l1Cur))
def yg2(r:Network×l1Cur):Int×Int×(List UInt8)×Int×Int×(List Trip)->Option (Lp (Int×Int×(List UInt8)×Int×Int×(List Trip)) ((List UInt8)×Int×Int×(List Trip)))
 |(n,v,e,f,g,c)=>
  if(decide (0<v))=true then
   (yad (⟨e,f,(⟨g⟩:IK .u64)⟩:l1Cur) 3).bind fun b=>
   (yad b.2 (r.1.Lines.length:Int)).bind fun d=>
   (yad d.2 24).bind fun a=>
   (chk (c.length+([(⟨(w64 ((w64 (n+1))+b.1)),d.1,(w64 (360+(w64 (5*a.1))))⟩:Trip)]:List Trip).length<=4294967296)).bind fun h=>
   some (.nx ((w64 ((w64 (n+1))+b.1)),(w64 (v-1)),a.2.code_,a.2.at_,a.2.seed_.v,(c++([(⟨(w64 ((w64 (n+1))+b.1)),d.1,(w64 (360+(w64 (5*a.1))))⟩:Trip)]:List Trip))))
  else
   some (.dn (e,f,g,c))
def yn2(c:l1Cur):Option (Timetable×l1Cur):=
 (yn5 c).bind fun r=>
 (yad r.2 8).bind fun a=>
 (iter (yg2 r) ((0:Int),a.1,a.2.code_,a.2.at_,a.2.seed_.v,([]:List Trip))).bind fun((b,d,e,f):(List UInt8)×Int×Int×(List Trip))=>
 some ((⟨(⟨r.1.Stops,r.1.Lines⟩:Network),f⟩:Timetable),(⟨b,d,(⟨e⟩:IK .u64)⟩:l1Cur))
def zq93(c:l1Cur)(a:List Int):Option (Int×l1Cur):=
 (yad c (a.length:Int)).bind fun r=>
 (idx a r.1).bind fun e=>
 some (e,r.2)
def ywh(c:l1Cur)(a:List ByteArray):Option (ByteArray×l1Cur):=
 (yad c (a.length:Int)).bind fun r=>
 (idx a r.1).bind fun e=>
 some (e,r.2)
def yk2(c:l1Cur)(a:List ByteArray):Option (ByteArray×l1Cur):=
 (yad c (a.length:Int)).bind fun r=>
 (idx a r.1).bind fun e=>
 some (e,r.2)
def ymq(n:Network):Int×(List Line)->Option (Lp (Int×(List Line)) ((List Line)))
 |(v,a)=>
  if(decide (v<(n.Lines.length:Int)))=true then
   (idx n.Lines v).bind fun b=>
   (idx n.Lines v).bind fun e=>
   (yn0 e.Stops).bind fun c=>
   (idx n.Lines v).bind fun f=>
   (yn0 f.Runs).bind fun d=>
   (chk (a.length+([(⟨b.Name,c,d⟩:Line)]:List Line).length<=4294967296)).bind fun g=>
   some (.nx ((w64 (v+1)),(a++([(⟨b.Name,c,d⟩:Line)]:List Line))))
  else
   some (.dn a)
def ykq(n:Network):Option (Network):=
 (chk (([]:List ByteArray).length+n.Stops.length<=4294967296)).bind fun u=>
 (iter (ymq n) ((0:Int),([]:List Line))).bind fun(a:List Line)=>
 some (⟨(([]:List ByteArray)++n.Stops),a⟩:Network)
def ydh(r:Int×l1Cur):Int×(List UInt8)×Int×Int×(List Line)->Option (Lp (Int×(List UInt8)×Int×Int×(List Line)) ((List UInt8)×Int×Int×(List Line)))
 |(x,v,c,d,b)=>
  if(decide (0<x))=true then
   (yn1 x).bind fun e=>
   (chk ((str [108]).size+e.size<=4294967296)).bind fun f=>
   (yn6 (⟨v,c,(⟨d⟩:IK .u64)⟩:l1Cur) ((str [108])++e) (w64 (2+r.1))).bind fun a=>
   (chk (b.length+([a.1]:List Line).length<=4294967296)).bind fun g=>
   some (.nx ((w64 (x-1)),a.2.code_,a.2.at_,a.2.seed_.v,(b++([a.1]:List Line))))
  else
   some (.dn (v,c,d,b))
def yn4(c:l1Cur):Option (Network×l1Cur):=
 (yad c 5).bind fun r=>
 (chk ((0:Int)<=0/\ (0:Int)<=(w64 (2+r.1))/\ (w64 (2+r.1))<=(([(str [112,111,114,116]),(str [109,105,108,108]),(str [112,97,114,107]),(str [104,97,108,108]),(str [100,111,99,107]),(str [102,97,105,114])]:List ByteArray).length:Int))).bind fun u=>
 (yad r.2 3).bind fun f=>
 (iter (ydh r) ((w64 (1+f.1)),f.2.code_,f.2.at_,f.2.seed_.v,([]:List Line))).bind fun((k,l,m,g):(List UInt8)×Int×Int×(List Line))=>
 ((yd3 (⟨k,l,(⟨m⟩:IK .u64)⟩:l1Cur) 2).bind fun a=>
 if a.1=true then
  (idx g 0).bind fun e=>
  (ygq e.Stops).bind fun j=>
  (ygq e.Runs).bind fun b=>
  (chk (g.length+([(⟨(str [114,49]),j,b⟩:Line)]:List Line).length<=4294967296)).bind fun q=>
  some (a.2.code_,a.2.at_,a.2.seed_.v,(g++([(⟨(str [114,49]),j,b⟩:Line)]:List Line)))
 else
  some (a.2.code_,a.2.at_,a.2.seed_.v,g)).bind fun((n,o,h,i):(List UInt8)×Int×Int×(List Line))=>
 (ykq (⟨((([(str [112,111,114,116]),(str [109,105,108,108]),(str [112,97,114,107]),(str [104,97,108,108]),(str [100,111,99,107]),(str [102,97,105,114])]:List ByteArray).take (w64 (2+r.1)).toNat).drop (0:Int).toNat),i⟩:Network)).bind fun d=>
 some ((⟨d.Stops,d.Lines⟩:Network),(⟨n,o,(⟨h⟩:IK .u64)⟩:l1Cur))
def zq94(c:l1Cur)(a:List Int):Option (Int×l1Cur):=
 (yad c (a.length:Int)).bind fun r=>
 (idx a r.1).bind fun e=>
 some (e,r.2)
def yfa(r:Network×l1Cur):Int×(List UInt8)×Int×Int×(List Line)->Option (Lp (Int×(List UInt8)×Int×Int×(List Line)) ((List UInt8)×Int×Int×(List Line)))
 |(e,h,i,f,c)=>
  (yad (⟨h,i,(⟨f⟩:IK .u64)⟩:l1Cur) 2).bind fun b=>
  (if(decide ((c.length:Int)<(w64 (5+b.1))))=true then some (decide (e<7))else some false).bind fun(g:Bool)=>
  if g=true then
   (yn1 e).bind fun d=>
   (chk ((str [120]).size+d.size<=4294967296)).bind fun j=>
   (zq99 b.2 ((str [120])++d) (r.1.Stops.length:Int)).bind fun a=>
   (chk (c.length+([(⟨a.1.Name,a.1.Stops,a.1.Runs⟩:Line)]:List Line).length<=4294967296)).bind fun k=>
   some (.nx ((w64 (e+1)),a.2.code_,a.2.at_,a.2.seed_.v,(c++([(⟨a.1.Name,a.1.Stops,a.1.Runs⟩:Line)]:List Line))))
  else
   some (.dn (b.2.code_,b.2.at_,b.2.seed_.v,c))
def zq95(c:l1Cur):Option (Network×l1Cur):=
 (yn4 c).bind fun r=>
 (yad r.2 (r.1.Lines.length:Int)).bind fun f=>
 (idx r.1.Lines f.1).bind fun e=>
 flb ((yad f.2 24).bind fun a=>
 if(a.1==0)=true then
  (yk2 a.2 ([(str [109,105,108,108]),(str []),(str [65]),(str [97,98,99,100,101,102,103,104]),(str [97,98,99,100,101,102,103,104,105])]:List ByteArray)).bind fun h=>
  (idx r.1.Stops 0).bind fun z=>
  some (.go (h.2.code_,h.2.at_,h.2.seed_.v,e.Name,(r.1.Stops.set (0:Int).toNat h.1),r.1.Lines,e.Runs))
 else
  if(a.1==1)=true then
   (yk2 a.2 ([(str [114,49]),(str [108,49]),(str []),(str [88])]:List ByteArray)).bind fun i=>
   some (.go (i.2.code_,i.2.at_,i.2.seed_.v,i.1,r.1.Stops,r.1.Lines,e.Runs))
  else
   if(a.1==2)=true then
    (yad a.2 (e.Stops.length:Int)).bind fun j=>
    (yad j.2 10).bind fun g=>
    (idx e.Stops j.1).bind fun A=>
    some (.go (g.2.code_,g.2.at_,g.2.seed_.v,e.Name,r.1.Stops,(r.1.Lines.set f.1.toNat (⟨e.Name,(e.Stops.set j.1.toNat (w64 (g.1-1))),e.Runs⟩:Line)),((⟨e.Name,(e.Stops.set j.1.toNat (w64 (g.1-1))),e.Runs⟩:Line).Runs)))
   else
    if(a.1==3)=true then
     (yad a.2 (e.Runs.length:Int)).bind fun d=>
     (zq94 d.2 ([0,60,61,(-1)]:List Int)).bind fun b=>
     (idx e.Runs d.1).bind fun B=>
     some (.go (b.2.code_,b.2.at_,b.2.seed_.v,e.Name,r.1.Stops,(r.1.Lines.set f.1.toNat (⟨e.Name,e.Stops,(e.Runs.set d.1.toNat b.1)⟩:Line)),((⟨e.Name,e.Stops,(e.Runs.set d.1.toNat b.1)⟩:Line).Runs)))
    else
     if(a.1==4)=true then
      (chk (e.Runs.length+([3]:List Int).length<=4294967296)).bind fun u=>
      some (.go (a.2.code_,a.2.at_,a.2.seed_.v,e.Name,r.1.Stops,r.1.Lines,(e.Runs++([3]:List Int))))
     else
      if(a.1==5)=true then
       some (.ret ((⟨r.1.Stops,([]:List Line)⟩:Network),a.2))
      else
       if(a.1==6)=true then
        (iter (yfa r) ((0:Int),a.2.code_,a.2.at_,a.2.seed_.v,r.1.Lines)).bind fun((k,l,m,n):(List UInt8)×Int×Int×(List Line))=>
        some (.ret ((⟨r.1.Stops,n⟩:Network),(⟨k,l,(⟨m⟩:IK .u64)⟩:l1Cur)))
       else
        some (.go (a.2.code_,a.2.at_,a.2.seed_.v,e.Name,r.1.Stops,r.1.Lines,e.Runs))) fun((v,q,s,t,w,o,x):(List UInt8)×Int×Int×ByteArray×(List ByteArray)×(List Line)×(List Int))=>
 (idx o f.1).bind fun y=>
 some ((⟨w,(o.set f.1.toNat (⟨t,y.Stops,x⟩:Line))⟩:Network),(⟨v,q,(⟨s⟩:IK .u64)⟩:l1Cur))
def yi2:Int×(List UInt8)×Int×Int×(List Trip)->Option (Lp (Int×(List UInt8)×Int×Int×(List Trip)) ((List UInt8)×Int×Int×(List Trip)))
 |(c,g,d,e,a)=>
  (yad (⟨g,d,(⟨e⟩:IK .u64)⟩:l1Cur) 2).bind fun b=>
  (if(decide ((a.length:Int)<(w64 (12+b.1))))=true then some (decide (c<14))else some false).bind fun(f:Bool)=>
  if f=true then
   (chk (a.length+([(⟨(w64 (100+c)),0,(w64 (400+c))⟩:Trip)]:List Trip).length<=4294967296)).bind fun u=>
   some (.nx ((w64 (c+1)),b.2.code_,b.2.at_,b.2.seed_.v,(a++([(⟨(w64 (100+c)),0,(w64 (400+c))⟩:Trip)]:List Trip))))
  else
   some (.dn (b.2.code_,b.2.at_,b.2.seed_.v,a))
def zq96(c:l1Cur):Option (Timetable×l1Cur):=
 (yn2 c).bind fun r=>
 if((r.1.Trips.length:Int)==0)=true then
  some ((⟨(⟨r.1.Network.Stops,r.1.Network.Lines⟩:Network),r.1.Trips⟩:Timetable),r.2)
 else
  (yad r.2 (r.1.Trips.length:Int)).bind fun d=>
  (idx r.1.Trips d.1).bind fun e=>
  flb ((yad d.2 24).bind fun a=>
  if(a.1==0)=true then
   (zq93 a.2 ([0,999,1000,2]:List Int)).bind fun f=>
   some (.go (f.2.code_,f.2.at_,f.2.seed_.v,r.1.Network.Lines,f.1,e.Line,e.Start,r.1.Network.Stops))
  else
   if(a.1==1)=true then
    (yad a.2 7).bind fun g=>
    some (.go (g.2.code_,g.2.at_,g.2.seed_.v,r.1.Network.Lines,e.Id,(w64 (g.1-1)),e.Start,r.1.Network.Stops))
   else
    if(a.1==2)=true then
     (zq93 a.2 ([(-1),0,1799,1798,1800]:List Int)).bind fun h=>
     some (.go (h.2.code_,h.2.at_,h.2.seed_.v,r.1.Network.Lines,e.Id,e.Line,h.1,r.1.Network.Stops))
    else
     if(a.1==3)=true then
      (zq95 a.2).bind fun b=>
      some (.go (b.2.code_,b.2.at_,b.2.seed_.v,b.1.Lines,e.Id,e.Line,e.Start,b.1.Stops))
     else
      if(a.1==4)=true then
       (iter (yi2) ((0:Int),a.2.code_,a.2.at_,a.2.seed_.v,r.1.Trips)).bind fun((i,j,k,l):(List UInt8)×Int×Int×(List Trip))=>
       some (.ret ((⟨(⟨r.1.Network.Stops,r.1.Network.Lines⟩:Network),l⟩:Timetable),(⟨i,j,(⟨k⟩:IK .u64)⟩:l1Cur)))
      else
       some (.go (a.2.code_,a.2.at_,a.2.seed_.v,r.1.Network.Lines,e.Id,e.Line,e.Start,r.1.Network.Stops))) fun((v,m,n,o,q,s,t,u):(List UInt8)×Int×Int×(List Line)×Int×Int×Int×(List ByteArray))=>
  (idx r.1.Trips d.1).bind fun w=>
  some ((⟨(⟨u,o⟩:Network),(r.1.Trips.set d.1.toNat (⟨q,s,t⟩:Trip))⟩:Timetable),(⟨v,m,(⟨n⟩:IK .u64)⟩:l1Cur))
def yh9(a:Int)(b:Int):Option (Int):=
 if(decide (b<a))=true then
  some a
 else
  some b
def yg1(g:Network×l1Cur):Int×(List UInt8)×Int×Int×(List Trip)->Option (Lp (Int×(List UInt8)×Int×Int×(List Trip)) ((List UInt8)×Int×Int×(List Trip)))
 |(i,v,e,f,a)=>
  if(decide (0<i))=true then
   (yad (⟨v,e,(⟨f⟩:IK .u64)⟩:l1Cur) 2).bind fun c=>
   (yad c.2 (g.1.Lines.length:Int)).bind fun d=>
   (yad d.2 16).bind fun b=>
   (chk (a.length+([(⟨(w64 ((w64 ((a.length:Int)+1))+(w64 ((w64 (2*(a.length:Int)))*c.1)))),d.1,(w64 (360+(w64 (5*b.1))))⟩:Trip)]:List Trip).length<=4294967296)).bind fun h=>
   some (.nx ((w64 (i-1)),b.2.code_,b.2.at_,b.2.seed_.v,(a++([(⟨(w64 ((w64 ((a.length:Int)+1))+(w64 ((w64 (2*(a.length:Int)))*c.1)))),d.1,(w64 (360+(w64 (5*b.1))))⟩:Trip)]:List Trip))))
  else
   some (.dn (v,e,f,a))
def yg0:Int×(List Trip)->Option (Lp (Int×(List Trip)) ((List Trip)))
 |(x,a)=>
  if(decide (x<(a.length:Int)))=true then
   (idx a x).bind fun e=>
   (idx a (w64 (x-1))).bind fun c=>
   (yh9 e.Id (w64 (c.Id+1))).bind fun b=>
   (idx a x).bind fun d=>
   some (.nx ((w64 (x+1)),(a.set x.toNat (⟨b,e.Line,e.Start⟩:Trip))))
  else
   some (.dn a)
def yib(c:l1Cur):Option (Timetable×l1Cur):=
 (yd3 c 16).bind fun r=>
 if r.1=true then
  (zq96 r.2).bind fun a=>
  some ((⟨(⟨a.1.Network.Stops,a.1.Network.Lines⟩:Network),a.1.Trips⟩:Timetable),a.2)
 else
  (yn5 r.2).bind fun b=>
  (yad b.2 6).bind fun d=>
  (iter (yg1 b) ((w64 (3+d.1)),d.2.code_,d.2.at_,d.2.seed_.v,([]:List Trip))).bind fun((e,f,g,h):(List UInt8)×Int×Int×(List Trip))=>
  (iter (yg0) ((1:Int),h)).bind fun(i:List Trip)=>
  some ((⟨(⟨b.1.Stops,b.1.Lines⟩:Network),i⟩:Timetable),(⟨e,f,(⟨g⟩:IK .u64)⟩:l1Cur))
def yi1(n:Network)(k:Int):Int×(List UInt8)×Int×Int×(List Int)->Option (Lp (Int×(List UInt8)×Int×Int×(List Int)) ((List UInt8)×Int×Int×(List Int)))
 |(b,d,e,f,c)=>
  if(decide (b<(n.Stops.length:Int)))=true then
   (yh9 (w64 (k-b)) (w64 (b-k))).bind fun g=>
   (yad (⟨d,e,(⟨f⟩:IK .u64)⟩:l1Cur) 4).bind fun a=>
   (chk (c.length+([(w64 (g*(w64 (2+a.1))))]:List Int).length<=4294967296)).bind fun u=>
   some (.nx ((w64 (b+1)),a.2.code_,a.2.at_,a.2.seed_.v,(c++([(w64 (g*(w64 (2+a.1))))]:List Int))))
  else
   some (.dn (d,e,f,c))
def yi0(n:Network):Int×(List UInt8)×Int×Int×(List (List Int))->Option (Lp (Int×(List UInt8)×Int×Int×(List (List Int))) ((List UInt8)×Int×Int×(List (List Int))))
 |(k,v,e,f,b)=>
  if(decide (k<(n.Stops.length:Int)))=true then
   (iter (yi1 n k) ((0:Int),v,e,f,([]:List Int))).bind fun((g,c,d,a):(List UInt8)×Int×Int×(List Int))=>
   (chk (b.length+([a]:List (List Int)).length<=4294967296)).bind fun h=>
   some (.nx ((w64 (k+1)),g,c,d,(b++([a]:List (List Int)))))
  else
   some (.dn (v,e,f,b))
def zq98(c:l1Cur)(n:Network):Option (Fleet×l1Cur):=
 (zq94 c ([0,2,5,3]:List Int)).bind fun r=>
 (iter (yi0 n) ((0:Int),r.2.code_,r.2.at_,r.2.seed_.v,([]:List (List Int)))).bind fun((g,h,i,a):(List UInt8)×Int×Int×(List (List Int)))=>
 ((yad (⟨g,h,(⟨i⟩:IK .u64)⟩:l1Cur) 32).bind fun b=>
 if(b.1==0)=true then
  (zq94 b.2 ([30,31,(-1)]:List Int)).bind fun d=>
  some (d.2.code_,d.2.at_,d.2.seed_.v,a,d.1)
 else
  if(b.1==1)=true then
   (idx a 0).bind fun e=>
   (idx e 0).bind fun s=>
   some (b.2.code_,b.2.at_,b.2.seed_.v,(a.set (0:Int).toNat (e.set (0:Int).toNat 1)),r.1)
  else
   if(b.1==2)=true then
    (idx a 0).bind fun q=>
    (zq94 b.2 ([120,121,(-1)]:List Int)).bind fun f=>
    (idx q (w64 ((n.Stops.length:Int)-1))).bind fun t=>
    some (f.2.code_,f.2.at_,f.2.seed_.v,(a.set (0:Int).toNat (q.set (w64 ((n.Stops.length:Int)-1)).toNat f.1)),r.1)
   else
    if(b.1==3)=true then
     (chk ((0:Int)<=1/\ 1<=(a.length:Int))).bind fun u=>
     some (b.2.code_,b.2.at_,b.2.seed_.v,(a.drop (1:Int).toNat),r.1)
    else
     some (b.2.code_,b.2.at_,b.2.seed_.v,a,r.1)).bind fun((j,k,l,m,o):(List UInt8)×Int×Int×(List (List Int))×Int)=>
 some ((⟨m,o⟩:Fleet),(⟨j,k,(⟨l⟩:IK .u64)⟩:l1Cur))
def yn3(c:l1Cur):Option (Rules×l1Cur):=
 (yad c 3).bind fun r=>
 (yad r.2 2).bind fun h=>
 (zq93 h.2 ([40,60,90,120,300]:List Int)).bind fun b=>
 (zq93 b.2 ([0,5,10,20]:List Int)).bind fun i=>
 (zq93 i.2 ([0,10,30]:List Int)).bind fun j=>
 (zq93 j.2 ([90,150,240,500]:List Int)).bind fun d=>
 ((yad d.2 24).bind fun a=>
 if(a.1==0)=true then
  (zq93 a.2 ([(-1),900,901]:List Int)).bind fun e=>
  some (e.2.code_,e.2.at_,e.2.seed_.v,e.1,b.1,d.1)
 else
  if(a.1==1)=true then
   (zq93 a.2 ([(-1),901,0]:List Int)).bind fun f=>
   some (f.2.code_,f.2.at_,f.2.seed_.v,(w64 (r.1*5)),f.1,d.1)
  else
   if(a.1==2)=true then
    (zq93 a.2 ([900,901,0]:List Int)).bind fun g=>
    some (g.2.code_,g.2.at_,g.2.seed_.v,(w64 (r.1*5)),b.1,g.1)
   else
    some (a.2.code_,a.2.at_,a.2.seed_.v,(w64 (r.1*5)),b.1,d.1)).bind fun((v,k,l,m,n,o):(List UInt8)×Int×Int×Int×Int×Int)=>
 some ((⟨m,(w64 (h.1*5)),n,i.1,j.1,o⟩:Rules),(⟨v,k,(⟨l⟩:IK .u64)⟩:l1Cur))
def yau(x:Int)(a:Int)(b:Int):Option (Bool):=
 (if(decide (a<=x))=true then some (decide (x<=b))else some false).bind fun(v:Bool)=>
 some v
def yb2(s:ByteArray):Int->Option (Lp (Int) (Fl (Bool) (Unit)))
 |a=>
  if(decide (a<(s.size:Int)))=true then
   (chk ((0:Int)<=a/\ a<(s.size:Int))).bind fun c=>
   (if(decide (((s.data.toList.getD a.toNat 0).toNat:Int)<97))=true then(chk ((0:Int)<=a/\ a<(s.size:Int))).bind fun d=>
   if(decide (((s.data.toList.getD a.toNat 0).toNat:Int)<48))=true then some true else(chk ((0:Int)<=a/\ a<(s.size:Int))).bind fun e=>
   some (decide (57<((s.data.toList.getD a.toNat 0).toNat:Int)))else(chk ((0:Int)<=a/\ a<(s.size:Int))).bind fun f=>
   if(decide (122<((s.data.toList.getD a.toNat 0).toNat:Int)))=true then(chk ((0:Int)<=a/\ a<(s.size:Int))).bind fun g=>
   if(decide (((s.data.toList.getD a.toNat 0).toNat:Int)<48))=true then some true else(chk ((0:Int)<=a/\ a<(s.size:Int))).bind fun h=>
   some (decide (57<((s.data.toList.getD a.toNat 0).toNat:Int)))else some false).bind fun(b:Bool)=>
   if b=true then
    some (.dn (.ret false))
   else
    some (.nx (w64 (a+1)))
  else
   some (.dn (.go ()))
def ykt(s:ByteArray):Option (Bool):=
 (yau (s.size:Int) 1 8).bind fun r=>
 (if(!r)=true then some true else(chk ((0:Int)<=0/\ 0<(s.size:Int))).bind fun u=>
 if(decide (((s.data.toList.getD (0:Int).toNat 0).toNat:Int)<97))=true then some true else(chk ((0:Int)<=0/\ 0<(s.size:Int))).bind fun a=>
 some (decide (122<((s.data.toList.getD (0:Int).toNat 0).toNat:Int)))).bind fun(v:Bool)=>
 if v=true then
  some false
 else
  flb (iter (yb2 s) (0:Int)) fun(_:Unit)=>
  some true
def ydd(a:List ByteArray)(b:ByteArray):Int->Option (Lp (Int) (Fl (Int) (Unit)))
 |v=>
  if(decide (v<(a.length:Int)))=true then
   (idx a v).bind fun e=>
   if(e.toList==b.toList)=true then
    some (.dn (.ret v))
   else
    some (.nx (w64 (v+1)))
  else
   some (.dn (.go ()))
def yny(a:List ByteArray)(b:ByteArray):Option (Int):=
 flb (iter (ydd a b) (0:Int)) fun(_:Unit)=>
 some (-1)
def yda(x:Line)(g:Int):Int->Option (Lp (Int) (Fl (Bool) (Unit)))
 |a=>
  if(decide (a<(x.Stops.length:Int)))=true then
   (idx x.Stops a).bind fun b=>
   (yau b 0 (w64 (g-1))).bind fun c=>
   (if(!c)=true then some true else(idx x.Stops a).bind fun d=>
   (yh7 x d).bind fun e=>
   some (e !=a)).bind fun(f:Bool)=>
   if f=true then
    some (.dn (.ret false))
   else
    some (.nx (w64 (a+1)))
  else
   some (.dn (.go ()))
def yc9(x:Line):Int->Option (Lp (Int) (Fl (Bool) (Unit)))
 |a=>
  if(decide (a<(x.Runs.length:Int)))=true then
   (idx x.Runs a).bind fun b=>
   (yau b 1 60).bind fun c=>
   if(!c)=true then
    some (.dn (.ret false))
   else
    some (.nx (w64 (a+1)))
  else
   some (.dn (.go ()))
def ynx(x:Line)(b:Int):Option (Bool):=
 (ykt x.Name).bind fun r=>
 (if(!r)=true then some true else(yau (x.Stops.length:Int) 2 6).bind fun a=>
 if(!a)=true then some true else some ((x.Runs.length:Int)!=(w64 ((x.Stops.length:Int)-1)))).bind fun(v:Bool)=>
 if v=true then
  some false
 else
  flb (iter (yda x b) (0:Int)) fun(_:Unit)=>
  flb (iter (yc9 x) (0:Int)) fun(_:Unit)=>
  some true
def yc8(n:Network)(a:ByteArray):Int->Option (Lp (Int) (Fl (Int) (Unit)))
 |v=>
  if(decide (v<(n.Lines.length:Int)))=true then
   (idx n.Lines v).bind fun e=>
   if(e.Name.toList==a.toList)=true then
    some (.dn (.ret v))
   else
    some (.nx (w64 (v+1)))
  else
   some (.dn (.go ()))
def yku(n:Network)(a:ByteArray):Option (Int):=
 flb (iter (yc8 n a) (0:Int)) fun(_:Unit)=>
 some (-1)
def ydc(n:Network):Int->Option (Lp (Int) (Fl (Bool) (Unit)))
 |i=>
  if(decide (i<(n.Stops.length:Int)))=true then
   (idx n.Stops i).bind fun a=>
   (ykt a).bind fun b=>
   (if(!b)=true then some true else(idx n.Stops i).bind fun c=>
   (yny n.Stops c).bind fun d=>
   some (d !=i)).bind fun(e:Bool)=>
   if e=true then
    some (.dn (.ret false))
   else
    some (.nx (w64 (i+1)))
  else
   some (.dn (.go ()))
def ydb(n:Network):Int->Option (Lp (Int) (Fl (Bool) (Unit)))
 |a=>
  if(decide (a<(n.Lines.length:Int)))=true then
   (idx n.Lines a).bind fun c=>
   (ynx c (n.Stops.length:Int)).bind fun d=>
   (if(!d)=true then some true else(idx n.Lines a).bind fun e=>
   (yku n e.Name).bind fun b=>
   some (b !=a)).bind fun(f:Bool)=>
   if f=true then
    some (.dn (.ret false))
   else
    some (.nx (w64 (a+1)))
  else
   some (.dn (.go ()))
def ykv(n:Network):Option (Bool):=
 (yau (n.Stops.length:Int) 2 8).bind fun r=>
 (if(!r)=true then some true else(yau (n.Lines.length:Int) 1 5).bind fun a=>
 some (!a)).bind fun(v:Bool)=>
 if v=true then
  some false
 else
  flb (iter (ydc n) (0:Int)) fun(_:Unit)=>
  flb (iter (ydb n) (0:Int)) fun(_:Unit)=>
  some true
def yem(t:Int):Option (Bool):=
 (yau t 0 1799).bind fun r=>
 some r
def ykn(t:Timetable)(i:Int):Option (Line):=
 (idx t.Trips i).bind fun a=>
 (idx t.Network.Lines a.Line).bind fun b=>
 some b
def yh5(t:Timetable)(i:Int):Option ((List Int)):=
 (ykn t i).bind fun r=>
 some r.Stops
def ygk(x:Line)(b:Int):Int×Int->Option (Lp (Int×Int) (Int))
 |(v,a)=>
  if(decide (a<b))=true then
   (idx x.Runs a).bind fun e=>
   some (.nx ((w64 (v+e)),(w64 (a+1))))
  else
   some (.dn v)
def yh6(x:Line)(b:Int)(c:Int):Option (Int):=
 (iter (ygk x c) ((0:Int),b)).bind fun(a:Int)=>
 some a
def ynw(t:Timetable)(i:Int)(k:Int):Option (Int):=
 (idx t.Trips i).bind fun a=>
 (ykn t i).bind fun b=>
 (yh6 b 0 k).bind fun c=>
 some (w64 (a.Start+c))
def ydz(t:Timetable)(i:Int):Option (Int):=
 (yh5 t i).bind fun a=>
 (ynw t i (w64 ((a.length:Int)-1))).bind fun b=>
 some b
def ygg(t:Timetable):Int->Option (Lp (Int) (Fl (Bool) (Unit)))
 |x=>
  if(decide (x<(t.Trips.length:Int)))=true then
   (idx t.Trips x).bind fun e=>
   (yau e.Id 1 999).bind fun b=>
   (if(!b)=true then some true else(yau e.Line 0 (w64 ((t.Network.Lines.length:Int)-1))).bind fun c=>
   if(!c)=true then some true else(yem e.Start).bind fun d=>
   if(!d)=true then some true else(ydz t x).bind fun f=>
   (yem f).bind fun a=>
   if(!a)=true then some true else if(decide (0<x))=true then(idx t.Trips (w64 (x-1))).bind fun g=>
   some (decide (e.Id<=g.Id))else some false).bind fun(h:Bool)=>
   if h=true then
    some (.dn (.ret false))
   else
    some (.nx (w64 (x+1)))
  else
   some (.dn (.go ()))
def ynv(t:Timetable):Option (Bool):=
 (ykv t.Network).bind fun r=>
 (if(!r)=true then some true else some (decide (12<(t.Trips.length:Int)))).bind fun(v:Bool)=>
 if v=true then
  some false
 else
  flb (iter (ygg t) (0:Int)) fun(_:Unit)=>
  some true
def yfm(f:Fleet)(b:Int):Int->Option (Lp (Int) (Fl (Lp (Int) (Fl (Bool) (Unit))) (Unit)))
 |a=>
  (idx f.Dead b).bind fun c=>
  if(decide (a<(c.length:Int)))=true then
   (idx f.Dead b).bind fun d=>
   (idx d a).bind fun e=>
   (yau e 0 120).bind fun g=>
   if(!g)=true then
    some (.dn (.ret (.dn (.ret false))))
   else
    some (.nx (w64 (a+1)))
  else
   some (.dn (.go ()))
def yjk(n:Network)(f:Fleet):Int->Option (Lp (Int) (Fl (Bool) (Unit)))
 |a=>
  if(decide (a<(f.Dead.length:Int)))=true then
   (idx f.Dead a).bind fun b=>
   (if((b.length:Int)!=(n.Stops.length:Int))=true then some true else(idx f.Dead a).bind fun c=>
   (idx c a).bind fun d=>
   some (d !=0)).bind fun(e:Bool)=>
   if e=true then
    some (.dn (.ret false))
   else
    flb (iter (yfm f a) (0:Int)) fun(_:Unit)=>
    some (.nx (w64 (a+1)))
  else
   some (.dn (.go ()))
def zq66(n:Network)(f:Fleet):Option (Bool):=
 (ykv n).bind fun r=>
 (if(!r)=true then some true else if((f.Dead.length:Int)!=(n.Stops.length:Int))=true then some true else(yau f.Turn 0 30).bind fun a=>
 some (!a)).bind fun(v:Bool)=>
 if v=true then
  some false
 else
  flb (iter (yjk n f) (0:Int)) fun(_:Unit)=>
  some true
def zq61(t:Timetable)(f:Fleet):Option (Bool):=
 (ynv t).bind fun r=>
 (if r=true then(zq66 t.Network f).bind fun a=>
 some a else some false).bind fun(v:Bool)=>
 some v
def zq65(t:Timetable)(f:Fleet)(a:Int)(b:Int):Option (Int):=
 (yh5 t a).bind fun c=>
 (yh5 t b).bind fun d=>
 (idx c (w64 ((c.length:Int)-1))).bind fun e=>
 (idx f.Dead e).bind fun g=>
 (idx d 0).bind fun h=>
 (idx g h).bind fun i=>
 some i
def zq67(t:Timetable)(f:Fleet)(a:Int)(b:Int):Option (Bool):=
 (if(a !=b)=true then(idx t.Trips b).bind fun c=>
 (ydz t a).bind fun d=>
 (zq65 t f a b).bind fun e=>
 some (decide ((w64 ((w64 (d+f.Turn))+e))<=c.Start))else some false).bind fun(v:Bool)=>
 some v
def yia(a:Int)(b:Int):Option (Int):=
 if(decide (a<b))=true then
  some a
 else
  some b
def yji(n:l11Plan->Int->Int->Option (Int×(List (List Int))))(x:l11Plan)(i:Int)(m:Int):Int×Int×(List (List Int))->Option (Lp (Int×Int×(List (List Int))) (Int×(List (List Int))))
 |(v,a,b)=>
  if(decide (a<(x.t_.Trips.length:Int)))=true then
   ((chk ((0:Int)<=(IntKind.u64.wrap (a)))).bind fun k=>
   (if((IntKind.i64.wrap ((BitVec.ofInt (IntKind.i64).bits (m.fdiv (2^(min ((IntKind.u64.wrap (a)):Int).toNat (IntKind.i64).bits)))&&&BitVec.ofInt (IntKind.i64).bits 1).toNat:Int))==0)=true then(zq67 x.t_ x.f_ a i).bind fun d=>
   some d else some false).bind fun(e:Bool)=>
   if e=true then
    (zq65 x.t_ x.f_ a i).bind fun f=>
    (chk ((0:Int)<=(IntKind.u64.wrap (a)))).bind fun l=>
    (n (⟨x.t_,x.f_,b⟩:l11Plan) (w64 (i+1)) (IntKind.i64.wrap ((BitVec.ofInt (IntKind.i64).bits m|||BitVec.ofInt (IntKind.i64).bits (w64 (1*2^(min ((IntKind.u64.wrap (a)):Int).toNat (IntKind.i64).bits)))).toNat:Int))).bind fun c=>
    (yia v (w64 (f+c.1))).bind fun g=>
    some (g,c.2)
   else
    some (v,b)).bind fun((h,j):Int×(List (List Int)))=>
   some (.nx (h,(w64 (a+1)),j))
  else
   some (.dn (v,b))
def ydq(k:l11Plan->Int->Int->Option (Int×(List (List Int))))(x:l11Plan)(i:Int)(j:Int):Option (Int×(List (List Int))):=
 if(i==(x.t_.Trips.length:Int))=true then
  some (0,x.known_)
 else
  (idx x.known_ i).bind fun e=>
  (idx e j).bind fun d=>
  if(decide (0<=d))=true then
   (idx x.known_ i).bind fun g=>
   (idx e j).bind fun f=>
   some (f,x.known_)
  else
   (k (⟨x.t_,x.f_,x.known_⟩:l11Plan) (w64 (i+1)) j).bind fun r=>
   (iter (yji k x i j) ((w64 (100000+r.1)),(0:Int),r.2)).bind fun((a,b):Int×(List (List Int)))=>
   (idx b i).bind fun c=>
   (idx c j).bind fun h=>
   some (a,(b.set i.toNat (c.set j.toNat a)))
def yh0:Nat->l11Plan->Int->Int->Option (Int×(List (List Int)))
 |0=>fun _ _ _=>none
 |n+1=>ydq (yh0 n)
def zq69(x:l11Plan)(i:Int)(a:Int):Option (Int×(List (List Int))):=yh0 4294967296 x i a
def yjp:Int×(List Int)->Option (Lp (Int×(List Int)) ((List Int)))
 |(a,out)=>
  if(decide (a<(out.length:Int)))=true then
   (idx out a).bind fun e=>
   some (.nx ((w64 (a+1)),(out.set a.toNat (-1))))
  else
   some (.dn out)
def yjo(t:Timetable):Int×(List (List Int))->Option (Lp (Int×(List (List Int))) ((List (List Int))))
 |(k,v)=>
  if(decide (k<(t.Trips.length:Int)))=true then
   (chk ((0:Int)<=(IntKind.u64.wrap ((t.Trips.length:Int))))).bind fun u=>
   (chk ((0:Int)<=(w64 (1*2^(min ((IntKind.u64.wrap ((t.Trips.length:Int))):Int).toNat (IntKind.i64).bits)))/\ ((w64 (1*2^(min ((IntKind.u64.wrap ((t.Trips.length:Int))):Int).toNat (IntKind.i64).bits))):Int)<=4294967296)).bind fun a=>
   (iter (yjp) ((0:Int),(List.replicate (w64 (1*2^(min ((IntKind.u64.wrap ((t.Trips.length:Int))):Int).toNat (IntKind.i64).bits))).toNat (0:Int)))).bind fun(c:List Int)=>
   (chk (v.length+([c]:List (List Int)).length<=4294967296)).bind fun b=>
   some (.nx ((w64 (k+1)),(v++([c]:List (List Int)))))
  else
   some (.dn v)
def yjn(t:Timetable)(f:Fleet)(p:Int)(o:Int)(r:Int×(List (List Int))):Int×Int×(List (List Int))->Option (Lp (Int×Int×(List (List Int))) (Int×(List (List Int))))
 |(d,a,c)=>
  (if(decide (a<(t.Trips.length:Int)))=true then some (decide (d<0))else some false).bind fun(i:Bool)=>
  if i=true then
   ((chk ((0:Int)<=(IntKind.u64.wrap (a)))).bind fun m=>
   (if((IntKind.i64.wrap ((BitVec.ofInt (IntKind.i64).bits (p.fdiv (2^(min ((IntKind.u64.wrap (a)):Int).toNat (IntKind.i64).bits)))&&&BitVec.ofInt (IntKind.i64).bits 1).toNat:Int))==0)=true then(zq67 t f a o).bind fun j=>
   if j=true then(zq65 t f a o).bind fun k=>
   (chk ((0:Int)<=(IntKind.u64.wrap (a)))).bind fun n=>
   (zq69 (⟨t,f,c⟩:l11Plan) (w64 (o+1)) (IntKind.i64.wrap ((BitVec.ofInt (IntKind.i64).bits p|||BitVec.ofInt (IntKind.i64).bits (w64 (1*2^(min ((IntKind.u64.wrap (a)):Int).toNat (IntKind.i64).bits)))).toNat:Int))).bind fun h=>
   some (((w64 (k+h.1))==r.1),h.2)else some (false,c)else some (false,c)).bind fun((e,b):Bool×(List (List Int)))=>
   if e=true then
    some (a,b)
   else
    some (d,b)).bind fun((l,g):Int×(List (List Int)))=>
   some (.nx (l,(w64 (a+1)),g))
  else
   some (.dn (d,c))
def yjm(t:Timetable)(f:Fleet):Int×Int×(List Int)×(List (List Int))->Option (Lp (Int×Int×(List Int)×(List (List Int))) ((List Int)))
 |(l,k,i,e)=>
  if(decide (k<(t.Trips.length:Int)))=true then
   (zq69 (⟨t,f,e⟩:l11Plan) k l).bind fun r=>
   ((zq69 (⟨t,f,r.2⟩:l11Plan) (w64 (k+1)) l).bind fun b=>
   if((w64 (100000+b.1))!=r.1)=true then
    (iter (yjn t f l k r) (((-1):Int),(0:Int),b.2)).bind fun((a,c):Int×(List (List Int)))=>
    (chk ((0:Int)<=(IntKind.u64.wrap (a)))).bind fun h=>
    some ((IntKind.i64.wrap ((BitVec.ofInt (IntKind.i64).bits l|||BitVec.ofInt (IntKind.i64).bits (w64 (1*2^(min ((IntKind.u64.wrap (a)):Int).toNat (IntKind.i64).bits)))).toNat:Int)),a,c)
   else
    some (l,((-1):Int),b.2)).bind fun((m,d,g):Int×Int×(List (List Int)))=>
   (chk (i.length+([d]:List Int).length<=4294967296)).bind fun j=>
   some (.nx (m,(w64 (k+1)),(i++([d]:List Int)),g))
  else
   some (.dn i)
def zq62(t:Timetable)(f:Fleet):Option ((List Int)):=
 (iter (yjo t) ((0:Int),([]:List (List Int)))).bind fun(a:List (List Int))=>
 (iter (yjm t f) ((0:Int),(0:Int),([]:List Int),a)).bind fun(b:List Int)=>
 some b
def yfp(d:List Int)(k:Int):Int×Int->Option (Lp (Int×Int) (Int))
 |(v,a)=>
  if(decide (a<(d.length:Int)))=true then
   ((idx d a).bind fun b=>
   if(b==k)=true then
    some a
   else
    some v).bind fun(c:Int)=>
   some (.nx (c,(w64 (a+1))))
  else
   some (.dn v)
def yfo(t:Timetable)(c:List Int):Int×(List Int)->Option (Lp (Int×(List Int)) ((List Int)))
 |(k,next)=>
  if(decide (0<=k))=true then
   (idx t.Trips k).bind fun a=>
   (chk (next.length+([a.Id]:List Int).length<=4294967296)).bind fun u=>
   (iter (yfp c k) (((-1):Int),(0:Int))).bind fun(b:Int)=>
   some (.nx (b,(next++([a.Id]:List Int))))
  else
   some (.dn next)
def yjl(t:Timetable)(b:List Int):Int×(List (List Int))->Option (Lp (Int×(List (List Int))) ((List (List Int))))
 |(at_,block)=>
  if(decide (at_<(b.length:Int)))=true then
   ((idx b at_).bind fun e=>
   if(decide (0<=e))=true then
    some block
   else
    (iter (yfo t b) (at_,([]:List Int))).bind fun(c:List Int)=>
    (chk (block.length+([c]:List (List Int)).length<=4294967296)).bind fun a=>
    some (block++([c]:List (List Int)))).bind fun(d:List (List Int))=>
   some (.nx ((w64 (at_+1)),d))
  else
   some (.dn block)
def zq64(t:Timetable)(a:List Int):Option ((List (List Int))):=
 (iter (yjl t a) ((0:Int),([]:List (List Int)))).bind fun(b:List (List Int))=>
 some b
def zq97(c:l1Cur):Option (Timetable×Fleet×(List (List Int))×Rules×l1Cur):=
 (yib c).bind fun r=>
 ((if(decide (6<(r.1.Trips.length:Int)))=true then(yd3 r.2 10).bind fun d=>
 some ((!d.1),d.2.code_,d.2.at_,d.2.seed_.v)else some (false,r.2.code_,r.2.at_,r.2.seed_.v)).bind fun((i,f,g,h):Bool×(List UInt8)×Int×Int)=>
 if i=true then
  (chk ((0:Int)<=0/\ (0:Int)<=(6:Int)/\ (6:Int)<=(r.1.Trips.length:Int))).bind fun u=>
  some (f,g,h,((r.1.Trips.take (6:Int).toNat).drop (0:Int).toNat))
 else
  some (f,g,h,r.1.Trips)).bind fun((v,j,k,a):(List UInt8)×Int×Int×(List Trip))=>
 (zq98 (⟨v,j,(⟨k⟩:IK .u64)⟩:l1Cur) r.1.Network).bind fun b=>
 (yn3 b.2).bind fun e=>
 (zq61 (⟨r.1.Network,a⟩:Timetable) b.1).bind fun l=>
 (if(!l)=true then some true else some (decide (9<(a.length:Int)))).bind fun(m:Bool)=>
 if m=true then
  some ((⟨r.1.Network,a⟩:Timetable),b.1,([]:List (List Int)),e.1,e.2)
 else
  (zq62 (⟨r.1.Network,a⟩:Timetable) b.1).bind fun n=>
  (zq64 (⟨r.1.Network,a⟩:Timetable) n).bind fun o=>
  some ((⟨r.1.Network,a⟩:Timetable),b.1,o,e.1,e.2)
def zq59(a:List UInt8):Option (Timetable×Fleet×(List (List Int))×Rules):=
 (zq97 (⟨a,0,(⟨0⟩:IK .u64)⟩:l1Cur)).bind fun r=>
 some (r.1,r.2.1,r.2.2.1,r.2.2.2.1)
def zq56(n:Int)(lo:Int)(hi:Int):Option (Bool):=
 (if(decide (lo<=n))=true then some (decide (n<=hi))else some false).bind fun(v:Bool)=>
 some v
def yds(s:ByteArray):Int->Option (Lp (Int) (Fl (Bool) (Unit)))
 |a=>
  if(decide (a<(s.size:Int)))=true then
   (chk ((0:Int)<=a/\ a<(s.size:Int))).bind fun u=>
   (if(decide (97<=((s.data.toList.getD a.toNat 0).toNat:Int)))=true then(chk ((0:Int)<=a/\ a<(s.size:Int))).bind fun d=>
   some (decide (((s.data.toList.getD a.toNat 0).toNat:Int)<=122))else some false).bind fun(b:Bool)=>
   (if(!b)=true then if(a==0)=true then some true else(chk ((0:Int)<=a/\ a<(s.size:Int))).bind fun e=>
   if(decide (((s.data.toList.getD a.toNat 0).toNat:Int)<48))=true then some true else(chk ((0:Int)<=a/\ a<(s.size:Int))).bind fun f=>
   some (decide (57<((s.data.toList.getD a.toNat 0).toNat:Int)))else some false).bind fun(c:Bool)=>
   if c=true then
    some (.dn (.ret false))
   else
    some (.nx (w64 (a+1)))
  else
   some (.dn (.go ()))
def zq36(s:ByteArray):Option (Bool):=
 (if(decide ((s.size:Int)<1))=true then some true else some (decide (8<(s.size:Int)))).bind fun(v:Bool)=>
 if v=true then
  some false
 else
  flb (iter (yds s) (0:Int)) fun(_:Unit)=>
  some true
def yc2(s:List ByteArray)(v:ByteArray):Int->Option (Lp (Int) (Fl (Int) (Unit)))
 |a=>
  if(decide (a<(s.length:Int)))=true then
   (idx s a).bind fun e=>
   if(v.toList==e.toList)=true then
    some (.dn (.ret a))
   else
    some (.nx (w64 (a+1)))
  else
   some (.dn (.go ()))
def ynt(s:List ByteArray)(v:ByteArray):Option (Int):=
 flb (iter (yc2 s v) (0:Int)) fun(_:Unit)=>
 some (-1)
def yf7(names:List ByteArray):Int->Option (Lp (Int) (Fl (Bool) (Unit)))
 |v=>
  if(decide (v<(names.length:Int)))=true then
   (idx names v).bind fun e=>
   (zq36 e).bind fun r=>
   (if(!r)=true then some true else(ynt names e).bind fun a=>
   some (a !=v)).bind fun(b:Bool)=>
   if b=true then
    some (.dn (.ret false))
   else
    some (.nx (w64 (v+1)))
  else
   some (.dn (.go ()))
def zq15(names:List ByteArray):Option (Bool):=
 flb (iter (yf7 names) (0:Int)) fun(_:Unit)=>
 some true
def yfs(n:Network):Int×(List ByteArray)->Option (Lp (Int×(List ByteArray)) ((List ByteArray)))
 |(v,i)=>
  if(decide (v<(n.Lines.length:Int)))=true then
   (idx n.Lines v).bind fun e=>
   (idx i v).bind fun a=>
   some (.nx ((w64 (v+1)),(i.set v.toNat e.Name)))
  else
   some (.dn i)
def zq43(n:Network):Option ((List ByteArray)):=
 (chk ((0:Int)<=(n.Lines.length:Int)/\ ((n.Lines.length:Int):Int)<=4294967296)).bind fun u=>
 (iter (yfs n) ((0:Int),(List.replicate (n.Lines.length:Int).toNat (ByteArray.empty:ByteArray)))).bind fun(a:List ByteArray)=>
 some a
def zq39(n:Network)(a:Int):Option (Bool):=
 (if(decide (0<=a))=true then some (decide (a<(n.Stops.length:Int)))else some false).bind fun(v:Bool)=>
 some v
def yc3(s:List Int)(v:Int):Int->Option (Lp (Int) (Fl (Int) (Unit)))
 |a=>
  if(decide (a<(s.length:Int)))=true then
   (idx s a).bind fun e=>
   if(v==e)=true then
    some (.dn (.ret a))
   else
    some (.nx (w64 (a+1)))
  else
   some (.dn (.go ()))
def ykj(s:List Int)(v:Int):Option (Int):=
 flb (iter (yc3 s v) (0:Int)) fun(_:Unit)=>
 some (-1)
def yfu(n:Network)(l:Line):Int->Option (Lp (Int) (Fl (Bool) (Unit)))
 |a=>
  if(decide (a<(l.Stops.length:Int)))=true then
   (idx l.Stops a).bind fun e=>
   (zq39 n e).bind fun b=>
   (if(!b)=true then some true else(ykj l.Stops e).bind fun c=>
   some (c !=a)).bind fun(d:Bool)=>
   if d=true then
    some (.dn (.ret false))
   else
    some (.nx (w64 (a+1)))
  else
   some (.dn (.go ()))
def yft(l:Line):Int->Option (Lp (Int) (Fl (Bool) (Unit)))
 |a=>
  if(decide (a<(l.Runs.length:Int)))=true then
   (idx l.Runs a).bind fun b=>
   (zq56 b 1 60).bind fun c=>
   if(!c)=true then
    some (.dn (.ret false))
   else
    some (.nx (w64 (a+1)))
  else
   some (.dn (.go ()))
def zq40(n:Network)(l:Line):Option (Bool):=
 (zq56 (l.Stops.length:Int) 2 6).bind fun r=>
 (if(!r)=true then some true else some ((l.Runs.length:Int)!=(w64 ((l.Stops.length:Int)-1)))).bind fun(v:Bool)=>
 if v=true then
  some false
 else
  flb (iter (yfu n l) (0:Int)) fun(_:Unit)=>
  flb (iter (yft l) (0:Int)) fun(_:Unit)=>
  some true
def yln(n:Network):Int->Option (Lp (Int) (Fl (Bool) (Unit)))
 |a=>
  if(decide (a<(n.Lines.length:Int)))=true then
   (idx n.Lines a).bind fun e=>
   (zq40 n e).bind fun b=>
   if(!b)=true then
    some (.dn (.ret false))
   else
    some (.nx (w64 (a+1)))
  else
   some (.dn (.go ()))
def zq9(n:Network):Option (Bool):=
 (zq56 (n.Stops.length:Int) 2 8).bind fun r=>
 (if(!r)=true then some true else(zq56 (n.Lines.length:Int) 1 5).bind fun a=>
 if(!a)=true then some true else(zq15 n.Stops).bind fun b=>
 if(!b)=true then some true else(zq43 n).bind fun c=>
 (zq15 c).bind fun d=>
 some (!d)).bind fun(v:Bool)=>
 if v=true then
  some false
 else
  flb (iter (yln n) (0:Int)) fun(_:Unit)=>
  some true
def zq35(n:Network)(a:Int):Option (Bool):=
 (if(decide (0<=a))=true then some (decide (a<(n.Lines.length:Int)))else some false).bind fun(v:Bool)=>
 some v
def zq11(t:Int):Option (Bool):=
 (zq56 t 0 1799).bind fun r=>
 some r
def yfq(b:List Int):Int×Int->Option (Lp (Int×Int) (Int))
 |(v,a)=>
  if(decide (a<(b.length:Int)))=true then
   (idx b a).bind fun e=>
   some (.nx ((w64 (v+e)),(w64 (a+1))))
  else
   some (.dn v)
def zq52(b:List Int):Option (Int):=
 (iter (yfq b) ((0:Int),(0:Int))).bind fun(a:Int)=>
 some a
def zq28(t:Timetable)(x:Trip):Option (Int):=
 (idx t.Network.Lines x.Line).bind fun a=>
 (zq52 a.Runs).bind fun b=>
 some (w64 (x.Start+b))
def yj6(t:Timetable):Int×Int->Option (Lp (Int×Int) (Fl (Bool) (Unit)))
 |(v,a)=>
  if(decide (a<(t.Trips.length:Int)))=true then
   (idx t.Trips a).bind fun e=>
   (if(decide (e.Id<=v))=true then some true else if(decide (999<e.Id))=true then some true else(zq35 t.Network e.Line).bind fun r=>
   if(!r)=true then some true else(zq11 e.Start).bind fun b=>
   if(!b)=true then some true else(zq28 t e).bind fun c=>
   (zq11 c).bind fun d=>
   some (!d)).bind fun(f:Bool)=>
   if f=true then
    some (.dn (.ret false))
   else
    some (.nx (e.Id,(w64 (a+1))))
  else
   some (.dn (.go ()))
def zq17(t:Timetable):Option (Bool):=
 if(decide (12<(t.Trips.length:Int)))=true then
  some false
 else
  flb (iter (yj6 t) ((0:Int),(0:Int))) fun(_:Unit)=>
  some true
def zq12(t:Timetable):Option (Bool):=
 (zq9 t.Network).bind fun r=>
 (if r=true then(zq17 t).bind fun a=>
 some a else some false).bind fun(v:Bool)=>
 some v
def yfw(e:List Int):Int->Option (Lp (Int) (Fl (Lp (Int) (Fl (Bool) (Unit))) (Unit)))
 |a=>
  if(decide (a<(e.length:Int)))=true then
   (idx e a).bind fun b=>
   (zq56 b 0 120).bind fun c=>
   if(!c)=true then
    some (.dn (.ret (.dn (.ret false))))
   else
    some (.nx (w64 (a+1)))
  else
   some (.dn (.go ()))
def yjx(n:Network)(f:Fleet):Int->Option (Lp (Int) (Fl (Bool) (Unit)))
 |a=>
  if(decide (a<(f.Dead.length:Int)))=true then
   (idx f.Dead a).bind fun e=>
   (if((e.length:Int)!=(n.Stops.length:Int))=true then some true else(idx e a).bind fun b=>
   some (b !=0)).bind fun(c:Bool)=>
   if c=true then
    some (.dn (.ret false))
   else
    flb (iter (yfw e) (0:Int)) fun(_:Unit)=>
    some (.nx (w64 (a+1)))
  else
   some (.dn (.go ()))
def zq34(n:Network)(f:Fleet):Option (Bool):=
 (if((f.Dead.length:Int)!=(n.Stops.length:Int))=true then some true else(zq56 f.Turn 0 30).bind fun r=>
 some (!r)).bind fun(v:Bool)=>
 if v=true then
  some false
 else
  flb (iter (yjx n f) (0:Int)) fun(_:Unit)=>
  some true
def zq38(t:Timetable)(f:Fleet):Option (Bool):=
 (zq12 t).bind fun r=>
 (if r=true then(zq34 t.Network f).bind fun a=>
 some a else some false).bind fun(v:Bool)=>
 some v
def zq54(x:Trip)(a:Int):Option (Bool):=
 some (x.Id==a)
def yc4(s:List Trip)(f:Trip->Option (Bool)):Int->Option (Lp (Int) (Fl (Int) (Unit)))
 |v=>
  if(decide (v<(s.length:Int)))=true then
   (idx s v).bind fun e=>
   (f e).bind fun r=>
   if r=true then
    some (.dn (.ret v))
   else
    some (.nx (w64 (v+1)))
  else
   some (.dn (.go ()))
def ysq(s:List Trip)(f:Trip->Option (Bool)):Option (Int):=
 flb (iter (yc4 s f) (0:Int)) fun(_:Unit)=>
 some (-1)
def ysp(s:List Trip)(a:Int):Option (Int):=
 ysq s (fun(b:Trip)=>zq54 b a)
def zq53(t:Timetable)(id:Int):Option (Int):=
 (ysp t.Trips id).bind fun r=>
 some r
def zq55(t:Timetable)(id:Int):Option (Trip):=
 (zq53 t id).bind fun a=>
 (idx t.Trips a).bind fun b=>
 some b
def zq44(t:Timetable)(x:Trip):Option (Line):=
 (idx t.Network.Lines x.Line).bind fun e=>
 some e
def zq41(t:Timetable)(x:Trip):Option (Int):=
 (zq44 t x).bind fun r=>
 (idx r.Stops (w64 ((r.Stops.length:Int)-1))).bind fun e=>
 some e
def zq30(t:Timetable)(x:Trip):Option (Int):=
 (zq44 t x).bind fun r=>
 (idx r.Stops 0).bind fun e=>
 some e
def zq27(t:Timetable)(f:Fleet)(a:Trip)(b:Trip):Option (Int):=
 (zq41 t a).bind fun c=>
 (idx f.Dead c).bind fun d=>
 (zq30 t b).bind fun e=>
 (idx d e).bind fun g=>
 some g
def zq19(t:Timetable)(f:Fleet)(a:Trip)(b:Trip):Option (Bool):=
 (zq28 t a).bind fun c=>
 (zq27 t f a b).bind fun d=>
 some (decide ((w64 ((w64 (c+f.Turn))+d))<=b.Start))
def ya5(t:Timetable)(f:Fleet)(e:List Int):Int×Int×(List Bool)->Option (Lp (Int×Int×(List Bool)) (Fl (Lp (Int×Int×Int×(List Bool)) (Fl (Bool) (Int))) (Int×(List Bool))))
 |(p,b,c)=>
  if(decide (b<(e.length:Int)))=true then
   (idx e b).bind fun g=>
   (zq53 t g).bind fun a=>
   (if(decide (a<0))=true then some true else(chk ((0:Int)<=a/\ (a:Int)<12)).bind fun n=>
   (idx c a).bind fun h=>
   if h=true then some true else if(decide (0<b))=true then(idx e (w64 (b-1))).bind fun i=>
   (zq55 t i).bind fun j=>
   (idx t.Trips a).bind fun d=>
   (zq19 t f j d).bind fun k=>
   some (!k)else some false).bind fun(l:Bool)=>
   if l=true then
    some (.dn (.ret (.dn (.ret false))))
   else
    (chk ((0:Int)<=a/\ (a:Int)<12)).bind fun o=>
    (idx c a).bind fun m=>
    some (.nx ((w64 (p+1)),(w64 (b+1)),(c.set a.toNat true)))
  else
   some (.dn (.go (p,c)))
def yax(t:Timetable)(f:Fleet)(h:List (List Int)):Int×Int×Int×(List Bool)->Option (Lp (Int×Int×Int×(List Bool)) (Fl (Bool) (Int)))
 |(block,k,v,a)=>
  if(decide (v<(h.length:Int)))=true then
   (idx h v).bind fun e=>
   (if((e.length:Int)==0)=true then some true else(idx e 0).bind fun b=>
   some (decide (b<=k))).bind fun(c:Bool)=>
   if c=true then
    some (.dn (.ret false))
   else
    (idx e 0).bind fun d=>
    flb (iter (ya5 t f e) (block,(0:Int),a)) fun((i,g):Int×(List Bool))=>
    some (.nx (i,d,(w64 (v+1)),g))
  else
   some (.dn (.go block))
def zq14(t:Timetable)(f:Fleet)(b:List (List Int)):Option (Bool):=
 flb (iter (yax t f b) ((0:Int),(0:Int),(0:Int),(List.replicate 12 (false:Bool)))) fun(a:Int)=>
 some (a==(t.Trips.length:Int))
def zq8(t:Timetable)(f:Fleet)(b:List (List Int)):Option (Bool):=
 (zq38 t f).bind fun r=>
 (if r=true then(zq14 t f b).bind fun a=>
 some a else some false).bind fun(v:Bool)=>
 some v
def ykz(r:Rules):Int->Option (Lp (Int) (Fl (Bool) (Unit)))
 |v=>
  if(decide (v<6))=true then
   (chk ((0:Int)<=v/\ (v:Int)<6)).bind fun u=>
   (idx ([r.SignOn,r.SignOff,r.MaxDrive,r.MinBreak,r.PaidBreak,r.MaxLength]:List Int) v).bind fun e=>
   (zq56 e 0 900).bind fun a=>
   if(!a)=true then
    some (.dn (.ret false))
   else
    some (.nx (w64 (v+1)))
  else
   some (.dn (.go ()))
def zq10(r:Rules):Option (Bool):=
 flb (iter (ykz r) (0:Int)) fun(_:Unit)=>
 some true
def zq16(t:Timetable)(f:Fleet)(c:List (List Int))(r:Rules):Option (Bool):=
 (zq8 t f c).bind fun a=>
 (if a=true then(zq10 r).bind fun b=>
 some b else some false).bind fun(v:Bool)=>
 some v
def yfx(t:Timetable)(f:List (List Int))(cut:Int):Int->Option (Lp (Int) (Fl (Bool) (Unit)))
 |a=>
  if(decide (a<(f.length:Int)))=true then
   (idx f a).bind fun e=>
   (idx e (w64 ((e.length:Int)-1))).bind fun c=>
   (zq53 t c).bind fun b=>
   (chk ((0:Int)<=b)).bind fun d=>
   if((IntKind.i64.wrap ((BitVec.ofInt (IntKind.i64).bits (cut.fdiv (2^(min (b:Int).toNat (IntKind.i64).bits)))&&&BitVec.ofInt (IntKind.i64).bits 1).toNat:Int))==1)=true then
    some (.dn (.ret false))
   else
    some (.nx (w64 (a+1)))
  else
   some (.dn (.go ()))
def zq33(t:Timetable)(a:List (List Int))(cut:Int):Option (Bool):=
 (if(decide (cut<0))=true then some true else(chk ((0:Int)<=(t.Trips.length:Int))).bind fun u=>
 some (decide ((w64 (1*2^(min ((t.Trips.length:Int):Int).toNat (IntKind.i64).bits)))<=cut))).bind fun(v:Bool)=>
 if v=true then
  some false
 else
  flb (iter (yfx t a cut) (0:Int)) fun(_:Unit)=>
  some true
def ycw(s:List Int):Option ((List Int)):=
 (chk (([]:List Int).length+s.length<=4294967296)).bind fun u=>
 some s
def yf3(t:Timetable)(cut:Int)(e:List Int):Int×Int×(List (List Int))->Option (Lp (Int×Int×(List (List Int))) ((List (List Int))))
 |(b,a,j)=>
  if(decide (a<(e.length:Int)))=true then
   ((idx e a).bind fun d=>
   (if(a==(w64 ((e.length:Int)-1)))=true then some true else(zq53 t d).bind fun r=>
   (chk ((0:Int)<=r)).bind fun u=>
   some ((IntKind.i64.wrap ((BitVec.ofInt (IntKind.i64).bits (cut.fdiv (2^(min (r:Int).toNat (IntKind.i64).bits)))&&&BitVec.ofInt (IntKind.i64).bits 1).toNat:Int))==1)).bind fun(f:Bool)=>
   if f=true then
    (chk ((0:Int)<=b/\ (b:Int)<=(w64 (a+1))/\ (w64 (a+1))<=(e.length:Int))).bind fun h=>
    (ycw ((e.take (w64 (a+1)).toNat).drop b.toNat)).bind fun c=>
    (chk (j.length+([c]:List (List Int)).length<=4294967296)).bind fun i=>
    some ((w64 (a+1)),(j++([c]:List (List Int))))
   else
    some (b,j)).bind fun((g,k):Int×(List (List Int)))=>
   some (.nx (g,(w64 (a+1)),k))
  else
   some (.dn j)
def yj3(t:Timetable)(a:List (List Int))(cut:Int):Int×(List (List Int))->Option (Lp (Int×(List (List Int))) ((List (List Int))))
 |(v,b)=>
  if(decide (v<(a.length:Int)))=true then
   (idx a v).bind fun e=>
   (iter (yf3 t cut e) ((0:Int),(0:Int),b)).bind fun(c:List (List Int))=>
   some (.nx ((w64 (v+1)),c))
  else
   some (.dn b)
def zq22(t:Timetable)(a:List (List Int))(cut:Int):Option ((List (List Int))):=
 (iter (yj3 t a cut) ((0:Int),([]:List (List Int)))).bind fun(b:List (List Int))=>
 some b
def ych(a:List (List Int))(id:Int):Int->Option (Lp (Int) (Fl (Int×Int) (Unit)))
 |v=>
  if(decide (v<(a.length:Int)))=true then
   (idx a v).bind fun e=>
   (ykj e id).bind fun r=>
   if(decide (0<=r))=true then
    some (.dn (.ret (v,r)))
   else
    some (.nx (w64 (v+1)))
  else
   some (.dn (.go ()))
def zq49(a:List (List Int))(id:Int):Option (Int×Int):=
 flb (iter (ych a id) (0:Int)) fun(_:Unit)=>
 some ((-1),0)
def yb0(a:List Int)(b:List Int):Int->Option (Lp (Int) (Fl (Bool) (Unit)))
 |v=>
  if(decide (v<(a.length:Int)))=true then
   (idx a v).bind fun c=>
   (idx b v).bind fun d=>
   if(c !=d)=true then
    some (.dn (.ret false))
   else
    some (.nx (w64 (v+1)))
  else
   some (.dn (.go ()))
def ynu(a:List Int)(b:List Int):Option (Bool):=
 if((a.length:Int)!=(b.length:Int))=true then
  some false
 else
  flb (iter (yb0 a b) (0:Int)) fun(_:Unit)=>
  some true
def zq37(f:List (List Int))(d:List Int):Option (Bool):=
 if((d.length:Int)==0)=true then
  some false
 else
  (idx d 0).bind fun e=>
  (zq49 f e).bind fun r=>
  (if(decide (0<=r.1))=true then(idx f r.1).bind fun b=>
  if(decide ((w64 (r.2+(d.length:Int)))<=(b.length:Int)))=true then(idx f r.1).bind fun a=>
  (chk ((0:Int)<=r.2/\ (r.2:Int)<=(w64 (r.2+(d.length:Int)))/\ (w64 (r.2+(d.length:Int)))<=(a.length:Int))).bind fun u=>
  (ynu ((a.take (w64 (r.2+(d.length:Int))).toNat).drop r.2.toNat) d).bind fun c=>
  some c else some false else some false).bind fun(k:Bool)=>
  some k
def zq58(x:IK .u64):Option (Int):=
 (if(decide (4294967296<=x.v))=true then
  (chk ((0:Int)<=32)).bind fun u=>
  some ((x.v.fdiv (2^(min (32:Int).toNat (IntKind.u64).bits))),(32:Int))
 else
  some (x.v,(0:Int))).bind fun((a,v):Int×Int)=>
 (if(decide (65536<=a))=true then
  (chk ((0:Int)<=16)).bind fun f=>
  some ((a.fdiv (2^(min (16:Int).toNat (IntKind.u64).bits))),(w64 (v+16)))
 else
  some (a,v)).bind fun((b,d):Int×Int)=>
 (if(decide (256<=b))=true then
  (chk ((0:Int)<=8)).bind fun g=>
  some ((b.fdiv (2^(min (8:Int).toNat (IntKind.u64).bits))),(w64 (d+8)))
 else
  some (b,d)).bind fun((c,e):Int×Int)=>
 (chk ((0:Int)<=(IntKind.u8.wrap (c))/\ (IntKind.u8.wrap (c))<((str [0,1,2,2,3,3,3,3,4,4,4,4,4,4,4,4,5,5,5,5,5,5,5,5,5,5,5,5,5,5,5,5,6,6,6,6,6,6,6,6,6,6,6,6,6,6,6,6,6,6,6,6,6,6,6,6,6,6,6,6,6,6,6,6,7,7,7,7,7,7,7,7,7,7,7,7,7,7,7,7,7,7,7,7,7,7,7,7,7,7,7,7,7,7,7,7,7,7,7,7,7,7,7,7,7,7,7,7,7,7,7,7,7,7,7,7,7,7,7,7,7,7,7,7,7,7,7,7,8,8,8,8,8,8,8,8,8,8,8,8,8,8,8,8,8,8,8,8,8,8,8,8,8,8,8,8,8,8,8,8,8,8,8,8,8,8,8,8,8,8,8,8,8,8,8,8,8,8,8,8,8,8,8,8,8,8,8,8,8,8,8,8,8,8,8,8,8,8,8,8,8,8,8,8,8,8,8,8,8,8,8,8,8,8,8,8,8,8,8,8,8,8,8,8,8,8,8,8,8,8,8,8,8,8,8,8,8,8,8,8,8,8,8,8,8,8,8,8,8,8,8,8,8,8,8,8]).size:Int))).bind fun h=>
 some (w64 (e+(w64 ((((str [0,1,2,2,3,3,3,3,4,4,4,4,4,4,4,4,5,5,5,5,5,5,5,5,5,5,5,5,5,5,5,5,6,6,6,6,6,6,6,6,6,6,6,6,6,6,6,6,6,6,6,6,6,6,6,6,6,6,6,6,6,6,6,6,7,7,7,7,7,7,7,7,7,7,7,7,7,7,7,7,7,7,7,7,7,7,7,7,7,7,7,7,7,7,7,7,7,7,7,7,7,7,7,7,7,7,7,7,7,7,7,7,7,7,7,7,7,7,7,7,7,7,7,7,7,7,7,7,8,8,8,8,8,8,8,8,8,8,8,8,8,8,8,8,8,8,8,8,8,8,8,8,8,8,8,8,8,8,8,8,8,8,8,8,8,8,8,8,8,8,8,8,8,8,8,8,8,8,8,8,8,8,8,8,8,8,8,8,8,8,8,8,8,8,8,8,8,8,8,8,8,8,8,8,8,8,8,8,8,8,8,8,8,8,8,8,8,8,8,8,8,8,8,8,8,8,8,8,8,8,8,8,8,8,8,8,8,8,8,8,8,8,8,8,8,8,8,8,8,8,8,8,8,8,8,8]).data.toList.getD (IntKind.u8.wrap (c)).toNat 0).toNat:Int)))))
def zq57(x:IK .u64):Option (Int):=
 (zq58 x).bind fun r=>
 some r
def zq3(x:Int):Option (Bool):=
 some (x !=x)
def zq1(x:Int)(b:Int):Option (Bool):=
 (zq3 x).bind fun r=>
 (if r=true then(zq3 b).bind fun a=>
 if(!a)=true then some true else some (decide (x<b))else some (decide (x<b))).bind fun(v:Bool)=>
 some v
def yc1(a:Int):Int×(List Int)->Option (Lp (Int×(List Int)) ((List Int)))
 |(c,b)=>
  (if(decide (a<c))=true then(idx b c).bind fun e=>
  (idx b (w64 (c-1))).bind fun f=>
  (zq1 e f).bind fun g=>
  some g else some false).bind fun(h:Bool)=>
  if h=true then
   (idx b (w64 (c-1))).bind fun d=>
   (idx b c).bind fun i=>
   (idx b c).bind fun j=>
   (idx (b.set c.toNat d) (w64 (c-1))).bind fun k=>
   some (.nx ((w64 (c-1)),((b.set c.toNat d).set (w64 (c-1)).toNat i)))
  else
   some (.dn b)
def yc0(a:Int)(b:Int):Int×(List Int)->Option (Lp (Int×(List Int)) ((List Int)))
 |(v,c)=>
  if(decide (v<b))=true then
   (iter (yc1 a) (v,c)).bind fun(d:List Int)=>
   some (.nx ((w64 (v+1)),d))
  else
   some (.dn c)
def ykd(c:List Int)(a:Int)(b:Int):Option ((List Int)):=
 iter (yc0 a b) ((w64 (a+1)),c)
def yga(d:List Int)(a:Int)(b:Int)(c:Int):Unit->Option (Lp (Unit) ((List Int)))
 |()=>
  if(decide ((w64 (b-a))<=12))=true then
   (ykd d a b).bind fun r=>
   some (.dn r)
  else
   if(c==0)=true then
    none
   else
    (some ()).bind fun(_:Unit)=>
    none
def yns(d:List Int)(a:Int)(b:Int)(c:Int):Option ((List Int)):=
 iter (yga d a b c) ()
def ykg(x:List Int):Option ((List Int)):=
 (zq57 (⟨(IntKind.u64.wrap ((x.length:Int)))⟩:IK .u64)).bind fun r=>
 (yns x 0 (x.length:Int) r).bind fun a=>
 some a
def ywb(s:List Int):Option ((List Int)):=
 comM s
def zq51(t:Timetable)(f:List Int):Option (Span):=
 (idx f 0).bind fun a=>
 (zq55 t a).bind fun b=>
 (idx f (w64 ((f.length:Int)-1))).bind fun c=>
 (zq55 t c).bind fun d=>
 (zq28 t d).bind fun e=>
 some (⟨b.Start,e⟩:Span)
def yjy(t:Timetable)(f:Fleet)(m:List (List Int)):Int×(List Int)->Option (Lp (Int×(List Int)) ((List Int)))
 |(v,b)=>
  if(decide (v<(m.length:Int)))=true then
   (idx m (w64 (v-1))).bind fun a=>
   (idx m v).bind fun c=>
   (zq51 t c).bind fun d=>
   (zq51 t a).bind fun e=>
   (idx a (w64 ((a.length:Int)-1))).bind fun h=>
   (zq55 t h).bind fun i=>
   (idx c 0).bind fun j=>
   (zq55 t j).bind fun k=>
   (zq27 t f i k).bind fun g=>
   (chk (b.length+([(w64 ((w64 (d.From-e.To))-g))]:List Int).length<=4294967296)).bind fun l=>
   some (.nx ((w64 (v+1)),(b++([(w64 ((w64 (d.From-e.To))-g))]:List Int))))
  else
   some (.dn b)
def zq31(t:Timetable)(f:Fleet)(a:List (List Int)):Option ((List Int)):=
 (iter (yjy t f a) ((1:Int),([]:List Int))).bind fun(b:List Int)=>
 some b
def zq42(t:Timetable)(r:Rules)(d:Duty):Option (Int):=
 (idx d.Pieces (w64 ((d.Pieces.length:Int)-1))).bind fun a=>
 (zq51 t a).bind fun b=>
 (idx d.Pieces 0).bind fun c=>
 (zq51 t c).bind fun e=>
 some (w64 ((w64 ((w64 (r.SignOn+b.To))-e.From))+r.SignOff))
def yf5(b:List (List Int))(d:Duty):Int×(List Int)->Option (Lp (Int×(List Int)) (Fl (Int) ((List Int))))
 |(v,s)=>
  if(decide (v<(d.Pieces.length:Int)))=true then
   (idx d.Pieces v).bind fun e=>
   (zq37 b e).bind fun a=>
   if(!a)=true then
    some (.dn (.ret 1))
   else
    (chk (s.length+e.length<=4294967296)).bind fun u=>
    some (.nx ((w64 (v+1)),(s++e)))
  else
   some (.dn (.go s))
def ycj(t:Timetable)(r:Rules)(d:Duty):Int->Option (Lp (Int) (Fl (Int) (Unit)))
 |a=>
  if(decide (a<(d.Pieces.length:Int)))=true then
   (idx d.Pieces a).bind fun c=>
   (zq51 t c).bind fun b=>
   if(decide (r.MaxDrive<(w64 (b.To-b.From))))=true then
    some (.dn (.ret 2))
   else
    some (.nx (w64 (a+1)))
  else
   some (.dn (.go ()))
def yci(r:Rules)(b:(List Int)):Int->Option (Lp (Int) (Fl (Int) (Unit)))
 |a=>
  if(decide (a<(b.length:Int)))=true then
   (idx b a).bind fun c=>
   if(decide (c<r.MinBreak))=true then
    some (.dn (.ret 3))
   else
    some (.nx (w64 (a+1)))
  else
   some (.dn (.go ()))
def zq18(t:Timetable)(f:Fleet)(j:List (List Int))(r:Rules)(d:Duty):Option (Int):=
 (zq56 (d.Pieces.length:Int) 1 3).bind fun c=>
 if(!c)=true then
  some 1
 else
  flb (iter (yf5 j d) ((0:Int),([]:List Int))) fun(e:List Int)=>
  (ykg e).bind fun b=>
  (ycw b).bind fun g=>
  (ywb g).bind fun h=>
  if(decide ((h.length:Int)<(b.length:Int)))=true then
   some 1
  else
   flb (iter (ycj t r d) (0:Int)) fun(_:Unit)=>
   (zq31 t f d.Pieces).bind fun i=>
   flb (iter (yci r i) (0:Int)) fun(_:Unit)=>
   (zq42 t r d).bind fun a=>
   if(decide (r.MaxLength<a))=true then
    some 4
   else
    some 0
def yju(t:Timetable)(d:Duty):Int×Int->Option (Lp (Int×Int) (Int))
 |(v,a)=>
  if(decide (a<(d.Pieces.length:Int)))=true then
   (idx d.Pieces a).bind fun e=>
   (zq51 t e).bind fun b=>
   some (.nx ((w64 (v+(w64 (b.To-b.From)))),(w64 (a+1))))
  else
   some (.dn v)
def yjt(r:Rules)(b:(List Int)):Int×Int->Option (Lp (Int×Int) (Int))
 |(c,a)=>
  if(decide (a<(b.length:Int)))=true then
   (idx b a).bind fun d=>
   some (.nx ((w64 (c+(if r.PaidBreak<d then r.PaidBreak else d))),(w64 (a+1))))
  else
   some (.dn c)
def zq47(t:Timetable)(f:Fleet)(r:Rules)(d:Duty):Option (Int):=
 (iter (yju t d) ((w64 (r.SignOn+r.SignOff)),(0:Int))).bind fun(a:Int)=>
 (zq31 t f d.Pieces).bind fun b=>
 (iter (yjt r b) (a,(0:Int))).bind fun(c:Int)=>
 some c
def zq45(own:List (List Int))(b:Timetable)(c:Fleet)(e:List (List Int))(d:Rules):Option (price):=
 (zq18 b c e d (⟨own⟩:Duty)).bind fun r=>
 if(r !=0)=true then
  some (⟨1073741824,0⟩:price)
 else
  (zq47 b c d (⟨own⟩:Duty)).bind fun a=>
  some (⟨1,a⟩:price)
def yjw(t:Timetable)(f:Fleet)(m:List (List Int))(r:Rules)(l:List (List Int))(v:Int)(e:List Int):Int×(List (List price))->Option (Lp (Int×(List (List price))) ((List (List price))))
 |(a,c)=>
  if(decide (a<(l.length:Int)))=true then
   ((idx l a).bind fun d=>
   (idx c v).bind fun b=>
   (idx b a).bind fun k=>
   if(v !=a)=true then
    (idx (c.set v.toNat (b.set a.toNat (⟨1073741824,0⟩:price))) v).bind fun g=>
    (zq45 ([e,d]:List (List Int)) t f m r).bind fun h=>
    (idx (b.set a.toNat (⟨1073741824,0⟩:price)) a).bind fun i=>
    some ((c.set v.toNat (b.set a.toNat (⟨1073741824,0⟩:price))).set v.toNat ((b.set a.toNat (⟨1073741824,0⟩:price)).set a.toNat h))
   else
    some (c.set v.toNat (b.set a.toNat (⟨1073741824,0⟩:price)))).bind fun(j:List (List price))=>
   some (.nx ((w64 (a+1)),j))
  else
   some (.dn c)
def yjv(t:Timetable)(f:Fleet)(k:List (List Int))(r:Rules)(j:List (List Int)):Int×(List price)×(List (List price))->Option (Lp (Int×(List price)×(List (List price))) ((List price)×(List (List price))))
 |(v,a,b)=>
  if(decide (v<(j.length:Int)))=true then
   (idx j v).bind fun e=>
   (zq45 ([e]:List (List Int)) t f k r).bind fun c=>
   (idx a v).bind fun g=>
   (chk ((0:Int)<=(j.length:Int)/\ ((j.length:Int):Int)<=4294967296)).bind fun h=>
   (idx b v).bind fun i=>
   (iter (yjw t f k r j v e) ((0:Int),(b.set v.toNat (List.replicate (j.length:Int).toNat ((⟨0,0⟩:price):price))))).bind fun(d:List (List price))=>
   some (.nx ((w64 (v+1)),(a.set v.toNat c),d))
  else
   some (.dn (a,b))
def zq46(t:Timetable)(f:Fleet)(g:List (List Int))(r:Rules)(e:List (List Int)):Option (cutter):=
 (chk ((0:Int)<=(e.length:Int)/\ ((e.length:Int):Int)<=4294967296)).bind fun c=>
 (chk ((0:Int)<=(e.length:Int)/\ ((e.length:Int):Int)<=4294967296)).bind fun d=>
 (iter (yjv t f g r e) ((0:Int),(List.replicate (e.length:Int).toNat ((⟨0,0⟩:price):price)),(List.replicate (e.length:Int).toNat (([]:List price):List price)))).bind fun((a,b):(List price)×(List (List price)))=>
 some (⟨e,a,b,([]:List ((Int×Int)×price))⟩:cutter)
def zq50(a:price)(b:price):Option (price):=
 some (⟨(w64 (a.duties_+b.duties_)),(w64 (a.paid_+b.paid_))⟩:price)
def zq0(x:Int)(b:Int):Option (Int):=
 (zq3 x).bind fun r=>
 (zq3 b).bind fun a=>
 if r=true then
  if a=true then
   some 0
  else
   some (-1)
 else
  if a=true then
   some 1
  else
   if(decide (x<b))=true then
    some (-1)
   else
    if(decide (b<x))=true then
     some 1
    else
     some 0
def ybd(a:List Int):Int->Option (Lp (Int) (Fl (Int) (Unit)))
 |v=>
  if(decide (v<(a.length:Int)))=true then
   (idx a v).bind fun e=>
   if(e !=0)=true then
    some (.dn (.ret e))
   else
    some (.nx (w64 (v+1)))
  else
   some (.dn (.go ()))
def zq2(a:List Int):Option (Int):=
 flb (iter (ybd a) (0:Int)) fun(_:Unit)=>
 some 0
def zq20(a:price)(b:price):Option (Int):=
 (zq0 a.duties_ b.duties_).bind fun c=>
 (zq0 a.paid_ b.paid_).bind fun d=>
 (zq2 ([c,d]:List Int)).bind fun e=>
 some e
def zq26(m:cutter->Int->Int->Option (price×(List ((Int×Int)×price))))(x:cutter)(i:Int)(k:Int)(l:Int):Option (price×Bool×(List ((Int×Int)×price))):=
 (if(i==k)=true then some true else(chk ((0:Int)<=i)).bind fun u=>
 if((IntKind.i64.wrap ((BitVec.ofInt (IntKind.i64).bits (l.fdiv (2^(min (i:Int).toNat (IntKind.i64).bits)))&&&BitVec.ofInt (IntKind.i64).bits 1).toNat:Int))==1)=true then some true else(chk ((0:Int)<=k)).bind fun g=>
 if((IntKind.i64.wrap ((BitVec.ofInt (IntKind.i64).bits (l.fdiv (2^(min (k:Int).toNat (IntKind.i64).bits)))&&&BitVec.ofInt (IntKind.i64).bits 1).toNat:Int))==1)=true then some true else(idx x.pair_ i).bind fun e=>
 (idx e k).bind fun b=>
 some (decide (1073741824<=b.duties_))).bind fun(v:Bool)=>
 if v=true then
  some ((⟨0,0⟩:price),false,x.memo_)
 else
  (idx x.pair_ i).bind fun c=>
  (idx c k).bind fun d=>
  (chk ((0:Int)<=i)).bind fun h=>
  (chk ((0:Int)<=k)).bind fun j=>
  (m (⟨x.pieces_,x.single_,x.pair_,x.memo_⟩:cutter) (w64 (i+1)) (IntKind.i64.wrap ((BitVec.ofInt (IntKind.i64).bits (IntKind.i64.wrap ((BitVec.ofInt (IntKind.i64).bits l|||BitVec.ofInt (IntKind.i64).bits (w64 (1*2^(min (i:Int).toNat (IntKind.i64).bits)))).toNat:Int))|||BitVec.ofInt (IntKind.i64).bits (w64 (1*2^(min (k:Int).toNat (IntKind.i64).bits)))).toNat:Int))).bind fun a=>
  (zq50 d a.1).bind fun f=>
  some (f,true,a.2)
def yj2(x:cutter)(h:Int):Int×Int×Int->Option (Lp (Int×Int×Int) (Int×Int))
 |(a,b,c)=>
  if(decide (a<(x.single_.length:Int)))=true then
   ((idx x.single_ a).bind fun e=>
   (chk ((0:Int)<=a)).bind fun u=>
   if((IntKind.i64.wrap ((BitVec.ofInt (IntKind.i64).bits (h.fdiv (2^(min (a:Int).toNat (IntKind.i64).bits)))&&&BitVec.ofInt (IntKind.i64).bits 1).toNat:Int))==0)=true then
    (zq50 (⟨b,c⟩:price) e).bind fun d=>
    some (d.duties_,d.paid_)
   else
    some (b,c)).bind fun((f,g):Int×Int)=>
   some (.nx ((w64 (a+1)),f,g))
  else
   some (.dn (b,c))
def yj1(m:cutter->Int->Int->Option (price×(List ((Int×Int)×price))))(x:cutter)(i:Int)(l:Int):Int×(List ((Int×Int)×price))×Int×Int->Option (Lp (Int×(List ((Int×Int)×price))×Int×Int) ((List ((Int×Int)×price))×Int×Int))
 |(a,e,b,c)=>
  if(decide (a<(x.pieces_.length:Int)))=true then
   ((zq26 m (⟨x.pieces_,x.single_,x.pair_,e⟩:cutter) i a l).bind fun d=>
   (if d.2.1=true then(zq20 d.1 (⟨b,c⟩:price)).bind fun k=>
   some (decide (k<0))else some false).bind fun(f:Bool)=>
   if f=true then
    some (d.2.2,d.1.duties_,d.1.paid_)
   else
    some (d.2.2,b,c)).bind fun((g,h,j):(List ((Int×Int)×price))×Int×Int)=>
   some (.nx ((w64 (a+1)),g,h,j))
  else
   some (.dn (e,b,c))
def ydv(l:cutter->Int->Int->Option (price×(List ((Int×Int)×price))))(x:cutter)(i:Int)(k:Int):Option (price×(List ((Int×Int)×price))):=
 (some (getL ((⟨0,0⟩:price):price) (i,k) x.memo_)).bind fun e=>
 if e.2=true then
  some (e.1,x.memo_)
 else
  (if(i==(x.pieces_.length:Int))=true then
   (iter (yj2 x k) ((0:Int),(0:Int),(0:Int))).bind fun((h,j):Int×Int)=>
   some (x.memo_,h,j)
  else
   (l (⟨x.pieces_,x.single_,x.pair_,x.memo_⟩:cutter) (w64 (i+1)) k).bind fun a=>
   (iter (yj1 l x i k) ((0:Int),a.2,a.1.duties_,a.1.paid_)).bind fun((b,c,d):(List ((Int×Int)×price))×Int×Int)=>
   some (b,c,d)).bind fun((v,f,g):(List ((Int×Int)×price))×Int×Int)=>
  some ((⟨f,g⟩:price),(putL (i,k) (⟨f,g⟩:price) v))
def yew:Nat->cutter->Int->Int->Option (price×(List ((Int×Int)×price)))
 |0=>fun _ _ _=>none
 |n+1=>ydv (yew n)
def zq23(x:cutter)(i:Int)(a:Int):Option (price×(List ((Int×Int)×price))):=yew 4294967296 x i a
def zq24(a:Duty)(b:Duty):Option (Int):=
 (idx a.Pieces 0).bind fun c=>
 (idx c 0).bind fun d=>
 (idx b.Pieces 0).bind fun e=>
 (idx e 0).bind fun f=>
 (zq0 d f).bind fun g=>
 some g
def ymk(a:Int)(cmp:Duty->Duty->Option (Int)):Int×(List Duty)->Option (Lp (Int×(List Duty)) ((List Duty)))
 |(c,b)=>
  (if(decide (a<c))=true then(idx b c).bind fun e=>
  (idx b (w64 (c-1))).bind fun f=>
  (cmp e f).bind fun g=>
  some (decide (g<0))else some false).bind fun(h:Bool)=>
  if h=true then
   (idx b (w64 (c-1))).bind fun d=>
   (idx b c).bind fun i=>
   (idx b c).bind fun j=>
   (idx (b.set c.toNat d) (w64 (c-1))).bind fun k=>
   some (.nx ((w64 (c-1)),((b.set c.toNat d).set (w64 (c-1)).toNat i)))
  else
   some (.dn b)
def ymj(a:Int)(b:Int)(cmp:Duty->Duty->Option (Int)):Int×(List Duty)->Option (Lp (Int×(List Duty)) ((List Duty)))
 |(v,c)=>
  if(decide (v<b))=true then
   (iter (ymk a cmp) (v,c)).bind fun(d:List Duty)=>
   some (.nx ((w64 (v+1)),d))
  else
   some (.dn c)
def yqi(c:List Duty)(a:Int)(b:Int)(cmp:Duty->Duty->Option (Int)):Option ((List Duty)):=
 iter (ymj a b cmp) ((w64 (a+1)),c)
def yv8(c:List Duty)(a:Int)(b:Int):Option ((List Duty)):=
 yqi c a b (fun(d:Duty)(e:Duty)=>zq24 d e)
def ygb(d:List Duty)(a:Int)(b:Int)(c:Int)(cmp:Duty->Duty->Option (Int)):Unit->Option (Lp (Unit) ((List Duty)))
 |()=>
  if(decide ((w64 (b-a))<=12))=true then
   (yqi d a b cmp).bind fun r=>
   some (.dn r)
  else
   if(c==0)=true then
    none
   else
    (some ()).bind fun(_:Unit)=>
    none
def yqg(d:List Duty)(a:Int)(b:Int)(c:Int)(cmp:Duty->Duty->Option (Int)):Option ((List Duty)):=
 iter (ygb d a b c cmp) ()
def yv6(d:List Duty)(a:Int)(b:Int)(c:Int):Option ((List Duty)):=
 yqg d a b c (fun(e:Duty)(f:Duty)=>zq24 e f)
def ysm(x:List Duty)(cmp:Duty->Duty->Option (Int)):Option ((List Duty)):=
 (zq57 (⟨(IntKind.u64.wrap ((x.length:Int)))⟩:IK .u64)).bind fun r=>
 (yqg x 0 (x.length:Int) r cmp).bind fun a=>
 some a
def yqj(x:List Duty):Option ((List Duty)):=
 ysm x (fun(a:Duty)(b:Duty)=>zq24 a b)
def yjz(x:cutter)(i:Int)(v:Int)(l:List Duty)(r:price×(List ((Int×Int)×price))):Int×(List ((Int×Int)×price))->Option (Lp (Int×(List ((Int×Int)×price))) (Int×(List ((Int×Int)×price))×(List Duty)))
 |(a,c)=>
  if(decide (a<(x.pieces_.length:Int)))=true then
   (zq26 zq23 (⟨x.pieces_,x.single_,x.pair_,c⟩:cutter) v a i).bind fun b=>
   (if b.2.1=true then(zq20 b.1 r.1).bind fun f=>
   some (f==0)else some false).bind fun(g:Bool)=>
   if g=true then
    (idx x.pieces_ v).bind fun d=>
    (idx x.pieces_ a).bind fun e=>
    (chk (l.length+([(⟨([d,e]:List (List Int))⟩:Duty)]:List Duty).length<=4294967296)).bind fun h=>
    (chk ((0:Int)<=v)).bind fun j=>
    (chk ((0:Int)<=a)).bind fun k=>
    some (.dn ((IntKind.i64.wrap ((BitVec.ofInt (IntKind.i64).bits i|||BitVec.ofInt (IntKind.i64).bits (IntKind.i64.wrap ((BitVec.ofInt (IntKind.i64).bits (w64 (1*2^(min (v:Int).toNat (IntKind.i64).bits)))|||BitVec.ofInt (IntKind.i64).bits (w64 (1*2^(min (a:Int).toNat (IntKind.i64).bits)))).toNat:Int))).toNat:Int)),b.2.2,(l++([(⟨([d,e]:List (List Int))⟩:Duty)]:List Duty))))
   else
    some (.nx ((w64 (a+1)),b.2.2))
  else
   some (.dn (i,c,l))
def yf2(x:cutter):Int×Int×(List ((Int×Int)×price))×(List Duty)->Option (Lp (Int×Int×(List ((Int×Int)×price))×(List Duty)) (Int×(List ((Int×Int)×price))×(List Duty)))
 |(i,v,a,f)=>
  if(decide (v<(x.pieces_.length:Int)))=true then
   ((zq23 (⟨x.pieces_,x.single_,x.pair_,a⟩:cutter) v i).bind fun r=>
   (iter (yjz x i v f r) ((0:Int),r.2)).bind fun((b,c,h):Int×(List ((Int×Int)×price))×(List Duty))=>
   some (b,c,h)).bind fun((d,e,g):Int×(List ((Int×Int)×price))×(List Duty))=>
   some (.nx (d,(w64 (v+1)),e,g))
  else
   some (.dn (i,a,f))
def yf1(x:cutter)(c:Int):Int×(List Duty)->Option (Lp (Int×(List Duty)) ((List Duty)))
 |(a,f)=>
  if(decide (a<(x.pieces_.length:Int)))=true then
   ((idx x.pieces_ a).bind fun b=>
   (chk ((0:Int)<=a)).bind fun d=>
   if((IntKind.i64.wrap ((BitVec.ofInt (IntKind.i64).bits (c.fdiv (2^(min (a:Int).toNat (IntKind.i64).bits)))&&&BitVec.ofInt (IntKind.i64).bits 1).toNat:Int))==0)=true then
    (chk (f.length+([(⟨([b]:List (List Int))⟩:Duty)]:List Duty).length<=4294967296)).bind fun e=>
    some (f++([(⟨([b]:List (List Int))⟩:Duty)]:List Duty))
   else
    some f).bind fun(g:List Duty)=>
   some (.nx ((w64 (a+1)),g))
  else
   some (.dn f)
def zq25(x:cutter):Option ((List Duty)×(List ((Int×Int)×price))):=
 (iter (yf2 x) ((0:Int),(0:Int),x.memo_,([]:List Duty))).bind fun((a,b,d):Int×(List ((Int×Int)×price))×(List Duty))=>
 (iter (yf1 x a) ((0:Int),d)).bind fun(e:List Duty)=>
 (yqj e).bind fun c=>
 some (c,b)
def yfz(t:Timetable)(f:Fleet)(p:List (List Int))(r:Rules):Int×Int×Int×Int×(Option cutter)->Option (Lp (Int×Int×Int×Int×(Option cutter)) (Int×Int×Int×(Option cutter)))
 |(v,c,e,g,x)=>
  (x).elim
   (if(decide (c<(w64 (1*2^(min ((t.Trips.length:Int):Int).toNat (IntKind.i64).bits)))))=true then
    ((zq33 t p c).bind fun y=>
    if(!y)=true then
     some (v,e,g,none)
    else
     (zq22 t p c).bind fun z=>
     (zq46 t f p r z).bind fun h=>
     (zq23 (⟨h.pieces_,h.single_,h.pair_,h.memo_⟩:cutter) 0 0).bind fun i=>
     (zq20 i.1 (⟨e,g⟩:price)).bind fun A=>
     if(decide (A<0))=true then
      some (c,i.1.duties_,i.1.paid_,(some (⟨h.pieces_,h.single_,h.pair_,i.2⟩:cutter)))
     else
      some (v,e,g,none)).bind fun((s,u,w,B):Int×Int×Int×(Option cutter))=>
    (B).elim
     (some (.nx (s,(w64 (c+1)),u,w,none)))
     fun j=>
     some (.nx (s,(w64 (c+1)),u,w,(some (⟨j.pieces_,j.single_,j.pair_,j.memo_⟩:cutter))))
   else
    some (.dn (v,e,g,none)))
   fun b=>
   if(decide (c<(w64 (1*2^(min ((t.Trips.length:Int):Int).toNat (IntKind.i64).bits)))))=true then
    ((zq33 t p c).bind fun C=>
    if(!C)=true then
     some (v,b.pieces_,b.single_,b.pair_,e,g,b.memo_)
    else
     (zq22 t p c).bind fun k=>
     (zq46 t f p r k).bind fun a=>
     (zq23 (⟨a.pieces_,a.single_,a.pair_,a.memo_⟩:cutter) 0 0).bind fun d=>
     (zq20 d.1 (⟨e,g⟩:price)).bind fun l=>
     if(decide (l<0))=true then
      some (c,a.pieces_,a.single_,a.pair_,d.1.duties_,d.1.paid_,d.2)
     else
      some (v,b.pieces_,b.single_,b.pair_,e,g,b.memo_)).bind fun((D,E,H,m,n,o,q):Int×(List (List Int))×(List price)×(List (List price))×Int×Int×(List ((Int×Int)×price)))=>
    some (.nx (D,(w64 (c+1)),n,o,(some (⟨E,H,m,q⟩:cutter))))
   else
    some (.dn (v,e,g,(some (⟨b.pieces_,b.single_,b.pair_,b.memo_⟩:cutter))))
def zq29(t:Timetable)(f:Fleet)(h:List (List Int))(r:Rules):Option ((List Duty)×Int×Int×Bool):=
 if(decide (8<(t.Trips.length:Int)))=true then
  some (([]:List Duty),0,0,false)
 else
  (chk ((0:Int)<=(t.Trips.length:Int))).bind fun u=>
  (iter (yfz t f h r) ((0:Int),(0:Int),(1073741824:Int),(0:Int),none)).bind fun((b,e,c,g):Int×Int×Int×(Option cutter))=>
  (g).elim
   (some (([]:List Duty),0,0,false))
   fun a=>
   (zq25 (⟨a.pieces_,a.single_,a.pair_,a.memo_⟩:cutter)).bind fun d=>
   some (d.1,b,c,true)
def zq6(t:Timetable)(f:Fleet)(c:List (List Int))(r:Rules):Option ((List Duty)×Int×Int×Bool):=
 (zq16 t f c r).bind fun b=>
 if(!b)=true then
  some (([]:List Duty),0,0,false)
 else
  (zq29 t f c r).bind fun a=>
  some (a.1,a.2.1,a.2.2.1,a.2.2.2)
def yc5(t:Timetable)(id:Int):Int->Option (Lp (Int) (Fl (Int) (Unit)))
 |v=>
  if(decide (v<(t.Trips.length:Int)))=true then
   (idx t.Trips v).bind fun e=>
   if(e.Id==id)=true then
    some (.dn (.ret v))
   else
    some (.nx (w64 (v+1)))
  else
   some (.dn (.go ()))
def yb1(t:Timetable)(id:Int):Option (Int):=
 flb (iter (yc5 t id) (0:Int)) fun(_:Unit)=>
 some (-1)
def ydf(l:List Int)(n:Int):Int->Option (Lp (Int) (Fl (Bool) (Unit)))
 |v=>
  if(decide (v<(l.length:Int)))=true then
   (idx l v).bind fun e=>
   if(e==n)=true then
    some (.dn (.ret true))
   else
    some (.nx (w64 (v+1)))
  else
   some (.dn (.go ()))
def yd2(l:List Int)(n:Int):Option (Bool):=
 flb (iter (ydf l n) (0:Int)) fun(_:Unit)=>
 some false
def yap(t:Timetable)(f:Fleet)(m:List (List Int))(v:Int):Int×(List Int)->Option (Lp (Int×(List Int)) (Fl (Lp (Int×(List Int)) (Fl (Bool) ((List Int)))) ((List Int))))
 |(a,n)=>
  (idx m v).bind fun c=>
  if(decide (a<(c.length:Int)))=true then
   (idx m v).bind fun d=>
   (idx d a).bind fun e=>
   (yb1 t e).bind fun b=>
   (if(decide (b<0))=true then some true else(yd2 n b).bind fun i=>
   if i=true then some true else if(decide (0<a))=true then(idx m v).bind fun g=>
   (idx g (w64 (a-1))).bind fun h=>
   (yb1 t h).bind fun j=>
   (zq67 t f j b).bind fun k=>
   some (!k)else some false).bind fun(l:Bool)=>
   if l=true then
    some (.dn (.ret (.dn (.ret false))))
   else
    (chk (n.length+([b]:List Int).length<=4294967296)).bind fun u=>
    some (.nx ((w64 (a+1)),(n++([b]:List Int))))
  else
   some (.dn (.go n))
def yao(t:Timetable)(f:Fleet)(h:List (List Int)):Int×(List Int)->Option (Lp (Int×(List Int)) (Fl (Bool) ((List Int))))
 |(v,at_)=>
  if(decide (v<(h.length:Int)))=true then
   (idx h v).bind fun a=>
   (if((a.length:Int)==0)=true then some true else if(decide (0<v))=true then(idx h (w64 (v-1))).bind fun b=>
   (idx b 0).bind fun c=>
   (idx h v).bind fun d=>
   (idx d 0).bind fun e=>
   some (decide (e<=c))else some false).bind fun(g:Bool)=>
   if g=true then
    some (.dn (.ret false))
   else
    flb (iter (yap t f h v) ((0:Int),at_)) fun(i:List Int)=>
    some (.nx ((w64 (v+1)),i))
  else
   some (.dn (.go at_))
def zq63(t:Timetable)(f:Fleet)(a:List (List Int)):Option (Bool):=
 flb (iter (yao t f a) ((0:Int),([]:List Int))) fun(b:List Int)=>
 some ((b.length:Int)==(t.Trips.length:Int))
def zq71(t:Timetable)(f:Fleet)(b:List (List Int)):Option (Bool):=
 (zq61 t f).bind fun r=>
 (if r=true then(zq63 t f b).bind fun a=>
 some a else some false).bind fun(v:Bool)=>
 some v
def zq76(x:Int):Option (Bool):=
 (yau x 0 900).bind fun r=>
 some r
def zq80(r:Rules):Option (Bool):=
 (zq76 r.SignOn).bind fun a=>
 (if a=true then(zq76 r.SignOff).bind fun b=>
 if b=true then(zq76 r.MaxDrive).bind fun c=>
 if c=true then(zq76 r.MinBreak).bind fun d=>
 if d=true then(zq76 r.PaidBreak).bind fun e=>
 if e=true then(zq76 r.MaxLength).bind fun f=>
 some f else some false else some false else some false else some false else some false).bind fun(v:Bool)=>
 some v
def zq70(t:Timetable)(f:Fleet)(c:List (List Int))(r:Rules):Option (Bool):=
 (zq71 t f c).bind fun a=>
 (if a=true then(zq80 r).bind fun b=>
 some b else some false).bind fun(v:Bool)=>
 some v
def yfc(t:Timetable)(f:List (List Int))(cut:Int):Int->Option (Lp (Int) (Fl (Bool) (Unit)))
 |v=>
  if(decide (v<(f.length:Int)))=true then
   (idx f v).bind fun b=>
   (idx f v).bind fun c=>
   (idx b (w64 ((c.length:Int)-1))).bind fun d=>
   (yb1 t d).bind fun a=>
   (chk ((0:Int)<=(IntKind.u64.wrap (a)))).bind fun e=>
   if((IntKind.i64.wrap ((BitVec.ofInt (IntKind.i64).bits (cut.fdiv (2^(min ((IntKind.u64.wrap (a)):Int).toNat (IntKind.i64).bits)))&&&BitVec.ofInt (IntKind.i64).bits 1).toNat:Int))==1)=true then
    some (.dn (.ret false))
   else
    some (.nx (w64 (v+1)))
  else
   some (.dn (.go ()))
def zq84(t:Timetable)(a:List (List Int))(cut:Int):Option (Bool):=
 (chk ((0:Int)<=(IntKind.u64.wrap ((t.Trips.length:Int))))).bind fun u=>
 (yau cut 0 (w64 ((w64 (1*2^(min ((IntKind.u64.wrap ((t.Trips.length:Int))):Int).toNat (IntKind.i64).bits)))-1))).bind fun r=>
 if(!r)=true then
  some false
 else
  flb (iter (yfc t a cut) (0:Int)) fun(_:Unit)=>
  some true
def yfb(t:Timetable)(p:List (List Int))(cut:Int)(v:Int):Int×(List (List Int))×(List Int)->Option (Lp (Int×(List (List Int))×(List Int)) ((List (List Int))))
 |(a,b,c)=>
  (idx p v).bind fun e=>
  if(decide (a<(e.length:Int)))=true then
   ((idx p v).bind fun g=>
   (idx g a).bind fun d=>
   (chk (c.length+([d]:List Int).length<=4294967296)).bind fun u=>
   (idx p v).bind fun h=>
   (if(a==(w64 ((h.length:Int)-1)))=true then some true else(idx p v).bind fun i=>
   (idx i a).bind fun j=>
   (yb1 t j).bind fun f=>
   (chk ((0:Int)<=(IntKind.u64.wrap (f)))).bind fun n=>
   some ((IntKind.i64.wrap ((BitVec.ofInt (IntKind.i64).bits (cut.fdiv (2^(min ((IntKind.u64.wrap (f)):Int).toNat (IntKind.i64).bits)))&&&BitVec.ofInt (IntKind.i64).bits 1).toNat:Int))==1)).bind fun(k:Bool)=>
   if k=true then
    (chk (b.length+([(c++([d]:List Int))]:List (List Int)).length<=4294967296)).bind fun o=>
    some ((b++([(c++([d]:List Int))]:List (List Int))),([]:List Int))
   else
    some (b,(c++([d]:List Int)))).bind fun((l,m):(List (List Int))×(List Int))=>
   some (.nx ((w64 (a+1)),l,m))
  else
   some (.dn b)
def yjd(t:Timetable)(b:List (List Int))(cut:Int):Int×(List (List Int))->Option (Lp (Int×(List (List Int))) ((List (List Int))))
 |(v,k)=>
  if(decide (v<(b.length:Int)))=true then
   (iter (yfb t b cut v) ((0:Int),k,([]:List Int))).bind fun(a:List (List Int))=>
   some (.nx ((w64 (v+1)),a))
  else
   some (.dn k)
def zq87(t:Timetable)(b:List (List Int))(cut:Int):Option ((List (List Int))):=
 (iter (yjd t b cut) ((0:Int),([]:List (List Int)))).bind fun(a:List (List Int))=>
 some a
def yfl(d:List (List Int))(id:Int)(v:Int):Int->Option (Lp (Int) (Fl (Lp (Int) (Fl (Int×Int) (Unit))) (Unit)))
 |a=>
  (idx d v).bind fun e=>
  if(decide (a<(e.length:Int)))=true then
   (idx d v).bind fun b=>
   (idx b a).bind fun c=>
   if(c==id)=true then
    some (.dn (.ret (.dn (.ret (v,a)))))
   else
    some (.nx (w64 (a+1)))
  else
   some (.dn (.go ()))
def yfk(a:List (List Int))(id:Int):Int->Option (Lp (Int) (Fl (Int×Int) (Unit)))
 |v=>
  if(decide (v<(a.length:Int)))=true then
   flb (iter (yfl a id v) (0:Int)) fun(_:Unit)=>
   some (.nx (w64 (v+1)))
  else
   some (.dn (.go ()))
def zq68(a:List (List Int))(id:Int):Option (Int×Int):=
 flb (iter (yfk a id) (0:Int)) fun(_:Unit)=>
 some ((-1),(-1))
def yb3(a:List Int)(b:List Int):Int->Option (Lp (Int) (Fl (Bool) (Unit)))
 |v=>
  if(decide (v<(a.length:Int)))=true then
   (idx a v).bind fun c=>
   (idx b v).bind fun d=>
   if(c !=d)=true then
    some (.dn (.ret false))
   else
    some (.nx (w64 (v+1)))
  else
   some (.dn (.go ()))
def ynz(a:List Int)(b:List Int):Option (Bool):=
 if((a.length:Int)!=(b.length:Int))=true then
  some false
 else
  flb (iter (yb3 a b) (0:Int)) fun(_:Unit)=>
  some true
def zq78(f:List (List Int))(d:List Int):Option (Bool):=
 if((d.length:Int)==0)=true then
  some false
 else
  (idx d 0).bind fun e=>
  (zq68 f e).bind fun r=>
  (if(decide (r.1<0))=true then some true else(idx f r.1).bind fun b=>
  some (decide ((b.length:Int)<(w64 (r.2+(d.length:Int)))))).bind fun(v:Bool)=>
  if v=true then
   some false
  else
   (idx f r.1).bind fun a=>
   (chk ((0:Int)<=r.2/\ (r.2:Int)<=(w64 (r.2+(d.length:Int)))/\ (w64 (r.2+(d.length:Int)))<=(a.length:Int))).bind fun u=>
   (ynz ((a.take (w64 (r.2+(d.length:Int))).toNat).drop r.2.toNat) d).bind fun c=>
   some c
def yfi(d:Duty)(v:Int):Int×(List Int)->Option (Lp (Int×(List Int)) (Fl (Lp (Int×(List Int)) (Fl (Bool) (Unit))) ((List Int))))
 |(a,b)=>
  (idx d.Pieces v).bind fun e=>
  if(decide (a<(e.length:Int)))=true then
   (idx d.Pieces v).bind fun f=>
   (idx f a).bind fun g=>
   (yd2 b g).bind fun h=>
   if h=true then
    some (.dn (.ret (.dn (.ret false))))
   else
    (idx d.Pieces v).bind fun i=>
    (idx i a).bind fun c=>
    (chk (b.length+([c]:List Int).length<=4294967296)).bind fun u=>
    some (.nx ((w64 (a+1)),(b++([c]:List Int))))
  else
   some (.dn (.go b))
def yfh(b:List (List Int))(d:Duty):Int×(List Int)->Option (Lp (Int×(List Int)) (Fl (Bool) (Unit)))
 |(v,k)=>
  if(decide (v<(d.Pieces.length:Int)))=true then
   (idx d.Pieces v).bind fun e=>
   (zq78 b e).bind fun r=>
   if(!r)=true then
    some (.dn (.ret false))
   else
    flb (iter (yfi d v) ((0:Int),k)) fun(a:List Int)=>
    some (.nx ((w64 (v+1)),a))
  else
   some (.dn (.go ()))
def zq79(b:List (List Int))(d:Duty):Option (Bool):=
 flb (iter (yfh b d) ((0:Int),([]:List Int))) fun(_:Unit)=>
 (yau (d.Pieces.length:Int) 1 3).bind fun a=>
 some a
def zq73(t:Timetable)(d:List Int):Option (Int):=
 (idx d (w64 ((d.length:Int)-1))).bind fun a=>
 (yb1 t a).bind fun b=>
 (ydz t b).bind fun c=>
 some c
def zq81(t:Timetable)(d:List Int):Option (Int):=
 (idx d 0).bind fun a=>
 (yb1 t a).bind fun b=>
 (idx t.Trips b).bind fun c=>
 some c.Start
def zq74(t:Timetable)(f:Fleet)(a:List Int)(b:List Int):Option (Int):=
 (zq81 t b).bind fun c=>
 (zq73 t a).bind fun d=>
 (idx a (w64 ((a.length:Int)-1))).bind fun e=>
 (yb1 t e).bind fun g=>
 (idx b 0).bind fun h=>
 (yb1 t h).bind fun i=>
 (zq65 t f g i).bind fun j=>
 some (w64 ((w64 (c-d))-j))
def zq75(t:Timetable)(r:Rules)(d:Duty):Option (Int):=
 (idx d.Pieces (w64 ((d.Pieces.length:Int)-1))).bind fun a=>
 (zq73 t a).bind fun b=>
 (idx d.Pieces 0).bind fun c=>
 (zq81 t c).bind fun e=>
 some (w64 ((w64 ((w64 (r.SignOn+b))-e))+r.SignOff))
def yce(t:Timetable)(r:Rules)(d:Duty):Int->Option (Lp (Int) (Fl (Int) (Unit)))
 |v=>
  if(decide (v<(d.Pieces.length:Int)))=true then
   (idx d.Pieces v).bind fun a=>
   (zq73 t a).bind fun b=>
   (idx d.Pieces v).bind fun c=>
   (zq81 t c).bind fun e=>
   if(decide (r.MaxDrive<(w64 (b-e))))=true then
    some (.dn (.ret 2))
   else
    some (.nx (w64 (v+1)))
  else
   some (.dn (.go ()))
def ycd(t:Timetable)(f:Fleet)(r:Rules)(d:Duty):Int->Option (Lp (Int) (Fl (Int) (Unit)))
 |a=>
  if(decide (a<(d.Pieces.length:Int)))=true then
   (idx d.Pieces (w64 (a-1))).bind fun b=>
   (idx d.Pieces a).bind fun c=>
   (zq74 t f b c).bind fun e=>
   if(decide (e<r.MinBreak))=true then
    some (.dn (.ret 3))
   else
    some (.nx (w64 (a+1)))
  else
   some (.dn (.go ()))
def zq72(t:Timetable)(f:Fleet)(c:List (List Int))(r:Rules)(d:Duty):Option (Int):=
 (zq79 c d).bind fun b=>
 if(!b)=true then
  some 1
 else
  flb (iter (yce t r d) (0:Int)) fun(_:Unit)=>
  flb (iter (ycd t f r d) (1:Int)) fun(_:Unit)=>
  (zq75 t r d).bind fun a=>
  if(decide (r.MaxLength<a))=true then
   some 4
  else
   some 0
def yjh(t:Timetable)(f:Fleet)(r:Rules)(d:Duty):Int×Int->Option (Lp (Int×Int) (Int))
 |(v,a)=>
  if(decide (a<(d.Pieces.length:Int)))=true then
   ((idx d.Pieces a).bind fun e=>
   (zq73 t e).bind fun b=>
   (idx d.Pieces a).bind fun g=>
   (zq81 t g).bind fun c=>
   if(decide (0<a))=true then
    (idx d.Pieces (w64 (a-1))).bind fun h=>
    (idx d.Pieces a).bind fun i=>
    (zq74 t f h i).bind fun j=>
    (yia j r.PaidBreak).bind fun k=>
    some (w64 ((w64 ((w64 (v+b))-c))+k))
   else
    some (w64 ((w64 (v+b))-c))).bind fun(l:Int)=>
   some (.nx (l,(w64 (a+1))))
  else
   some (.dn v)
def zq77(t:Timetable)(f:Fleet)(r:Rules)(d:Duty):Option (Int):=
 (iter (yjh t f r d) ((w64 (r.SignOn+r.SignOff)),(0:Int))).bind fun(a:Int)=>
 some a
def zq86(t:Timetable)(f:Fleet)(c:List (List Int))(r:Rules)(d:Duty):Option (Int):=
 (zq72 t f c r d).bind fun a=>
 if(a !=0)=true then
  some (-1)
 else
  (zq77 t f r d).bind fun b=>
  some b
def yi4(x:l13Plan)(b:Int):Int×(List Int)->Option (Lp (Int×(List Int)) (l13Plan))
 |(v,a)=>
  if(decide (v<(a.length:Int)))=true then
   (idx a v).bind fun e=>
   some (.nx ((w64 (v+1)),(a.set v.toNat (-2))))
  else
   some (.dn (⟨x.pieces_,x.alone_,x.pair_,b,a⟩:l13Plan))
def zq91(x:l13Plan)(b:Int):Option (l13Plan):=
 (chk ((0:Int)<=(IntKind.u64.wrap ((x.pieces_.length:Int))))).bind fun u=>
 (chk ((0:Int)<=(w64 (1*2^(min ((IntKind.u64.wrap ((x.pieces_.length:Int))):Int).toNat (IntKind.i64).bits)))/\ ((w64 (1*2^(min ((IntKind.u64.wrap ((x.pieces_.length:Int))):Int).toNat (IntKind.i64).bits))):Int)<=4294967296)).bind fun a=>
 iter (yi4 x b) ((0:Int),(List.replicate (w64 (1*2^(min ((IntKind.u64.wrap ((x.pieces_.length:Int))):Int).toNat (IntKind.i64).bits))).toNat (0:Int)))
def yjf(t:Timetable)(f:Fleet)(j:List (List Int))(r:Rules)(b:(List (List Int)))(v:Int):Int×(List Int)->Option (Lp (Int×(List Int)) ((List Int)))
 |(a,c)=>
  if(decide (a<(b.length:Int)))=true then
   (if(v !=a)=true then
    (idx b v).bind fun e=>
    (idx b a).bind fun g=>
    (zq86 t f j r (⟨([e,g]:List (List Int))⟩:Duty)).bind fun h=>
    some h
   else
    some ((-1):Int)).bind fun(d:Int)=>
   (chk (c.length+([d]:List Int).length<=4294967296)).bind fun i=>
   some (.nx ((w64 (a+1)),(c++([d]:List Int))))
  else
   some (.dn c)
def yje(t:Timetable)(f:Fleet)(j:List (List Int))(r:Rules)(a:(List (List Int))):Int×(List Int)×(List (List Int))->Option (Lp (Int×(List Int)×(List (List Int))) ((List Int)×(List (List Int))))
 |(v,b,c)=>
  if(decide (v<(a.length:Int)))=true then
   (idx a v).bind fun g=>
   (zq86 t f j r (⟨([g]:List (List Int))⟩:Duty)).bind fun d=>
   (chk (b.length+([d]:List Int).length<=4294967296)).bind fun h=>
   (iter (yjf t f j r a v) ((0:Int),([]:List Int))).bind fun(e:List Int)=>
   (chk (c.length+([e]:List (List Int)).length<=4294967296)).bind fun i=>
   some (.nx ((w64 (v+1)),(b++([d]:List Int)),(c++([e]:List (List Int)))))
  else
   some (.dn (b,c))
def zq85(t:Timetable)(f:Fleet)(e:List (List Int))(r:Rules)(cut:Int):Option (l13Plan):=
 (zq87 t e cut).bind fun b=>
 (iter (yje t f e r b) ((0:Int),([]:List Int),([]:List (List Int)))).bind fun((c,d):(List Int)×(List (List Int)))=>
 (zq91 (⟨b,c,d,0,([]:List Int)⟩:l13Plan) 0).bind fun a=>
 some (⟨a.pieces_,a.alone_,a.pair_,a.forbid_,a.known_⟩:l13Plan)
def zq89(g:l13Plan->Int->Option (Int×(List Int)))(x:l13Plan)(done:Int)(i:Int)(k:Int):Option (Int×(List Int)):=
 (chk ((0:Int)<=(IntKind.u64.wrap (i)))).bind fun u=>
 (if((IntKind.i64.wrap ((BitVec.ofInt (IntKind.i64).bits (x.forbid_.fdiv (2^(min ((IntKind.u64.wrap (i)):Int).toNat (IntKind.i64).bits)))&&&BitVec.ofInt (IntKind.i64).bits 1).toNat:Int))==1)=true then some true else(idx x.pair_ i).bind fun e=>
 (idx e k).bind fun a=>
 some (decide (a<0))).bind fun(v:Bool)=>
 if v=true then
  some ((-1),x.known_)
 else
  (chk ((0:Int)<=(IntKind.u64.wrap (i)))).bind fun d=>
  (chk ((0:Int)<=(IntKind.u64.wrap (k)))).bind fun f=>
  (g (⟨x.pieces_,x.alone_,x.pair_,x.forbid_,x.known_⟩:l13Plan) (IntKind.i64.wrap ((BitVec.ofInt (IntKind.i64).bits (IntKind.i64.wrap ((BitVec.ofInt (IntKind.i64).bits done|||BitVec.ofInt (IntKind.i64).bits (w64 (1*2^(min ((IntKind.u64.wrap (i)):Int).toNat (IntKind.i64).bits)))).toNat:Int))|||BitVec.ofInt (IntKind.i64).bits (w64 (1*2^(min ((IntKind.u64.wrap (k)):Int).toNat (IntKind.i64).bits)))).toNat:Int))).bind fun r=>
  if(decide (r.1<0))=true then
   some ((-1),r.2)
  else
   (idx x.pair_ i).bind fun b=>
   (idx b k).bind fun c=>
   some ((w64 ((w64 (100000+c))+r.1)),r.2)
def yi7(done:Int):Int->Option (Lp (Int) (Int))
 |rest=>
  (chk ((0:Int)<=(IntKind.u64.wrap (rest)))).bind fun a=>
  if((IntKind.i64.wrap ((BitVec.ofInt (IntKind.i64).bits (done.fdiv (2^(min ((IntKind.u64.wrap (rest)):Int).toNat (IntKind.i64).bits)))&&&BitVec.ofInt (IntKind.i64).bits 1).toNat:Int))==1)=true then
   some (.nx (w64 (rest+1)))
  else
   some (.dn rest)
def yi6(n:l13Plan->Int->Option (Int×(List Int)))(x:l13Plan)(done:Int)(m:Int):Int×Int×(List Int)->Option (Lp (Int×Int×(List Int)) (Int×(List Int)))
 |(a,l,d)=>
  if(decide (l<(x.pieces_.length:Int)))=true then
   ((chk ((0:Int)<=(IntKind.u64.wrap (l)))).bind fun k=>
   if((IntKind.i64.wrap ((BitVec.ofInt (IntKind.i64).bits (done.fdiv (2^(min ((IntKind.u64.wrap (l)):Int).toNat (IntKind.i64).bits)))&&&BitVec.ofInt (IntKind.i64).bits 1).toNat:Int))==1)=true then
    some (a,d)
   else
    ((zq89 n (⟨x.pieces_,x.alone_,x.pair_,x.forbid_,d⟩:l13Plan) done m l).bind fun b=>
    (if(decide (0<=b.1))=true then if(decide (a<0))=true then some true else some (decide (b.1<a))else some false).bind fun(f:Bool)=>
    if f=true then
     some (b.1,b.2)
    else
     some (a,b.2)).bind fun((e,g):Int×(List Int))=>
    (zq89 n (⟨x.pieces_,x.alone_,x.pair_,x.forbid_,g⟩:l13Plan) done l m).bind fun c=>
    (if(decide (0<=c.1))=true then if(decide (e<0))=true then some true else some (decide (c.1<e))else some false).bind fun(h:Bool)=>
    if h=true then
     some (c.1,c.2)
    else
     some (e,c.2)).bind fun((i,j):Int×(List Int))=>
   some (.nx (i,(w64 (l+1)),j))
  else
   some (.dn (a,d))
def ydo(j:l13Plan->Int->Option (Int×(List Int)))(x:l13Plan)(done:Int):Option (Int×(List Int)):=
 (chk ((0:Int)<=(IntKind.u64.wrap ((x.pieces_.length:Int))))).bind fun u=>
 if(done==(w64 ((w64 (1*2^(min ((IntKind.u64.wrap ((x.pieces_.length:Int))):Int).toNat (IntKind.i64).bits)))-1)))=true then
  some (0,x.known_)
 else
  (idx x.known_ done).bind fun e=>
  if(e !=(-2))=true then
   (idx x.known_ done).bind fun c=>
   some (c,x.known_)
  else
   (iter (yi7 done) (0:Int)).bind fun(i:Int)=>
   ((idx x.alone_ i).bind fun d=>
   if(decide (0<=d))=true then
    (chk ((0:Int)<=(IntKind.u64.wrap (i)))).bind fun g=>
    (j (⟨x.pieces_,x.alone_,x.pair_,x.forbid_,x.known_⟩:l13Plan) (IntKind.i64.wrap ((BitVec.ofInt (IntKind.i64).bits done|||BitVec.ofInt (IntKind.i64).bits (w64 (1*2^(min ((IntKind.u64.wrap (i)):Int).toNat (IntKind.i64).bits)))).toNat:Int))).bind fun r=>
    if(decide (0<=r.1))=true then
     (idx x.alone_ i).bind fun f=>
     some ((w64 ((w64 (100000+f))+r.1)),r.2)
    else
     some (((-1):Int),r.2)
   else
    some (((-1):Int),x.known_)).bind fun((k,v):Int×(List Int))=>
   (iter (yi6 j x done i) (k,(w64 (i+1)),v)).bind fun((a,b):Int×(List Int))=>
   (idx b done).bind fun h=>
   some (a,(b.set done.toNat a))
def yer:Nat->l13Plan->Int->Option (Int×(List Int))
 |0=>fun _ _=>none
 |n+1=>ydo (yer n)
def zq90(x:l13Plan)(done:Int):Option (Int×(List Int)):=yer 4294967296 x done
def yjc(x:l13Plan):Int×(List Int)->Option (Lp (Int×(List Int)) ((List Int)))
 |(i,done)=>
  if(decide (i<(x.pieces_.length:Int)))=true then
   (idx done i).bind fun e=>
   some (.nx ((w64 (i+1)),(done.set i.toNat (x.pieces_.length:Int))))
  else
   some (.dn done)
def yjb(x:l13Plan)(p:Int)(g:Int)(k:Int)(v:List (List Int))(h:List Int)(i:List (List Int))(j:Int):Int×(List Int)×(List Int)->Option (Lp (Int×(List Int)×(List Int)) ((List Int)×(List Int)))
 |(a,o,b)=>
  (if(decide (a<(x.pieces_.length:Int)))=true then(idx o k).bind fun l=>
  some (l==(x.pieces_.length:Int))else some false).bind fun(c:Bool)=>
  if c=true then
   ((if(a==k)=true then some true else(chk ((0:Int)<=(IntKind.u64.wrap (a)))).bind fun m=>
   some ((IntKind.i64.wrap ((BitVec.ofInt (IntKind.i64).bits (p.fdiv (2^(min ((IntKind.u64.wrap (a)):Int).toNat (IntKind.i64).bits)))&&&BitVec.ofInt (IntKind.i64).bits 1).toNat:Int))==1)).bind fun(d:Bool)=>
   if d=true then
    some (o,b)
   else
    (zq89 zq90 (⟨v,h,i,j,b⟩:l13Plan) p k a).bind fun e=>
    if(e.1==g)=true then
     (idx o k).bind fun n=>
     some ((o.set k.toNat a),e.2)
    else
     some (o,e.2)).bind fun((q,f):(List Int)×(List Int))=>
   some (.nx ((w64 (a+1)),q,f))
  else
   some (.dn (o,b))
def yja(x:l13Plan):Int×Int×Int×Int×(List (List Int))×(List Int)×(List (List Int))×Int×(List Int)×(List Int)->Option (Lp (Int×Int×Int×Int×(List (List Int))×(List Int)×(List (List Int))×Int×(List Int)×(List Int)) ((List (List Int))×(List Int)×(List (List Int))×Int×(List Int)×(List Int)))
 |(p,left,g,k,v,b,a,c,B,h)=>
  if(decide (k<(x.pieces_.length:Int)))=true then
   ((chk ((0:Int)<=(IntKind.u64.wrap (k)))).bind fun u=>
   if((IntKind.i64.wrap ((BitVec.ofInt (IntKind.i64).bits (p.fdiv (2^(min ((IntKind.u64.wrap (k)):Int).toNat (IntKind.i64).bits)))&&&BitVec.ofInt (IntKind.i64).bits 1).toNat:Int))==1)=true then
    some (p,left,g,v,b,a,c,B,h)
   else
    (iter (yjb x p g k v b a c) ((0:Int),B,h)).bind fun((A,d):(List Int)×(List Int))=>
    (idx A k).bind fun i=>
    if(decide (i<(x.pieces_.length:Int)))=true then
     (idx a k).bind fun j=>
     (idx A k).bind fun l=>
     (idx j l).bind fun m=>
     (chk ((0:Int)<=(IntKind.u64.wrap (k)))).bind fun w=>
     (idx A k).bind fun e=>
     (chk ((0:Int)<=(IntKind.u64.wrap (e)))).bind fun y=>
     some ((IntKind.i64.wrap ((BitVec.ofInt (IntKind.i64).bits (IntKind.i64.wrap ((BitVec.ofInt (IntKind.i64).bits p|||BitVec.ofInt (IntKind.i64).bits (w64 (1*2^(min ((IntKind.u64.wrap (k)):Int).toNat (IntKind.i64).bits)))).toNat:Int))|||BitVec.ofInt (IntKind.i64).bits (w64 (1*2^(min ((IntKind.u64.wrap (e)):Int).toNat (IntKind.i64).bits)))).toNat:Int)),left,(w64 ((w64 (g-100000))-m)),v,b,a,c,A,d)
    else
     (chk ((0:Int)<=(IntKind.u64.wrap (k)))).bind fun z=>
     (zq91 (⟨v,b,a,c,d⟩:l13Plan) (IntKind.i64.wrap ((BitVec.ofInt (IntKind.i64).bits left|||BitVec.ofInt (IntKind.i64).bits (w64 (1*2^(min ((IntKind.u64.wrap (k)):Int).toNat (IntKind.i64).bits)))).toNat:Int))).bind fun f=>
     some (p,(IntKind.i64.wrap ((BitVec.ofInt (IntKind.i64).bits left|||BitVec.ofInt (IntKind.i64).bits (w64 (1*2^(min ((IntKind.u64.wrap (k)):Int).toNat (IntKind.i64).bits)))).toNat:Int)),g,f.pieces_,f.alone_,f.pair_,f.forbid_,A,f.known_)).bind fun((C,E,n,o,q,r,s,D,t):Int×Int×Int×(List (List Int))×(List Int)×(List (List Int))×Int×(List Int)×(List Int))=>
   some (.nx (C,E,n,(w64 (k+1)),o,q,r,s,D,t))
  else
   some (.dn (v,b,a,c,B,h))
def zq88(x:l13Plan):Option ((List Int)×l13Plan):=
 (chk ((0:Int)<=(x.pieces_.length:Int)/\ ((x.pieces_.length:Int):Int)<=4294967296)).bind fun u=>
 (zq91 x 0).bind fun r=>
 (zq90 (⟨r.pieces_,r.alone_,r.pair_,r.forbid_,r.known_⟩:l13Plan) 0).bind fun f=>
 (iter (yjc x) ((0:Int),(List.replicate (x.pieces_.length:Int).toNat (0:Int)))).bind fun(g:List Int)=>
 (iter (yja x) ((0:Int),(0:Int),f.1,(0:Int),r.pieces_,r.alone_,r.pair_,r.forbid_,g,f.2)).bind fun((a,b,c,d,h,e):(List (List Int))×(List Int)×(List (List Int))×Int×(List Int)×(List Int))=>
 some (h,(⟨a,b,c,d,e⟩:l13Plan))
def yi3(h:List Duty)(d:Duty):Int->Option (Lp (Int) (Int))
 |v=>
  (if(decide (0<v))=true then(idx h (w64 (v-1))).bind fun a=>
  (idx a.Pieces 0).bind fun b=>
  (idx b 0).bind fun c=>
  (idx d.Pieces 0).bind fun e=>
  (idx e 0).bind fun f=>
  some (decide (f<c))else some false).bind fun(g:Bool)=>
  if g=true then
   some (.nx (w64 (v-1)))
  else
   some (.dn v)
def zq92(h:List Duty)(d:Duty):Option ((List Duty)):=
 (iter (yi3 h d) (h.length:Int)).bind fun(a:Int)=>
 (chk ((0:Int)<=0/\ (0:Int)<=a/\ a<=(h.length:Int))).bind fun b=>
 (chk (([]:List Duty).length+((h.take a.toNat).drop (0:Int).toNat).length<=4294967296)).bind fun c=>
 (chk ((([]:List Duty)++((h.take a.toNat).drop (0:Int).toNat)).length+([d]:List Duty).length<=4294967296)).bind fun e=>
 (chk ((0:Int)<=a/\ a<=(h.length:Int))).bind fun f=>
 (chk (((([]:List Duty)++((h.take a.toNat).drop (0:Int).toNat))++([d]:List Duty)).length+(h.drop a.toNat).length<=4294967296)).bind fun g=>
 some (((([]:List Duty)++((h.take a.toNat).drop (0:Int).toNat))++([d]:List Duty))++(h.drop a.toNat))
def yff(t:Timetable)(f:Fleet)(g:List (List Int))(r:Rules):Int×Int×Int->Option (Lp (Int×Int×Int) (Int×Int))
 |(out,x,e)=>
  (chk ((0:Int)<=(IntKind.u64.wrap ((t.Trips.length:Int))))).bind fun u=>
  if(decide (e<(w64 (1*2^(min ((IntKind.u64.wrap ((t.Trips.length:Int))):Int).toNat (IntKind.i64).bits)))))=true then
   ((zq84 t g e).bind fun c=>
   if(!c)=true then
    some (out,x)
   else
    (zq85 t f g r e).bind fun a=>
    (zq90 (⟨a.pieces_,a.alone_,a.pair_,a.forbid_,a.known_⟩:l13Plan) 0).bind fun b=>
    (if(decide (0<=b.1))=true then if(decide (out<0))=true then some true else some (decide (b.1<x))else some false).bind fun(v:Bool)=>
    if v=true then
     some (e,b.1)
    else
     some (out,x)).bind fun((h,d):Int×Int)=>
   some (.nx (h,d,(w64 (e+1))))
  else
   some (.dn (out,x))
def yfe(a:(List Int)×l13Plan):Int×(List Duty)->Option (Lp (Int×(List Duty)) ((List Duty)))
 |(b,c)=>
  if(decide (b<(a.1.length:Int)))=true then
   ((idx a.1 b).bind fun e=>
   if(decide (e<(a.1.length:Int)))=true then
    (idx a.2.pieces_ b).bind fun j=>
    (yck j).bind fun k=>
    (idx a.1 b).bind fun l=>
    (idx a.2.pieces_ l).bind fun m=>
    (yck m).bind fun d=>
    (zq92 c (⟨([k,d]:List (List Int))⟩:Duty)).bind fun f=>
    some f
   else
    (yd2 a.1 b).bind fun g=>
    if(!g)=true then
     (idx a.2.pieces_ b).bind fun n=>
     (yck n).bind fun h=>
     (zq92 c (⟨([h]:List (List Int))⟩:Duty)).bind fun i=>
     some i
    else
     some c).bind fun(o:List Duty)=>
   some (.nx ((w64 (b+1)),o))
  else
   some (.dn c)
def zq82(t:Timetable)(f:Fleet)(g:List (List Int))(r:Rules):Option ((List Duty)×Int×Int×Bool):=
 (iter (yff t f g r) (((-1):Int),(0:Int),(0:Int))).bind fun((h,a):Int×Int)=>
 if(decide (h<0))=true then
  some (([]:List Duty),0,0,false)
 else
  (zq85 t f g r h).bind fun b=>
  (zq88 b).bind fun c=>
  (iter (yfe c) ((0:Int),([]:List Duty))).bind fun(d:List Duty)=>
  (chk ((100000:Int)≠0)).bind fun e=>
  some (d,h,(a.tmod 100000),true)
def zq60(t:Timetable)(f:Fleet)(c:List (List Int))(r:Rules):Option ((List Duty)×Int×Int×Bool):=
 (zq70 t f c r).bind fun b=>
 (if(!b)=true then some true else some (decide (8<(t.Trips.length:Int)))).bind fun(v:Bool)=>
 if v=true then
  some (([]:List Duty),0,0,false)
 else
  (zq82 t f c r).bind fun a=>
  some (a.1,a.2.1,a.2.2.1,a.2.2.2)
def ycy(a:List Int)(b:List Int):Int->Option (Lp (Int) (Fl (Bool) (Unit)))
 |v=>
  if(decide (v<(a.length:Int)))=true then
   (idx a v).bind fun c=>
   (idx b v).bind fun d=>
   if(c !=d)=true then
    some (.dn (.ret false))
   else
    some (.nx (w64 (v+1)))
  else
   some (.dn (.go ()))
def ynr(a:List Int)(b:List Int):Option (Bool):=
 if((a.length:Int)!=(b.length:Int))=true then
  some false
 else
  flb (iter (ycy a b) (0:Int)) fun(_:Unit)=>
  some true
def ycx(a:List (List Int))(b:List (List Int)):Int->Option (Lp (Int) (Fl (Bool) (Unit)))
 |v=>
  if(decide (v<(a.length:Int)))=true then
   (idx a v).bind fun c=>
   (idx b v).bind fun d=>
   (ynr c d).bind fun e=>
   if(!e)=true then
    some (.dn (.ret false))
   else
    some (.nx (w64 (v+1)))
  else
   some (.dn (.go ()))
def yj7(a:List (List Int))(b:List (List Int)):Option (Bool):=
 if((a.length:Int)!=(b.length:Int))=true then
  some false
 else
  flb (iter (ycx a b) (0:Int)) fun(_:Unit)=>
  some true
def ycz(a:List Duty)(b:List Duty):Int->Option (Lp (Int) (Fl (Bool) (Unit)))
 |v=>
  if(decide (v<(a.length:Int)))=true then
   (idx a v).bind fun c=>
   (idx b v).bind fun d=>
   (yj7 c.Pieces d.Pieces).bind fun e=>
   if(!e)=true then
    some (.dn (.ret false))
   else
    some (.nx (w64 (v+1)))
  else
   some (.dn (.go ()))
def yh4(a:List Duty)(b:List Duty):Option (Bool):=
 if((a.length:Int)!=(b.length:Int))=true then
  some false
 else
  flb (iter (ycz a b) (0:Int)) fun(_:Unit)=>
  some true
def yfy(t:Timetable)(d:List Int):Int×Int×(List Bool)->Option (Lp (Int×Int×(List Bool)) (Fl (Lp (Int×Int×(List Bool)) (Fl (Lp (Int×Int×Int×(List Bool)) (Fl (Bool) (Int))) (Int×(List Bool)))) (Int×(List Bool))))
 |(i,c,b)=>
  if(decide (c<(d.length:Int)))=true then
   (idx d c).bind fun e=>
   (zq53 t e).bind fun a=>
   (chk ((0:Int)<=a/\ (a:Int)<12)).bind fun u=>
   (idx b a).bind fun f=>
   if f=true then
    some (.dn (.ret (.dn (.ret (.dn (.ret false))))))
   else
    (chk ((0:Int)<=a/\ (a:Int)<12)).bind fun h=>
    (idx b a).bind fun g=>
    some (.nx ((w64 (i+1)),(w64 (c+1)),(b.set a.toNat true)))
  else
   some (.dn (.go (i,b)))
def ydt(t:Timetable)(e:Duty):Int×Int×(List Bool)->Option (Lp (Int×Int×(List Bool)) (Fl (Lp (Int×Int×Int×(List Bool)) (Fl (Bool) (Int))) (Int×(List Bool))))
 |(f,a,b)=>
  if(decide (a<(e.Pieces.length:Int)))=true then
   (idx e.Pieces a).bind fun c=>
   flb (iter (yfy t c) (f,(0:Int),b)) fun((g,d):Int×(List Bool))=>
   some (.nx (g,(w64 (a+1)),d))
  else
   some (.dn (.go (f,b)))
def ybi(t:Timetable)(f:Fleet)(l:List (List Int))(r:Rules)(m:List Duty):Int×Int×Int×(List Bool)->Option (Lp (Int×Int×Int×(List Bool)) (Fl (Bool) (Int)))
 |(p,v,a,c)=>
  if(decide (a<(m.length:Int)))=true then
   (idx m a).bind fun e=>
   (zq18 t f l r e).bind fun d=>
   (if(d !=0)=true then some true else(idx e.Pieces 0).bind fun g=>
   (idx g 0).bind fun h=>
   some (decide (h<=v))).bind fun(i:Bool)=>
   if i=true then
    some (.dn (.ret false))
   else
    (idx e.Pieces 0).bind fun j=>
    (idx j 0).bind fun k=>
    flb (iter (ydt t e) (p,(0:Int),c)) fun((n,b):Int×(List Bool))=>
    some (.nx (n,k,(w64 (a+1)),b))
  else
   some (.dn (.go p))
def zq32(t:Timetable)(f:Fleet)(a:List (List Int))(r:Rules)(b:List Duty):Option (Bool):=
 flb (iter (ybi t f a r b) ((0:Int),(0:Int),(0:Int),(List.replicate 12 (false:Bool)))) fun(c:Int)=>
 some (c==(t.Trips.length:Int))
def zq7(t:Timetable)(f:Fleet)(c:List (List Int))(r:Rules)(d:List Duty):Option (Bool×Bool):=
 (zq16 t f c r).bind fun a=>
 if(!a)=true then
  some (false,false)
 else
  (zq32 t f c r d).bind fun b=>
  some (b,true)
def ykl(t:Timetable)(f:Fleet)(r:Rules)(d:List Duty):Int×Int->Option (Lp (Int×Int) (Int))
 |(b,a)=>
  if(decide (a<(d.length:Int)))=true then
   (idx d a).bind fun e=>
   (zq47 t f r e).bind fun c=>
   some (.nx ((w64 (b+c)),(w64 (a+1))))
  else
   some (.dn b)
def zq13(t:Timetable)(f:Fleet)(d:List (List Int))(r:Rules)(e:List Duty):Option (Int×Bool):=
 (zq16 t f d r).bind fun a=>
 (if(!a)=true then some true else(zq32 t f d r e).bind fun b=>
 some (!b)).bind fun(v:Bool)=>
 if v=true then
  some (0,false)
 else
  (iter (ykl t f r e) ((0:Int),(0:Int))).bind fun(c:Int)=>
  some (c,true)
def yjs(t:Timetable)(e:Trip):Int×Int->Option (Lp (Int×Int) (Int))
 |(a,b)=>
  if(decide (b<(t.Trips.length:Int)))=true then
   ((idx t.Trips b).bind fun c=>
   (if(decide (c.Start<=e.Start))=true then(zq28 t c).bind fun d=>
   some (decide (e.Start<d))else some false).bind fun(f:Bool)=>
   if f=true then
    some (w64 (a+1))
   else
    some a).bind fun(g:Int)=>
   some (.nx (g,(w64 (b+1))))
  else
   some (.dn a)
def yjr(t:Timetable):Int×Int×Int->Option (Lp (Int×Int×Int) (Int×Int))
 |(f,v,a)=>
  if(decide (a<(t.Trips.length:Int)))=true then
   ((idx t.Trips a).bind fun e=>
   (iter (yjs t e) ((0:Int),(0:Int))).bind fun(b:Int)=>
   (if(decide (v<b))=true then some true else if(b==v)=true then some (decide (e.Start<f))else some false).bind fun(c:Bool)=>
   if c=true then
    some (e.Start,b)
   else
    some (f,v)).bind fun((g,d):Int×Int)=>
   some (.nx (g,d,(w64 (a+1))))
  else
   some (.dn (f,v))
def zq48(t:Timetable):Option (Int×Int):=
 (iter (yjr t) ((0:Int),(0:Int),(0:Int))).bind fun((b,a):Int×Int)=>
 some (b,a)
def zq5(t:Timetable)(f:Fleet)(c:List (List Int))(r:Rules):Option (Int×Bool):=
 (zq16 t f c r).bind fun a=>
 if(!a)=true then
  some (0,false)
 else
  (zq48 t).bind fun b=>
  some (b.2,true)
def yf4(t:Timetable)(cut:Int)(e:List Int):Int×Int×(List (List Int))->Option (Lp (Int×Int×(List (List Int))) ((List (List Int))))
 |(b,a,j)=>
  if(decide (a<(e.length:Int)))=true then
   ((idx e a).bind fun d=>
   (if(a==(w64 ((e.length:Int)-1)))=true then some true else(zq53 t d).bind fun r=>
   (chk ((0:Int)<=r)).bind fun u=>
   some ((IntKind.i64.wrap ((BitVec.ofInt (IntKind.i64).bits (cut.fdiv (2^(min (r:Int).toNat (IntKind.i64).bits)))&&&BitVec.ofInt (IntKind.i64).bits 1).toNat:Int))==1)).bind fun(f:Bool)=>
   if f=true then
    (chk ((0:Int)<=b/\ (b:Int)<=(w64 (a+1))/\ (w64 (a+1))<=(e.length:Int))).bind fun h=>
    (ycw ((e.take (w64 (a+1)).toNat).drop b.toNat)).bind fun c=>
    (chk (j.length+([c]:List (List Int)).length<=4294967296)).bind fun i=>
    some ((w64 (a+1)),(j++([c]:List (List Int))))
   else
    some (b,j)).bind fun((g,k):Int×(List (List Int)))=>
   some (.nx (g,(w64 (a+1)),k))
  else
   some (.dn j)
def yj4(t:Timetable)(a:List (List Int))(cut:Int):Int×(List (List Int))->Option (Lp (Int×(List (List Int))) ((List (List Int))))
 |(v,b)=>
  if(decide (v<(a.length:Int)))=true then
   (idx a v).bind fun e=>
   (iter (yf4 t cut e) ((0:Int),(0:Int),b)).bind fun(c:List (List Int))=>
   some (.nx ((w64 (v+1)),c))
  else
   some (.dn b)
def zq21(t:Timetable)(a:List (List Int))(cut:Int):Option ((List (List Int))):=
 (iter (yj4 t a cut) ((0:Int),([]:List (List Int)))).bind fun(b:List (List Int))=>
 some b
def zq4(t:Timetable)(f:Fleet)(c:List (List Int))(cut:Int):Option ((List (List Int))×Bool):=
 (zq8 t f c).bind fun r=>
 (if(!r)=true then some true else if(decide (8<(t.Trips.length:Int)))=true then some true else(zq33 t c cut).bind fun a=>
 some (!a)).bind fun(v:Bool)=>
 if v=true then
  some (([]:List (List Int)),false)
 else
  (zq21 t c cut).bind fun b=>
  some (b,true)
def yak(b:(List Duty)×Int×Int×Bool):Int×Int->Option (Lp (Int×Int) (Int))
 |(i,a)=>
  if(decide (a<(b.1.length:Int)))=true then
   (idx b.1 a).bind fun e=>
   some (.nx ((w64 (i+(e.Pieces.length:Int))),(w64 (a+1))))
  else
   some (.dn i)
def yay(j:List UInt8):Option (Bool):=
 (yqf j).bind fun r=>
 if r=true then
  some true
 else
  (zq59 j).bind fun a=>
  (zq6 a.1 a.2.1 a.2.2.1 a.2.2.2).bind fun b=>
  (zq60 a.1 a.2.1 a.2.2.1 a.2.2.2).bind fun c=>
  (if(!(b.2.2.2==c.2.2.2))=true then some true else if(b.2.1 !=c.2.1)=true then some true else if(b.2.2.1 !=c.2.2.1)=true then some true else(yh4 b.1 c.1).bind fun h=>
  some (!h)).bind fun(v:Bool)=>
  if v=true then
   some false
  else
   if(!b.2.2.2)=true then
    some ((b.1.length:Int)==0)
   else
    (zq7 a.1 a.2.1 a.2.2.1 a.2.2.2 b.1).bind fun d=>
    (zq13 a.1 a.2.1 a.2.2.1 a.2.2.2 b.1).bind fun e=>
    (zq5 a.1 a.2.1 a.2.2.1 a.2.2.2).bind fun f=>
    (zq4 a.1 a.2.1 a.2.2.1 b.2.1).bind fun g=>
    (iter (yak b) ((0:Int),(0:Int))).bind fun(i:Int)=>
    (if d.2=true then if d.1=true then if e.2=true then if(e.1==b.2.2.1)=true then if f.2=true then if(decide (f.1<=(b.1.length:Int)))=true then if g.2=true then some ((g.1.length:Int)==i)else some false else some false else some false else some false else some false else some false else some false).bind fun(t:Bool)=>
    some t
def yjg(m:List Duty)(v:Int)(d:Int):Int×(List Int)->Option (Lp (Int×(List Int)) (Fl (Lp (Int×(List Int)) (Fl (Lp (Int×(List Int)) (Fl (Bool) ((List Int)))) ((List Int)))) ((List Int))))
 |(b,c)=>
  (idx m v).bind fun e=>
  (idx e.Pieces d).bind fun f=>
  if(decide (b<(f.length:Int)))=true then
   (idx m v).bind fun g=>
   (idx g.Pieces d).bind fun h=>
   (idx h b).bind fun i=>
   (yd2 c i).bind fun l=>
   if l=true then
    some (.dn (.ret (.dn (.ret (.dn (.ret false))))))
   else
    (idx m v).bind fun j=>
    (idx j.Pieces d).bind fun k=>
    (idx k b).bind fun a=>
    (chk (c.length+([a]:List Int).length<=4294967296)).bind fun u=>
    some (.nx ((w64 (b+1)),(c++([a]:List Int))))
  else
   some (.dn (.go c))
def yfd(e:List Duty)(v:Int):Int×(List Int)->Option (Lp (Int×(List Int)) (Fl (Lp (Int×(List Int)) (Fl (Bool) ((List Int)))) ((List Int))))
 |(a,c)=>
  (idx e v).bind fun b=>
  if(decide (a<(b.Pieces.length:Int)))=true then
   flb (iter (yjg e v a) ((0:Int),c)) fun(d:List Int)=>
   some (.nx ((w64 (a+1)),d))
  else
   some (.dn (.go c))
def ybh(t:Timetable)(f:Fleet)(n:List (List Int))(r:Rules)(m:List Duty):Int×(List Int)->Option (Lp (Int×(List Int)) (Fl (Bool) ((List Int))))
 |(v,e)=>
  if(decide (v<(m.length:Int)))=true then
   (idx m v).bind fun g=>
   (zq72 t f n r g).bind fun h=>
   (if(h !=0)=true then some true else if(decide (0<v))=true then(idx m (w64 (v-1))).bind fun i=>
   (idx i.Pieces 0).bind fun j=>
   (idx j 0).bind fun a=>
   (idx m v).bind fun b=>
   (idx b.Pieces 0).bind fun c=>
   (idx c 0).bind fun d=>
   some (decide (d<=a))else some false).bind fun(k:Bool)=>
   if k=true then
    some (.dn (.ret false))
   else
    flb (iter (yfd m v) ((0:Int),e)) fun(l:List Int)=>
    some (.nx ((w64 (v+1)),l))
  else
   some (.dn (.go e))
def zq83(t:Timetable)(f:Fleet)(b:List (List Int))(r:Rules)(c:List Duty):Option (Bool):=
 flb (iter (ybh t f b r c) ((0:Int),([]:List Int))) fun(a:List Int)=>
 some ((a.length:Int)==(t.Trips.length:Int))
end
end Go.Proofs.YtimecodbnhcnoaaGreat
