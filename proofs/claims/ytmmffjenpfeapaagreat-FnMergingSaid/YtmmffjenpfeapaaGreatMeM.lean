/- Models of the functions that the law reaches: plain Lean; none where the function would panic or not end. Made by program (dec.py). -/
import Derived.Test.YtmmffjenpfeapaaGreatAbC0
import Derived.Test.YtmmffjenpfeapaaGreatAbIns
import Derived.Test.YtmmffjenpfeapaaGreatAbGro
import Derived.Test.YtmmffjenpfeapaaGreatAbDel
import Derived.Test.YtmmffjenpfeapaaGreatAbCmp
namespace Go.Proofs.YtmmffjenpfeapaaGreat
open Go Go.Ab
set_option maxRecDepth 100000
set_option maxHeartbeats 4000000
set_option linter.unusedVariables false
set_option linter.unusedSimpArgs false
noncomputable section
structure l1Cur where
 code_ : List UInt8
 at_ : Int
 seed_ : IK .u64
instance enc_l1Cur : Enc l1Cur := ⟨3, fun x => .agg [Enc.e x.code_, .sc (.int .i64 x.at_), .sc (.int .u64 x.seed_.v)], fun a b h => by
 simp only [D.agg.injEq, List.cons.injEq, and_true] at h
 obtain ⟨a1, a2, a3⟩ := a
 obtain ⟨b1, b2, b3⟩ := b
 obtain ⟨h1, h2, h3⟩ := h
 have q1 := Enc.inj (α := List UInt8) a1 b1 h1
 have q2 := Enc.inj (α := Int) a2 b2 h2
 have q3 := Enc.inj (α := IK .u64) a3 b3 h3
 subst q1; subst q2; subst q3; rfl⟩
structure Line where
 Name : ByteArray
 Stops : List Int
 Runs : List Int
instance enc_Line : Enc Line := ⟨3, fun x => .agg [.sc (.string x.Name), Enc.e x.Stops, Enc.e x.Runs], fun a b h => by
 simp only [D.agg.injEq, List.cons.injEq, and_true] at h
 obtain ⟨a1, a2, a3⟩ := a
 obtain ⟨b1, b2, b3⟩ := b
 obtain ⟨h1, h2, h3⟩ := h
 have q1 := Enc.inj (α := ByteArray) a1 b1 h1
 have q2 := Enc.inj (α := List Int) a2 b2 h2
 have q3 := Enc.inj (α := List Int) a3 b3 h3
 subst q1; subst q2; subst q3; rfl⟩
structure Network where
 Stops : List ByteArray
 Lines : List Line
instance enc_Network : Enc Network := ⟨2, fun x => .agg [Enc.e x.Stops, Enc.e x.Lines], fun a b h => by
 simp only [D.agg.injEq, List.cons.injEq, and_true] at h
 obtain ⟨a1, a2⟩ := a
 obtain ⟨b1, b2⟩ := b
 obtain ⟨h1, h2⟩ := h
 have q1 := Enc.inj (α := List ByteArray) a1 b1 h1
 have q2 := Enc.inj (α := List Line) a2 b2 h2
 subst q1; subst q2; rfl⟩
structure Trip where
 Id : Int
 Line : Int
 Start : Int
instance enc_Trip : Enc Trip := ⟨3, fun x => .agg [.sc (.int .i64 x.Id), .sc (.int .i64 x.Line), .sc (.int .i64 x.Start)], fun a b h => by
 simp only [D.agg.injEq, List.cons.injEq, and_true] at h
 obtain ⟨a1, a2, a3⟩ := a
 obtain ⟨b1, b2, b3⟩ := b
 obtain ⟨h1, h2, h3⟩ := h
 have q1 := Enc.inj (α := Int) a1 b1 h1
 have q2 := Enc.inj (α := Int) a2 b2 h2
 have q3 := Enc.inj (α := Int) a3 b3 h3
 subst q1; subst q2; subst q3; rfl⟩
structure Timetable where
 Network : Network
 Trips : List Trip
instance enc_Timetable : Enc Timetable := ⟨3, fun x => .agg [Enc.e x.Network.Stops, Enc.e x.Network.Lines, Enc.e x.Trips], fun a b h => by
 simp only [D.agg.injEq, List.cons.injEq, and_true] at h
 obtain ⟨⟨a1, a2⟩, a3⟩ := a
 obtain ⟨⟨b1, b2⟩, b3⟩ := b
 obtain ⟨h1, h2, h3⟩ := h
 have q1 := Enc.inj (α := List ByteArray) a1 b1 h1
 have q2 := Enc.inj (α := List Line) a2 b2 h2
 have q3 := Enc.inj (α := List Trip) a3 b3 h3
 subst q1; subst q2; subst q3; rfl⟩
structure Change where
 Kind : Int
 Trip : Trip
 To : Int
instance enc_Change : Enc Change := ⟨5, fun x => .agg [.sc (.int .i64 x.Kind), .sc (.int .i64 x.Trip.Id), .sc (.int .i64 x.Trip.Line), .sc (.int .i64 x.Trip.Start), .sc (.int .i64 x.To)], fun a b h => by
 simp only [D.agg.injEq, List.cons.injEq, and_true] at h
 obtain ⟨a1, ⟨a2, a3, a4⟩, a5⟩ := a
 obtain ⟨b1, ⟨b2, b3, b4⟩, b5⟩ := b
 obtain ⟨h1, h2, h3, h4, h5⟩ := h
 have q1 := Enc.inj (α := Int) a1 b1 h1
 have q2 := Enc.inj (α := Int) a2 b2 h2
 have q3 := Enc.inj (α := Int) a3 b3 h3
 have q4 := Enc.inj (α := Int) a4 b4 h4
 have q5 := Enc.inj (α := Int) a5 b5 h5
 subst q1; subst q2; subst q3; subst q4; subst q5; rfl⟩
structure A2_Int where
 X0 : Int
 X1 : Int
instance enc_A2_Int : Enc A2_Int := ⟨2, fun x => .agg [.sc (.int .i64 x.X0), .sc (.int .i64 x.X1)], fun a b h => by
 simp only [D.agg.injEq, List.cons.injEq, and_true] at h
 obtain ⟨a1, a2⟩ := a
 obtain ⟨b1, b2⟩ := b
 obtain ⟨h1, h2⟩ := h
 have q1 := Enc.inj (α := Int) a1 b1 h1
 have q2 := Enc.inj (α := Int) a2 b2 h2
 subst q1; subst q2; rfl⟩
instance : BxE l1Cur := ⟨fun x y h => Enc.inj x y (congrArg D.agg h)⟩
instance : BxE Line := ⟨fun x y h => Enc.inj x y (congrArg D.agg h)⟩
instance : BxE Network := ⟨fun x y h => Enc.inj x y (congrArg D.agg h)⟩
instance : BxE Trip := ⟨fun x y h => Enc.inj x y (congrArg D.agg h)⟩
instance : BxE Timetable := ⟨fun x y h => Enc.inj x y (congrArg D.agg h)⟩
instance : BxE Change := ⟨fun x y h => Enc.inj x y (congrArg D.agg h)⟩
instance : BxE A2_Int := ⟨fun x y h => Enc.inj x y (congrArg D.agg h)⟩
instance : FlatEnc Trip := ⟨fun _ => jdt rfl⟩
instance : FlatEnc Change := ⟨fun _ => jdt rfl⟩
instance : FlatEnc A2_Int := ⟨fun _ => jdt rfl⟩
def ykw (code : List UInt8) : Option (Bool) :=
 some (decide (65536 < (code.length : Int)))
def zq52 (c : l1Cur) : Option (Int × l1Cur) :=
 (if (decide (c.at_ < (c.code_.length : Int))) = true then
  (idx c.code_ c.at_).bind fun a =>
  some (w64 ((a.toNat : Int)))
 else
  some (0 : Int)).bind fun (v : Int) =>
 if (decide ((w64 (c.at_ + 1)) <= (c.code_.length : Int))) = true then
  some (v, (⟨c.code_, (w64 (c.at_ + 1)), (⟨(IntKind.u64.wrap ((IntKind.u64.wrap ((IntKind.u64.wrap (c.seed_.v * 6364136223846793005)) + (IntKind.u64.wrap (v)))) + 900900))⟩ : IK .u64)⟩ : l1Cur))
 else
  (chk ((0 : Int) <= 40)).bind fun u =>
  some ((w64 ((IntKind.u64.wrap ((BitVec.ofInt (IntKind.u64).bits ((IntKind.u64.wrap ((IntKind.u64.wrap ((IntKind.u64.wrap (c.seed_.v * 6364136223846793005)) + (IntKind.u64.wrap (v)))) + 900900)).fdiv (2 ^ (min (40 : Int).toNat (IntKind.u64).bits))) &&& BitVec.ofInt (IntKind.u64).bits 255).toNat : Int)))), (⟨c.code_, (w64 (c.at_ + 1)), (⟨(IntKind.u64.wrap ((IntKind.u64.wrap ((IntKind.u64.wrap (c.seed_.v * 6364136223846793005)) + (IntKind.u64.wrap (v)))) + 900900))⟩ : IK .u64)⟩ : l1Cur))
def zq56 (c : l1Cur) (n : Int) : Option (Int × l1Cur) :=
 if (decide (n <= 1)) = true then
  some (0, c)
 else
  (zq52 c).bind fun r =>
  (if (decide (200 < n)) = true then
   (zq52 r.2).bind fun a =>
   some ((w64 ((w64 (r.1 * 256)) + a.1)), a.2.code_, a.2.at_, a.2.seed_.v)
  else
   some (r.1, r.2.code_, r.2.at_, r.2.seed_.v)).bind fun ((v, b, d, e) : Int × (List UInt8) × Int × Int) =>
  (chk ((n : Int) ≠ 0)).bind fun u =>
  some ((v.tmod n), (⟨b, d, (⟨e⟩ : IK .u64)⟩ : l1Cur))
def zq55 (c : l1Cur) (n : Int) : Option (Bool × l1Cur) :=
 (zq56 c n).bind fun r =>
 some ((r.1 == 0), r.2)
def ybw (rec_ : Int -> Option (ByteArray)) (n : Int) : Option (ByteArray) :=
 if (decide (n < 0)) = true then
  (rec_ (w64 (0 - n))).bind fun r =>
  (chk ((str [45]).size + r.size <= 4294967296)).bind fun u =>
  some ((str [45]) ++ r)
 else
  if (decide (n < 10)) = true then
   (chk ((0 : Int) <= n /\ (n : Int) <= (w64 (n + 1)) /\ (w64 (n + 1)) <= ((str [48, 49, 50, 51, 52, 53, 54, 55, 56, 57]).size : Int))).bind fun d =>
   some ((str [48, 49, 50, 51, 52, 53, 54, 55, 56, 57]).extract n.toNat (w64 (n + 1)).toNat)
  else
   (chk ((10 : Int) ≠ 0)).bind fun e =>
   (rec_ (w64 (n.tdiv 10))).bind fun a =>
   (chk ((10 : Int) ≠ 0)).bind fun f =>
   (chk ((10 : Int) ≠ 0)).bind fun g =>
   (chk ((0 : Int) <= (n.tmod 10) /\ ((n.tmod 10) : Int) <= (w64 ((n.tmod 10) + 1)) /\ (w64 ((n.tmod 10) + 1)) <= ((str [48, 49, 50, 51, 52, 53, 54, 55, 56, 57]).size : Int))).bind fun b =>
   (chk (a.size + ((str [48, 49, 50, 51, 52, 53, 54, 55, 56, 57]).extract (n.tmod 10).toNat (w64 ((n.tmod 10) + 1)).toNat).size <= 4294967296)).bind fun c =>
   some (a ++ ((str [48, 49, 50, 51, 52, 53, 54, 55, 56, 57]).extract (n.tmod 10).toNat (w64 ((n.tmod 10) + 1)).toNat))
def ygx : Nat -> Int -> Option (ByteArray)
 | 0 => fun _ => none
 | n + 1 => ybw (ygx n)
def zq62 (n : Int) : Option (ByteArray) := ygx 4294967296 n
def ycs (x : Line) (stop : Int) : Int -> Option (Lp (Int) (Fl (Int) (Unit)))
 | v =>
  if (decide (v < (x.Stops.length : Int))) = true then
   (idx x.Stops v).bind fun e =>
   if (e == stop) = true then
    some (.dn (.ret v))
   else
    some (.nx (w64 (v + 1)))
  else
   some (.dn (.go ()))
def zq79 (x : Line) (stop : Int) : Option (Int) :=
 flb (iter (ycs x stop) (0 : Int)) fun (_ : Unit) =>
 some (-1)
def yc5 (name : ByteArray) (stops : Int) : Int × Int × (List UInt8) × Int × Int × (List Int) -> Option (Lp (Int × Int × (List UInt8) × Int × Int × (List Int)) ((List UInt8) × Int × Int × (List Int)))
 | (v, c, d, e, f, a) =>
  if (decide (0 < c)) = true then
   ((zq79 (⟨name, a, ([] : List Int)⟩ : Line) v).bind fun g =>
   if (decide (g < 0)) = true then
    (chk (a.length + ([v] : List Int).length <= 4294967296)).bind fun u =>
    some (a ++ ([v] : List Int))
   else
    some a).bind fun (h : List Int) =>
   (zq56 (⟨d, e, (⟨f⟩ : IK .u64)⟩ : l1Cur) 2).bind fun b =>
   (chk ((stops : Int) ≠ 0)).bind fun i =>
   some (.nx (((w64 ((w64 (v + 1)) + b.1)).tmod stops), (w64 (c - 1)), b.2.code_, b.2.at_, b.2.seed_.v, h))
  else
   some (.dn (d, e, f, a))
def yc4 (g : List Int) : Int × (List UInt8) × Int × Int × (List Int) -> Option (Lp (Int × (List UInt8) × Int × Int × (List Int)) ((List UInt8) × Int × Int × (List Int)))
 | (b, c, d, e, a) =>
  if (decide (b < (g.length : Int))) = true then
   (zq56 (⟨c, d, (⟨e⟩ : IK .u64)⟩ : l1Cur) 12).bind fun f =>
   (chk (a.length + ([(w64 (3 + f.1))] : List Int).length <= 4294967296)).bind fun h =>
   some (.nx ((w64 (b + 1)), f.2.code_, f.2.at_, f.2.seed_.v, (a ++ ([(w64 (3 + f.1))] : List Int))))
  else
   some (.dn (c, d, e, a))
def zq48 (c : l1Cur) (name : ByteArray) (stops : Int) : Option (Line × l1Cur) :=
 (zq56 c stops).bind fun r =>
 (zq56 r.2 3).bind fun d =>
 (iter (yc5 name stops) (r.1, (w64 (2 + d.1)), d.2.code_, d.2.at_, d.2.seed_.v, ([] : List Int))).bind fun ((j, k, l, a) : (List UInt8) × Int × Int × (List Int)) =>
 (if (decide ((a.length : Int) < 2)) = true then
  (idx a 0).bind fun i =>
  (chk ((stops : Int) ≠ 0)).bind fun m =>
  (chk (a.length + ([((w64 (i + 1)).tmod stops)] : List Int).length <= 4294967296)).bind fun n =>
  some (a ++ ([((w64 (i + 1)).tmod stops)] : List Int))
 else
  some a).bind fun (b : List Int) =>
 (iter (yc4 b) ((1 : Int), j, k, l, ([] : List Int))).bind fun ((e, f, g, h) : (List UInt8) × Int × Int × (List Int)) =>
 some ((⟨name, b, h⟩ : Line), (⟨e, f, (⟨g⟩ : IK .u64)⟩ : l1Cur))
def yj7 (name : ByteArray) (stops : Int) : Int × Int × (List UInt8) × Int × Int × (List Int) -> Option (Lp (Int × Int × (List UInt8) × Int × Int × (List Int)) ((List UInt8) × Int × Int × (List Int)))
 | (v, c, d, e, f, a) =>
  if (decide (0 < c)) = true then
   ((zq79 (⟨name, a, ([] : List Int)⟩ : Line) v).bind fun g =>
   if (decide (g < 0)) = true then
    (chk (a.length + ([v] : List Int).length <= 4294967296)).bind fun u =>
    some (a ++ ([v] : List Int))
   else
    some a).bind fun (h : List Int) =>
   (zq56 (⟨d, e, (⟨f⟩ : IK .u64)⟩ : l1Cur) 2).bind fun b =>
   (chk ((stops : Int) ≠ 0)).bind fun i =>
   some (.nx (((w64 ((w64 (v + 1)) + b.1)).tmod stops), (w64 (c - 1)), b.2.code_, b.2.at_, b.2.seed_.v, h))
  else
   some (.dn (d, e, f, a))
def yj6 (g : List Int) : Int × (List UInt8) × Int × Int × (List Int) -> Option (Lp (Int × (List UInt8) × Int × Int × (List Int)) ((List UInt8) × Int × Int × (List Int)))
 | (b, c, d, e, a) =>
  if (decide (b < (g.length : Int))) = true then
   (zq56 (⟨c, d, (⟨e⟩ : IK .u64)⟩ : l1Cur) 12).bind fun f =>
   (chk (a.length + ([(w64 (3 + f.1))] : List Int).length <= 4294967296)).bind fun h =>
   some (.nx ((w64 (b + 1)), f.2.code_, f.2.at_, f.2.seed_.v, (a ++ ([(w64 (3 + f.1))] : List Int))))
  else
   some (.dn (c, d, e, a))
def zq49 (c : l1Cur) (name : ByteArray) (stops : Int) : Option (Line × l1Cur) :=
 (zq56 c stops).bind fun r =>
 (zq56 r.2 3).bind fun d =>
 (iter (yj7 name stops) (r.1, (w64 (2 + d.1)), d.2.code_, d.2.at_, d.2.seed_.v, ([] : List Int))).bind fun ((j, k, l, a) : (List UInt8) × Int × Int × (List Int)) =>
 (if (decide ((a.length : Int) < 2)) = true then
  (idx a 0).bind fun i =>
  (chk ((stops : Int) ≠ 0)).bind fun m =>
  (chk (a.length + ([((w64 (i + 1)).tmod stops)] : List Int).length <= 4294967296)).bind fun n =>
  some (a ++ ([((w64 (i + 1)).tmod stops)] : List Int))
 else
  some a).bind fun (b : List Int) =>
 (iter (yj6 b) ((1 : Int), j, k, l, ([] : List Int))).bind fun ((e, f, g, h) : (List UInt8) × Int × Int × (List Int)) =>
 some ((⟨name, b, h⟩ : Line), (⟨e, f, (⟨g⟩ : IK .u64)⟩ : l1Cur))
def yc0 (list : List Int) : Int × (List Int) -> Option (Lp (Int × (List Int)) ((List Int)))
 | (v, i) =>
  if (decide (0 <= v)) = true then
   (idx list v).bind fun e =>
   (chk (i.length + ([e] : List Int).length <= 4294967296)).bind fun u =>
   some (.nx ((w64 (v - 1)), (i ++ ([e] : List Int))))
  else
   some (.dn i)
def zq70 (list : List Int) : Option ((List Int)) :=
 (iter (yc0 list) ((w64 ((list.length : Int) - 1)), ([] : List Int))).bind fun (a : List Int) =>
 some a
def yju (list : List Int) : Int × (List Int) -> Option (Lp (Int × (List Int)) ((List Int)))
 | (v, i) =>
  if (decide (0 <= v)) = true then
   (idx list v).bind fun e =>
   (chk (i.length + ([e] : List Int).length <= 4294967296)).bind fun u =>
   some (.nx ((w64 (v - 1)), (i ++ ([e] : List Int))))
  else
   some (.dn i)
def zq71 (list : List Int) : Option ((List Int)) :=
 (iter (yju list) ((w64 ((list.length : Int) - 1)), ([] : List Int))).bind fun (a : List Int) =>
 some a
def zq63 (l : List Int) : Option ((List Int)) :=
 (chk (([] : List Int).length + l.length <= 4294967296)).bind fun u =>
 some (([] : List Int) ++ l)
def zq64 (l : List Int) : Option ((List Int)) :=
 (chk (([] : List Int).length + l.length <= 4294967296)).bind fun u =>
 some (([] : List Int) ++ l)
def yct (n : Network) : Int × (List Line) -> Option (Lp (Int × (List Line)) ((List Line)))
 | (v, a) =>
  if (decide (v < (n.Lines.length : Int))) = true then
   (idx n.Lines v).bind fun b =>
   (idx n.Lines v).bind fun e =>
   (zq64 e.Stops).bind fun c =>
   (idx n.Lines v).bind fun f =>
   (zq64 f.Runs).bind fun d =>
   (chk (a.length + ([(⟨b.Name, c, d⟩ : Line)] : List Line).length <= 4294967296)).bind fun g =>
   some (.nx ((w64 (v + 1)), (a ++ ([(⟨b.Name, c, d⟩ : Line)] : List Line))))
  else
   some (.dn a)
def zq77 (n : Network) : Option (Network) :=
 (chk (([] : List ByteArray).length + n.Stops.length <= 4294967296)).bind fun u =>
 (iter (yct n) ((0 : Int), ([] : List Line))).bind fun (a : List Line) =>
 some (⟨(([] : List ByteArray) ++ n.Stops), a⟩ : Network)
def yj4 (r : Int × l1Cur) : Int × (List UInt8) × Int × Int × (List Line) -> Option (Lp (Int × (List UInt8) × Int × Int × (List Line)) ((List UInt8) × Int × Int × (List Line)))
 | (x, v, c, d, b) =>
  if (decide (0 < x)) = true then
   (zq62 x).bind fun e =>
   (chk ((str [108]).size + e.size <= 4294967296)).bind fun f =>
   (zq49 (⟨v, c, (⟨d⟩ : IK .u64)⟩ : l1Cur) ((str [108]) ++ e) (w64 (2 + r.1))).bind fun a =>
   (chk (b.length + ([a.1] : List Line).length <= 4294967296)).bind fun g =>
   some (.nx ((w64 (x - 1)), a.2.code_, a.2.at_, a.2.seed_.v, (b ++ ([a.1] : List Line))))
  else
   some (.dn (v, c, d, b))
def zq50 (c : l1Cur) : Option (Network × l1Cur) :=
 (zq56 c 5).bind fun r =>
 (chk ((0 : Int) <= 0 /\ (0 : Int) <= (w64 (2 + r.1)) /\ (w64 (2 + r.1)) <= (([(str [112, 111, 114, 116]), (str [109, 105, 108, 108]), (str [112, 97, 114, 107]), (str [104, 97, 108, 108]), (str [100, 111, 99, 107]), (str [102, 97, 105, 114])] : List ByteArray).length : Int))).bind fun u =>
 (zq56 r.2 3).bind fun f =>
 (iter (yj4 r) ((w64 (1 + f.1)), f.2.code_, f.2.at_, f.2.seed_.v, ([] : List Line))).bind fun ((k, l, m, g) : (List UInt8) × Int × Int × (List Line)) =>
 ((zq55 (⟨k, l, (⟨m⟩ : IK .u64)⟩ : l1Cur) 2).bind fun a =>
 if a.1 = true then
  (idx g 0).bind fun e =>
  (zq71 e.Stops).bind fun j =>
  (zq71 e.Runs).bind fun b =>
  (chk (g.length + ([(⟨(str [114, 49]), j, b⟩ : Line)] : List Line).length <= 4294967296)).bind fun q =>
  some (a.2.code_, a.2.at_, a.2.seed_.v, (g ++ ([(⟨(str [114, 49]), j, b⟩ : Line)] : List Line)))
 else
  some (a.2.code_, a.2.at_, a.2.seed_.v, g)).bind fun ((n, o, h, i) : (List UInt8) × Int × Int × (List Line)) =>
 (zq77 (⟨((([(str [112, 111, 114, 116]), (str [109, 105, 108, 108]), (str [112, 97, 114, 107]), (str [104, 97, 108, 108]), (str [100, 111, 99, 107]), (str [102, 97, 105, 114])] : List ByteArray).take (w64 (2 + r.1)).toNat).drop (0 : Int).toNat), i⟩ : Network)).bind fun d =>
 some ((⟨d.Stops, d.Lines⟩ : Network), (⟨n, o, (⟨h⟩ : IK .u64)⟩ : l1Cur))
def ye2 (r : Network × l1Cur) : Int × Int × (List UInt8) × Int × Int × (List Trip) -> Option (Lp (Int × Int × (List UInt8) × Int × Int × (List Trip)) ((List UInt8) × Int × Int × (List Trip)))
 | (n, v, e, f, g, c) =>
  if (decide (0 < v)) = true then
   (zq56 (⟨e, f, (⟨g⟩ : IK .u64)⟩ : l1Cur) 3).bind fun b =>
   (zq56 b.2 (r.1.Lines.length : Int)).bind fun d =>
   (zq56 d.2 24).bind fun a =>
   (chk (c.length + ([(⟨(w64 ((w64 (n + 1)) + b.1)), d.1, (w64 (360 + (w64 (5 * a.1))))⟩ : Trip)] : List Trip).length <= 4294967296)).bind fun h =>
   some (.nx ((w64 ((w64 (n + 1)) + b.1)), (w64 (v - 1)), a.2.code_, a.2.at_, a.2.seed_.v, (c ++ ([(⟨(w64 ((w64 (n + 1)) + b.1)), d.1, (w64 (360 + (w64 (5 * a.1))))⟩ : Trip)] : List Trip))))
  else
   some (.dn (e, f, g, c))
def zq58 (c : l1Cur) : Option (Timetable × l1Cur) :=
 (zq50 c).bind fun r =>
 (zq56 r.2 8).bind fun a =>
 (iter (ye2 r) ((0 : Int), a.1, a.2.code_, a.2.at_, a.2.seed_.v, ([] : List Trip))).bind fun ((b, d, e, f) : (List UInt8) × Int × Int × (List Trip)) =>
 some ((⟨(⟨r.1.Stops, r.1.Lines⟩ : Network), f⟩ : Timetable), (⟨b, d, (⟨e⟩ : IK .u64)⟩ : l1Cur))
def zq43 (c : l1Cur) (list : List Int) : Option (Int × l1Cur) :=
 (zq56 c (list.length : Int)).bind fun r =>
 (idx list r.1).bind fun e =>
 some (e, r.2)
def zq53 (c : l1Cur) (list : List ByteArray) : Option (ByteArray × l1Cur) :=
 (zq56 c (list.length : Int)).bind fun r =>
 (idx list r.1).bind fun e =>
 some (e, r.2)
def zq54 (c : l1Cur) (list : List ByteArray) : Option (ByteArray × l1Cur) :=
 (zq56 c (list.length : Int)).bind fun r =>
 (idx list r.1).bind fun e =>
 some (e, r.2)
def yjp (n : Network) : Int × (List Line) -> Option (Lp (Int × (List Line)) ((List Line)))
 | (v, a) =>
  if (decide (v < (n.Lines.length : Int))) = true then
   (idx n.Lines v).bind fun b =>
   (idx n.Lines v).bind fun e =>
   (zq63 e.Stops).bind fun c =>
   (idx n.Lines v).bind fun f =>
   (zq63 f.Runs).bind fun d =>
   (chk (a.length + ([(⟨b.Name, c, d⟩ : Line)] : List Line).length <= 4294967296)).bind fun g =>
   some (.nx ((w64 (v + 1)), (a ++ ([(⟨b.Name, c, d⟩ : Line)] : List Line))))
  else
   some (.dn a)
def zq78 (n : Network) : Option (Network) :=
 (chk (([] : List ByteArray).length + n.Stops.length <= 4294967296)).bind fun u =>
 (iter (yjp n) ((0 : Int), ([] : List Line))).bind fun (a : List Line) =>
 some (⟨(([] : List ByteArray) ++ n.Stops), a⟩ : Network)
def yc3 (r : Int × l1Cur) : Int × (List UInt8) × Int × Int × (List Line) -> Option (Lp (Int × (List UInt8) × Int × Int × (List Line)) ((List UInt8) × Int × Int × (List Line)))
 | (x, v, c, d, b) =>
  if (decide (0 < x)) = true then
   (zq62 x).bind fun e =>
   (chk ((str [108]).size + e.size <= 4294967296)).bind fun f =>
   (zq49 (⟨v, c, (⟨d⟩ : IK .u64)⟩ : l1Cur) ((str [108]) ++ e) (w64 (2 + r.1))).bind fun a =>
   (chk (b.length + ([a.1] : List Line).length <= 4294967296)).bind fun g =>
   some (.nx ((w64 (x - 1)), a.2.code_, a.2.at_, a.2.seed_.v, (b ++ ([a.1] : List Line))))
  else
   some (.dn (v, c, d, b))
def zq51 (c : l1Cur) : Option (Network × l1Cur) :=
 (zq56 c 5).bind fun r =>
 (chk ((0 : Int) <= 0 /\ (0 : Int) <= (w64 (2 + r.1)) /\ (w64 (2 + r.1)) <= (([(str [112, 111, 114, 116]), (str [109, 105, 108, 108]), (str [112, 97, 114, 107]), (str [104, 97, 108, 108]), (str [100, 111, 99, 107]), (str [102, 97, 105, 114])] : List ByteArray).length : Int))).bind fun u =>
 (zq56 r.2 3).bind fun f =>
 (iter (yc3 r) ((w64 (1 + f.1)), f.2.code_, f.2.at_, f.2.seed_.v, ([] : List Line))).bind fun ((k, l, m, g) : (List UInt8) × Int × Int × (List Line)) =>
 ((zq55 (⟨k, l, (⟨m⟩ : IK .u64)⟩ : l1Cur) 2).bind fun a =>
 if a.1 = true then
  (idx g 0).bind fun e =>
  (zq71 e.Stops).bind fun j =>
  (zq71 e.Runs).bind fun b =>
  (chk (g.length + ([(⟨(str [114, 49]), j, b⟩ : Line)] : List Line).length <= 4294967296)).bind fun q =>
  some (a.2.code_, a.2.at_, a.2.seed_.v, (g ++ ([(⟨(str [114, 49]), j, b⟩ : Line)] : List Line)))
 else
  some (a.2.code_, a.2.at_, a.2.seed_.v, g)).bind fun ((n, o, h, i) : (List UInt8) × Int × Int × (List Line)) =>
 (zq78 (⟨((([(str [112, 111, 114, 116]), (str [109, 105, 108, 108]), (str [112, 97, 114, 107]), (str [104, 97, 108, 108]), (str [100, 111, 99, 107]), (str [102, 97, 105, 114])] : List ByteArray).take (w64 (2 + r.1)).toNat).drop (0 : Int).toNat), i⟩ : Network)).bind fun d =>
 some ((⟨d.Stops, d.Lines⟩ : Network), (⟨n, o, (⟨h⟩ : IK .u64)⟩ : l1Cur))
def zq44 (c : l1Cur) (list : List Int) : Option (Int × l1Cur) :=
 (zq56 c (list.length : Int)).bind fun r =>
 (idx list r.1).bind fun e =>
 some (e, r.2)
def yc6 (r : Network × l1Cur) : Int × (List UInt8) × Int × Int × (List Line) -> Option (Lp (Int × (List UInt8) × Int × Int × (List Line)) ((List UInt8) × Int × Int × (List Line)))
 | (e, h, i, f, c) =>
  (zq56 (⟨h, i, (⟨f⟩ : IK .u64)⟩ : l1Cur) 2).bind fun b =>
  (if (decide ((c.length : Int) < (w64 (5 + b.1)))) = true then some (decide (e < 7)) else some false).bind fun (g : Bool) =>
  if g = true then
   (zq62 e).bind fun d =>
   (chk ((str [120]).size + d.size <= 4294967296)).bind fun j =>
   (zq48 b.2 ((str [120]) ++ d) (r.1.Stops.length : Int)).bind fun a =>
   (chk (c.length + ([(⟨a.1.Name, a.1.Stops, a.1.Runs⟩ : Line)] : List Line).length <= 4294967296)).bind fun k =>
   some (.nx ((w64 (e + 1)), a.2.code_, a.2.at_, a.2.seed_.v, (c ++ ([(⟨a.1.Name, a.1.Stops, a.1.Runs⟩ : Line)] : List Line))))
  else
   some (.dn (b.2.code_, b.2.at_, b.2.seed_.v, c))
def zq45 (c : l1Cur) : Option (Network × l1Cur) :=
 (zq51 c).bind fun r =>
 (zq56 r.2 (r.1.Lines.length : Int)).bind fun f =>
 (idx r.1.Lines f.1).bind fun e =>
 flb ((zq56 f.2 24).bind fun a =>
 if (a.1 == 0) = true then
  (zq54 a.2 ([(str [109, 105, 108, 108]), (str []), (str [65]), (str [97, 98, 99, 100, 101, 102, 103, 104]), (str [97, 98, 99, 100, 101, 102, 103, 104, 105])] : List ByteArray)).bind fun h =>
  (idx r.1.Stops 0).bind fun z =>
  some (.go (h.2.code_, h.2.at_, h.2.seed_.v, e.Name, (r.1.Stops.set (0 : Int).toNat h.1), r.1.Lines, e.Runs))
 else
  if (a.1 == 1) = true then
   (zq54 a.2 ([(str [114, 49]), (str [108, 49]), (str []), (str [88])] : List ByteArray)).bind fun i =>
   some (.go (i.2.code_, i.2.at_, i.2.seed_.v, i.1, r.1.Stops, r.1.Lines, e.Runs))
  else
   if (a.1 == 2) = true then
    (zq56 a.2 (e.Stops.length : Int)).bind fun j =>
    (zq56 j.2 10).bind fun g =>
    (idx e.Stops j.1).bind fun A =>
    some (.go (g.2.code_, g.2.at_, g.2.seed_.v, e.Name, r.1.Stops, (r.1.Lines.set f.1.toNat (⟨e.Name, (e.Stops.set j.1.toNat (w64 (g.1 - 1))), e.Runs⟩ : Line)), ((⟨e.Name, (e.Stops.set j.1.toNat (w64 (g.1 - 1))), e.Runs⟩ : Line).Runs)))
   else
    if (a.1 == 3) = true then
     (zq56 a.2 (e.Runs.length : Int)).bind fun d =>
     (zq44 d.2 ([0, 60, 61, (-1)] : List Int)).bind fun b =>
     (idx e.Runs d.1).bind fun B =>
     some (.go (b.2.code_, b.2.at_, b.2.seed_.v, e.Name, r.1.Stops, (r.1.Lines.set f.1.toNat (⟨e.Name, e.Stops, (e.Runs.set d.1.toNat b.1)⟩ : Line)), ((⟨e.Name, e.Stops, (e.Runs.set d.1.toNat b.1)⟩ : Line).Runs)))
    else
     if (a.1 == 4) = true then
      (chk (e.Runs.length + ([3] : List Int).length <= 4294967296)).bind fun u =>
      some (.go (a.2.code_, a.2.at_, a.2.seed_.v, e.Name, r.1.Stops, r.1.Lines, (e.Runs ++ ([3] : List Int))))
     else
      if (a.1 == 5) = true then
       some (.ret ((⟨r.1.Stops, ([] : List Line)⟩ : Network), a.2))
      else
       if (a.1 == 6) = true then
        (iter (yc6 r) ((0 : Int), a.2.code_, a.2.at_, a.2.seed_.v, r.1.Lines)).bind fun ((k, l, m, n) : (List UInt8) × Int × Int × (List Line)) =>
        some (.ret ((⟨r.1.Stops, n⟩ : Network), (⟨k, l, (⟨m⟩ : IK .u64)⟩ : l1Cur)))
       else
        some (.go (a.2.code_, a.2.at_, a.2.seed_.v, e.Name, r.1.Stops, r.1.Lines, e.Runs))) fun ((v, q, s, t, w, o, x) : (List UInt8) × Int × Int × ByteArray × (List ByteArray) × (List Line) × (List Int)) =>
 (idx o f.1).bind fun y =>
 some ((⟨w, (o.set f.1.toNat (⟨t, y.Stops, x⟩ : Line))⟩ : Network), (⟨v, q, (⟨s⟩ : IK .u64)⟩ : l1Cur))
def ye4 : Int × (List UInt8) × Int × Int × (List Trip) -> Option (Lp (Int × (List UInt8) × Int × Int × (List Trip)) ((List UInt8) × Int × Int × (List Trip)))
 | (c, g, d, e, a) =>
  (zq56 (⟨g, d, (⟨e⟩ : IK .u64)⟩ : l1Cur) 2).bind fun b =>
  (if (decide ((a.length : Int) < (w64 (12 + b.1)))) = true then some (decide (c < 14)) else some false).bind fun (f : Bool) =>
  if f = true then
   (chk (a.length + ([(⟨(w64 (100 + c)), 0, (w64 (400 + c))⟩ : Trip)] : List Trip).length <= 4294967296)).bind fun u =>
   some (.nx ((w64 (c + 1)), b.2.code_, b.2.at_, b.2.seed_.v, (a ++ ([(⟨(w64 (100 + c)), 0, (w64 (400 + c))⟩ : Trip)] : List Trip))))
  else
   some (.dn (b.2.code_, b.2.at_, b.2.seed_.v, a))
def zq46 (c : l1Cur) : Option (Timetable × l1Cur) :=
 (zq58 c).bind fun r =>
 if ((r.1.Trips.length : Int) == 0) = true then
  some ((⟨(⟨r.1.Network.Stops, r.1.Network.Lines⟩ : Network), r.1.Trips⟩ : Timetable), r.2)
 else
  (zq56 r.2 (r.1.Trips.length : Int)).bind fun d =>
  (idx r.1.Trips d.1).bind fun e =>
  flb ((zq56 d.2 24).bind fun a =>
  if (a.1 == 0) = true then
   (zq43 a.2 ([0, 999, 1000, 2] : List Int)).bind fun f =>
   some (.go (f.2.code_, f.2.at_, f.2.seed_.v, r.1.Network.Lines, f.1, e.Line, e.Start, r.1.Network.Stops))
  else
   if (a.1 == 1) = true then
    (zq56 a.2 7).bind fun g =>
    some (.go (g.2.code_, g.2.at_, g.2.seed_.v, r.1.Network.Lines, e.Id, (w64 (g.1 - 1)), e.Start, r.1.Network.Stops))
   else
    if (a.1 == 2) = true then
     (zq43 a.2 ([(-1), 0, 1799, 1798, 1800] : List Int)).bind fun h =>
     some (.go (h.2.code_, h.2.at_, h.2.seed_.v, r.1.Network.Lines, e.Id, e.Line, h.1, r.1.Network.Stops))
    else
     if (a.1 == 3) = true then
      (zq45 a.2).bind fun b =>
      some (.go (b.2.code_, b.2.at_, b.2.seed_.v, b.1.Lines, e.Id, e.Line, e.Start, b.1.Stops))
     else
      if (a.1 == 4) = true then
       (iter (ye4) ((0 : Int), a.2.code_, a.2.at_, a.2.seed_.v, r.1.Trips)).bind fun ((i, j, k, l) : (List UInt8) × Int × Int × (List Trip)) =>
       some (.ret ((⟨(⟨r.1.Network.Stops, r.1.Network.Lines⟩ : Network), l⟩ : Timetable), (⟨i, j, (⟨k⟩ : IK .u64)⟩ : l1Cur)))
      else
       some (.go (a.2.code_, a.2.at_, a.2.seed_.v, r.1.Network.Lines, e.Id, e.Line, e.Start, r.1.Network.Stops))) fun ((v, m, n, o, q, s, t, u) : (List UInt8) × Int × Int × (List Line) × Int × Int × Int × (List ByteArray)) =>
  (idx r.1.Trips d.1).bind fun w =>
  some ((⟨(⟨u, o⟩ : Network), (r.1.Trips.set d.1.toNat (⟨q, s, t⟩ : Trip))⟩ : Timetable), (⟨v, m, (⟨n⟩ : IK .u64)⟩ : l1Cur))
def zq61 (a : Int) (b : Int) : Option (Int) :=
 if (decide (b < a)) = true then
  some a
 else
  some b
def ye1 (g : Network × l1Cur) : Int × (List UInt8) × Int × Int × (List Trip) -> Option (Lp (Int × (List UInt8) × Int × Int × (List Trip)) ((List UInt8) × Int × Int × (List Trip)))
 | (i, v, e, f, a) =>
  if (decide (0 < i)) = true then
   (zq56 (⟨v, e, (⟨f⟩ : IK .u64)⟩ : l1Cur) 2).bind fun c =>
   (zq56 c.2 (g.1.Lines.length : Int)).bind fun d =>
   (zq56 d.2 16).bind fun b =>
   (chk (a.length + ([(⟨(w64 ((w64 ((a.length : Int) + 1)) + (w64 ((w64 (2 * (a.length : Int))) * c.1)))), d.1, (w64 (360 + (w64 (5 * b.1))))⟩ : Trip)] : List Trip).length <= 4294967296)).bind fun h =>
   some (.nx ((w64 (i - 1)), b.2.code_, b.2.at_, b.2.seed_.v, (a ++ ([(⟨(w64 ((w64 ((a.length : Int) + 1)) + (w64 ((w64 (2 * (a.length : Int))) * c.1)))), d.1, (w64 (360 + (w64 (5 * b.1))))⟩ : Trip)] : List Trip))))
  else
   some (.dn (v, e, f, a))
def ye0 : Int × (List Trip) -> Option (Lp (Int × (List Trip)) ((List Trip)))
 | (x, a) =>
  if (decide (x < (a.length : Int))) = true then
   (idx a x).bind fun e =>
   (idx a (w64 (x - 1))).bind fun c =>
   (zq61 e.Id (w64 (c.Id + 1))).bind fun b =>
   (idx a x).bind fun d =>
   some (.nx ((w64 (x + 1)), (a.set x.toNat (⟨b, e.Line, e.Start⟩ : Trip))))
  else
   some (.dn a)
def zq59 (c : l1Cur) : Option (Timetable × l1Cur) :=
 (zq55 c 16).bind fun r =>
 if r.1 = true then
  (zq46 r.2).bind fun a =>
  some ((⟨(⟨a.1.Network.Stops, a.1.Network.Lines⟩ : Network), a.1.Trips⟩ : Timetable), a.2)
 else
  (zq50 r.2).bind fun b =>
  (zq56 b.2 6).bind fun d =>
  (iter (ye1 b) ((w64 (3 + d.1)), d.2.code_, d.2.at_, d.2.seed_.v, ([] : List Trip))).bind fun ((e, f, g, h) : (List UInt8) × Int × Int × (List Trip)) =>
  (iter (ye0) ((1 : Int), h)).bind fun (i : List Trip) =>
  some ((⟨(⟨b.1.Stops, b.1.Lines⟩ : Network), i⟩ : Timetable), (⟨e, f, (⟨g⟩ : IK .u64)⟩ : l1Cur))
def zq57 (c : l1Cur) : Option (Int × l1Cur) :=
 (zq55 c 16).bind fun r =>
 if r.1 = true then
  (zq43 r.2 ([0, 1799, 1800, (-1), 1440, 1439] : List Int)).bind fun a =>
  some (a.1, a.2)
 else
  (zq56 r.2 240).bind fun b =>
  some ((w64 (360 + b.1)), b.2)
def ye3 (t : Timetable) : Int × (List UInt8) × Int × Int × (List Change) -> Option (Lp (Int × (List UInt8) × Int × Int × (List Change)) ((List UInt8) × Int × Int × (List Change)))
 | (i, v, b, c, x) =>
  if (decide (i < (t.Trips.length : Int))) = true then
   ((idx t.Trips i).bind fun e =>
   (zq56 (⟨v, b, (⟨c⟩ : IK .u64)⟩ : l1Cur) 6).bind fun r =>
   if (r.1 == 0) = true then
    (chk (x.length + ([(⟨2, e, 0⟩ : Change)] : List Change).length <= 4294967296)).bind fun u =>
    some (r.2.code_, r.2.at_, r.2.seed_.v, (x ++ ([(⟨2, e, 0⟩ : Change)] : List Change)))
   else
    (if (r.1 == 1) = true then
     some (r.1 == 1)
    else
     some (r.1 == 2)).bind fun (d : Bool) =>
    if d = true then
     (zq44 r.2 ([5, (-5), 10, 0, 5] : List Int)).bind fun a =>
     (chk (x.length + ([(⟨3, e, (w64 (e.Start + a.1))⟩ : Change)] : List Change).length <= 4294967296)).bind fun k =>
     some (a.2.code_, a.2.at_, a.2.seed_.v, (x ++ ([(⟨3, e, (w64 (e.Start + a.1))⟩ : Change)] : List Change)))
    else
     some (r.2.code_, r.2.at_, r.2.seed_.v, x)).bind fun ((f, g, h, j) : (List UInt8) × Int × Int × (List Change)) =>
   some (.nx ((w64 (i + 1)), f, g, h, j))
  else
   some (.dn (v, b, c, x))
def zq47 (c : l1Cur) (t : Timetable) : Option ((List Change) × l1Cur) :=
 (iter (ye3 t) ((0 : Int), c.code_, c.at_, c.seed_.v, ([] : List Change))).bind fun ((K, L, M, s) : (List UInt8) × Int × Int × (List Change)) =>
 ((zq55 (⟨K, L, (⟨M⟩ : IK .u64)⟩ : l1Cur) 2).bind fun g =>
 if g.1 = true then
  (zq56 g.2 9).bind fun u =>
  (zq56 u.2 9).bind fun h =>
  (chk (s.length + ([(⟨1, (⟨(w64 (40 + u.1)), 0, (w64 (400 + (w64 (5 * h.1))))⟩ : Trip), 0⟩ : Change)] : List Change).length <= 4294967296)).bind fun O =>
  some (h.2.code_, h.2.at_, h.2.seed_.v, (s ++ ([(⟨1, (⟨(w64 (40 + u.1)), 0, (w64 (400 + (w64 (5 * h.1))))⟩ : Trip), 0⟩ : Change)] : List Change)))
 else
  some (g.2.code_, g.2.at_, g.2.seed_.v, s)).bind fun ((i, j, k, f) : (List UInt8) × Int × Int × (List Change)) =>
 ((if (decide (0 < (f.length : Int))) = true then (zq55 (⟨i, j, (⟨k⟩ : IK .u64)⟩ : l1Cur) 8).bind fun o =>
 some (o.1, o.2.code_, o.2.at_, o.2.seed_.v) else some (false, i, j, k)).bind fun ((w, l, m, n) : Bool × (List UInt8) × Int × Int) =>
 if w = true then
  (zq56 (⟨l, m, (⟨n⟩ : IK .u64)⟩ : l1Cur) (f.length : Int)).bind fun q =>
  (idx f q.1).bind fun a =>
  ((zq56 q.2 4).bind fun b =>
  if (b.1 == 0) = true then
   (zq56 b.2 5).bind fun r =>
   some (r.2.code_, r.2.at_, r.2.seed_.v, r.1, a.Trip.Line, a.Trip.Start, a.To)
  else
   if (b.1 == 1) = true then
    some (b.2.code_, b.2.at_, b.2.seed_.v, a.Kind, a.Trip.Line, (w64 (a.Trip.Start + 1)), a.To)
   else
    if (b.1 == 2) = true then
     (zq57 b.2).bind fun d =>
     some (d.2.code_, d.2.at_, d.2.seed_.v, a.Kind, a.Trip.Line, a.Trip.Start, d.1)
    else
     (zq56 b.2 4).bind fun e =>
     some (e.2.code_, e.2.at_, e.2.seed_.v, a.Kind, (w64 (e.1 - 1)), a.Trip.Start, a.To)).bind fun ((x, y, z, A, B, C, D) : (List UInt8) × Int × Int × Int × Int × Int × Int) =>
  (idx f q.1).bind fun Q =>
  some (x, y, z, (f.set q.1.toNat (⟨A, (⟨a.Trip.Id, B, C⟩ : Trip), D⟩ : Change)))
 else
  some (l, m, n, f)).bind fun ((E, H, I, N) : (List UInt8) × Int × Int × (List Change)) =>
 some (N, (⟨E, H, (⟨I⟩ : IK .u64)⟩ : l1Cur))
def yc1 (list : List Change) (id : Int) : Int -> Option (Lp (Int) (Fl (Int) (Unit)))
 | v =>
  if (decide (v < (list.length : Int))) = true then
   (idx list v).bind fun e =>
   if (e.Trip.Id == id) = true then
    some (.dn (.ret v))
   else
    some (.nx (w64 (v + 1)))
  else
   some (.dn (.go ()))
def zq69 (list : List Change) (id : Int) : Option (Int) :=
 flb (iter (yc1 list id) (0 : Int)) fun (_ : Unit) =>
 some (-1)
def yc7 (k : (List Change) × l1Cur) (c : (List Change) × l1Cur) : Int × (List UInt8) × Int × Int × (List Change) -> Option (Lp (Int × (List UInt8) × Int × Int × (List Change)) ((List Change)))
 | (v, d, f, g, all1) =>
  if (decide (v < (c.1.length : Int))) = true then
   ((idx c.1 v).bind fun e =>
   (zq69 k.1 e.Trip.Id).bind fun l =>
   (if (decide (l < 0)) = true then some (true, d, f, g) else (zq55 (⟨d, f, (⟨g⟩ : IK .u64)⟩ : l1Cur) 5).bind fun b =>
   some (b.1, b.2.code_, b.2.at_, b.2.seed_.v)).bind fun ((m, h, i, a) : Bool × (List UInt8) × Int × Int) =>
   if m = true then
    (idx c.1 v).bind fun j =>
    (chk (all1.length + ([j] : List Change).length <= 4294967296)).bind fun u =>
    some (h, i, a, (all1 ++ ([j] : List Change)))
   else
    some (h, i, a, all1)).bind fun ((n, o, q, all2) : (List UInt8) × Int × Int × (List Change)) =>
   some (.nx ((w64 (v + 1)), n, o, q, all2))
  else
   some (.dn all1)
def zq40 (code : List UInt8) : Option (Timetable × (List Change) × (List Change)) :=
 (zq59 (⟨code, 0, (⟨0⟩ : IK .u64)⟩ : l1Cur)).bind fun r =>
 (zq47 r.2 r.1).bind fun b =>
 (zq47 b.2 r.1).bind fun c =>
 ((zq55 c.2 2).bind fun a =>
 if a.1 = true then
  (iter (yc7 b c) ((0 : Int), a.2.code_, a.2.at_, a.2.seed_.v, ([] : List Change))).bind fun (all3 : List Change) =>
  some all3
 else
  some c.1).bind fun (all : List Change) =>
 some (r.1, b.1, all)
def zq34 (n : Int) (lo : Int) (hi : Int) : Option (Bool) :=
 (if (decide (lo <= n)) = true then some (decide (n <= hi)) else some false).bind fun (v : Bool) =>
 some v
def yb1 (s : ByteArray) : Int -> Option (Lp (Int) (Fl (Bool) (Unit)))
 | a =>
  if (decide (a < (s.size : Int))) = true then
   (chk ((0 : Int) <= a /\ a < (s.size : Int))).bind fun u =>
   (if (decide (97 <= ((s.data.toList.getD a.toNat 0).toNat : Int))) = true then (chk ((0 : Int) <= a /\ a < (s.size : Int))).bind fun d =>
   some (decide (((s.data.toList.getD a.toNat 0).toNat : Int) <= 122)) else some false).bind fun (b : Bool) =>
   (if (!b) = true then if (a == 0) = true then some true else (chk ((0 : Int) <= a /\ a < (s.size : Int))).bind fun e =>
   if (decide (((s.data.toList.getD a.toNat 0).toNat : Int) < 48)) = true then some true else (chk ((0 : Int) <= a /\ a < (s.size : Int))).bind fun f =>
   some (decide (57 < ((s.data.toList.getD a.toNat 0).toNat : Int))) else some false).bind fun (c : Bool) =>
   if c = true then
    some (.dn (.ret false))
   else
    some (.nx (w64 (a + 1)))
  else
   some (.dn (.go ()))
def zq24 (s : ByteArray) : Option (Bool) :=
 (if (decide ((s.size : Int) < 1)) = true then some true else some (decide (8 < (s.size : Int)))).bind fun (v : Bool) =>
 if v = true then
  some false
 else
  flb (iter (yb1 s) (0 : Int)) fun (_ : Unit) =>
  some true
def ybm (s : List ByteArray) (v : ByteArray) : Int -> Option (Lp (Int) (Fl (Int) (Unit)))
 | a =>
  if (decide (a < (s.length : Int))) = true then
   (idx s a).bind fun e =>
   if (v.toList == e.toList) = true then
    some (.dn (.ret a))
   else
    some (.nx (w64 (a + 1)))
  else
   some (.dn (.go ()))
def yi3 (s : List ByteArray) (v : ByteArray) : Option (Int) :=
 flb (iter (ybm s v) (0 : Int)) fun (_ : Unit) =>
 some (-1)
def ydn (names : List ByteArray) : Int -> Option (Lp (Int) (Fl (Bool) (Unit)))
 | v =>
  if (decide (v < (names.length : Int))) = true then
   (idx names v).bind fun e =>
   (zq24 e).bind fun r =>
   (if (!r) = true then some true else (yi3 names e).bind fun a =>
   some (a != v)).bind fun (b : Bool) =>
   if b = true then
    some (.dn (.ret false))
   else
    some (.nx (w64 (v + 1)))
  else
   some (.dn (.go ()))
def zq11 (names : List ByteArray) : Option (Bool) :=
 flb (iter (ydn names) (0 : Int)) fun (_ : Unit) =>
 some true
def yda (n : Network) : Int × (List ByteArray) -> Option (Lp (Int × (List ByteArray)) ((List ByteArray)))
 | (v, i) =>
  if (decide (v < (n.Lines.length : Int))) = true then
   (idx n.Lines v).bind fun e =>
   (idx i v).bind fun a =>
   some (.nx ((w64 (v + 1)), (i.set v.toNat e.Name)))
  else
   some (.dn i)
def zq27 (n : Network) : Option ((List ByteArray)) :=
 (chk ((0 : Int) <= (n.Lines.length : Int) /\ ((n.Lines.length : Int) : Int) <= 4294967296)).bind fun u =>
 (iter (yda n) ((0 : Int), (List.replicate (n.Lines.length : Int).toNat (ByteArray.empty : ByteArray)))).bind fun (a : List ByteArray) =>
 some a
def zq25 (n : Network) (stop : Int) : Option (Bool) :=
 (if (decide (0 <= stop)) = true then some (decide (stop < (n.Stops.length : Int))) else some false).bind fun (v : Bool) =>
 some v
def ybn (s : List Int) (v : Int) : Int -> Option (Lp (Int) (Fl (Int) (Unit)))
 | a =>
  if (decide (a < (s.length : Int))) = true then
   (idx s a).bind fun e =>
   if (v == e) = true then
    some (.dn (.ret a))
   else
    some (.nx (w64 (a + 1)))
  else
   some (.dn (.go ()))
def yf2 (s : List Int) (v : Int) : Option (Int) :=
 flb (iter (ybn s v) (0 : Int)) fun (_ : Unit) =>
 some (-1)
def ydc (n : Network) (l : Line) : Int -> Option (Lp (Int) (Fl (Bool) (Unit)))
 | a =>
  if (decide (a < (l.Stops.length : Int))) = true then
   (idx l.Stops a).bind fun e =>
   (zq25 n e).bind fun b =>
   (if (!b) = true then some true else (yf2 l.Stops e).bind fun c =>
   some (c != a)).bind fun (d : Bool) =>
   if d = true then
    some (.dn (.ret false))
   else
    some (.nx (w64 (a + 1)))
  else
   some (.dn (.go ()))
def ydb (l : Line) : Int -> Option (Lp (Int) (Fl (Bool) (Unit)))
 | a =>
  if (decide (a < (l.Runs.length : Int))) = true then
   (idx l.Runs a).bind fun b =>
   (zq34 b 1 60).bind fun c =>
   if (!c) = true then
    some (.dn (.ret false))
   else
    some (.nx (w64 (a + 1)))
  else
   some (.dn (.go ()))
def zq26 (n : Network) (l : Line) : Option (Bool) :=
 (zq34 (l.Stops.length : Int) 2 6).bind fun r =>
 (if (!r) = true then some true else some ((l.Runs.length : Int) != (w64 ((l.Stops.length : Int) - 1)))).bind fun (v : Bool) =>
 if v = true then
  some false
 else
  flb (iter (ydc n l) (0 : Int)) fun (_ : Unit) =>
  flb (iter (ydb l) (0 : Int)) fun (_ : Unit) =>
  some true
def ygq (n : Network) : Int -> Option (Lp (Int) (Fl (Bool) (Unit)))
 | a =>
  if (decide (a < (n.Lines.length : Int))) = true then
   (idx n.Lines a).bind fun e =>
   (zq26 n e).bind fun b =>
   if (!b) = true then
    some (.dn (.ret false))
   else
    some (.nx (w64 (a + 1)))
  else
   some (.dn (.go ()))
def zq6 (n : Network) : Option (Bool) :=
 (zq34 (n.Stops.length : Int) 2 8).bind fun r =>
 (if (!r) = true then some true else (zq34 (n.Lines.length : Int) 1 5).bind fun a =>
 if (!a) = true then some true else (zq11 n.Stops).bind fun b =>
 if (!b) = true then some true else (zq27 n).bind fun c =>
 (zq11 c).bind fun d =>
 some (!d)).bind fun (v : Bool) =>
 if v = true then
  some false
 else
  flb (iter (ygq n) (0 : Int)) fun (_ : Unit) =>
  some true
def zq23 (n : Network) (line : Int) : Option (Bool) :=
 (if (decide (0 <= line)) = true then some (decide (line < (n.Lines.length : Int))) else some false).bind fun (v : Bool) =>
 some v
def zq7 (t : Int) : Option (Bool) :=
 (zq34 t 0 1799).bind fun r =>
 some r
def yc9 (list : List Int) : Int × Int -> Option (Lp (Int × Int) (Int))
 | (v, a) =>
  if (decide (a < (list.length : Int))) = true then
   (idx list a).bind fun e =>
   some (.nx ((w64 (v + e)), (w64 (a + 1))))
  else
   some (.dn v)
def zq30 (list : List Int) : Option (Int) :=
 (iter (yc9 list) ((0 : Int), (0 : Int))).bind fun (a : Int) =>
 some a
def zq22 (t : Timetable) (x : Trip) : Option (Int) :=
 (idx t.Network.Lines x.Line).bind fun a =>
 (zq30 a.Runs).bind fun b =>
 some (w64 (x.Start + b))
def yfo (t : Timetable) : Int × Int -> Option (Lp (Int × Int) (Fl (Bool) (Unit)))
 | (v, a) =>
  if (decide (a < (t.Trips.length : Int))) = true then
   (idx t.Trips a).bind fun e =>
   (if (decide (e.Id <= v)) = true then some true else if (decide (999 < e.Id)) = true then some true else (zq23 t.Network e.Line).bind fun r =>
   if (!r) = true then some true else (zq7 e.Start).bind fun b =>
   if (!b) = true then some true else (zq22 t e).bind fun c =>
   (zq7 c).bind fun d =>
   some (!d)).bind fun (f : Bool) =>
   if f = true then
    some (.dn (.ret false))
   else
    some (.nx (e.Id, (w64 (a + 1))))
  else
   some (.dn (.go ()))
def zq12 (t : Timetable) : Option (Bool) :=
 if (decide (12 < (t.Trips.length : Int))) = true then
  some false
 else
  flb (iter (yfo t) ((0 : Int), (0 : Int))) fun (_ : Unit) =>
  some true
def zq8 (t : Timetable) : Option (Bool) :=
 (zq6 t.Network).bind fun r =>
 (if r = true then (zq12 t).bind fun a =>
 some a else some false).bind fun (v : Bool) =>
 some v
def zq93 (s : List ByteArray) : Option ((List ByteArray)) :=
 (chk (([] : List ByteArray).length + s.length <= 4294967296)).bind fun u =>
 some s
def zq92 (s : List Int) : Option ((List Int)) :=
 (chk (([] : List Int).length + s.length <= 4294967296)).bind fun u =>
 some s
def zq19 (l : Line) : Option (Line) :=
 (zq92 l.Stops).bind fun a =>
 (zq92 l.Runs).bind fun b =>
 some (⟨l.Name, a, b⟩ : Line)
def ydd (n : Network) : Int × (List Line) -> Option (Lp (Int × (List Line)) ((List Line)))
 | (v, a) =>
  if (decide (v < (n.Lines.length : Int))) = true then
   (idx n.Lines v).bind fun e =>
   (zq19 e).bind fun b =>
   (idx a v).bind fun c =>
   some (.nx ((w64 (v + 1)), (a.set v.toNat b)))
  else
   some (.dn a)
def zq20 (n : Network) : Option (Network) :=
 (zq93 n.Stops).bind fun a =>
 (chk ((0 : Int) <= (n.Lines.length : Int) /\ ((n.Lines.length : Int) : Int) <= 4294967296)).bind fun c =>
 (iter (ydd n) ((0 : Int), (List.replicate (n.Lines.length : Int).toNat ((⟨ByteArray.empty, ([] : List Int), ([] : List Int)⟩ : Line) : Line)))).bind fun (b : List Line) =>
 some (⟨a, b⟩ : Network)
def zq91 (s : List Trip) : Option ((List Trip)) :=
 (chk (([] : List Trip).length + s.length <= 4294967296)).bind fun u =>
 some s
def zq21 (t : Timetable) : Option (Timetable) :=
 (zq20 t.Network).bind fun a =>
 (zq91 t.Trips).bind fun b =>
 some (⟨(⟨a.Stops, a.Lines⟩ : Network), b⟩ : Timetable)
def ybo (s : List Trip) (v : Trip) : Int -> Option (Lp (Int) (Fl (Int) (Unit)))
 | a =>
  if (decide (a < (s.length : Int))) = true then
   (idx s a).bind fun b =>
   if ((v.Id == b.Id) && ((v.Line == b.Line) && ((v.Start == b.Start) && true))) = true then
    some (.dn (.ret a))
   else
    some (.nx (w64 (a + 1)))
  else
   some (.dn (.go ()))
def yd8 (s : List Trip) (v : Trip) : Option (Int) :=
 flb (iter (ybo s v) (0 : Int)) fun (_ : Unit) =>
 some (-1)
def zq32 (x : Trip) (c1 : Int) : Option (Bool) :=
 some (x.Id == c1)
def ybp (s : List Trip) (f : Trip -> Option (Bool)) : Int -> Option (Lp (Int) (Fl (Int) (Unit)))
 | v =>
  if (decide (v < (s.length : Int))) = true then
   (idx s v).bind fun e =>
   (f e).bind fun r =>
   if r = true then
    some (.dn (.ret v))
   else
    some (.nx (w64 (v + 1)))
  else
   some (.dn (.go ()))
def ynk (s : List Trip) (f : Trip -> Option (Bool)) : Option (Int) :=
 flb (iter (ybp s f) (0 : Int)) fun (_ : Unit) =>
 some (-1)
def ynj (s : List Trip) (c1 : Int) : Option (Int) :=
 ynk s (fun (z0 : Trip) => zq32 z0 c1)
def zq31 (t : Timetable) (id : Int) : Option (Int) :=
 (ynj t.Trips id).bind fun r =>
 some r
def yrb (s : List Trip) (i : Int) (v : List Trip) : Option ((List Trip)) :=
 insM s i v
def yaw (t : Timetable) (x : Trip) : Int -> Option (Lp (Int) (Int))
 | v =>
  (if (decide (v < (t.Trips.length : Int))) = true then (idx t.Trips v).bind fun a =>
  some (decide (a.Id < x.Id)) else some false).bind fun (b : Bool) =>
  if b = true then
   some (.nx (w64 (v + 1)))
  else
   some (.dn v)
def zq33 (t : Timetable) (x : Trip) : Option (Timetable) :=
 (iter (yaw t x) (0 : Int)).bind fun (a : Int) =>
 (zq21 t).bind fun r =>
 (yrb r.Trips a ([x] : List Trip)).bind fun b =>
 some (⟨(⟨r.Network.Stops, r.Network.Lines⟩ : Network), b⟩ : Timetable)
def zq99 (s : List Trip) (i : Int) (j : Int) : Option ((List Trip)) :=
 delM s i j
def zq35 (t : Timetable) (i : Int) : Option (Timetable) :=
 (zq21 t).bind fun r =>
 (zq99 r.Trips i (w64 (i + 1))).bind fun a =>
 some (⟨(⟨r.Network.Stops, r.Network.Lines⟩ : Network), a⟩ : Timetable)
def zq15 (t : Timetable) : Option (Timetable × Bool) :=
 (zq8 t).bind fun r =>
 if (!r) = true then
  some ((⟨(⟨([] : List ByteArray), ([] : List Line)⟩ : Network), ([] : List Trip)⟩ : Timetable), false)
 else
  some (t, true)
def yau (list : List Change) : Int × Int × (List ByteArray) × (List Line) × (List Trip) -> Option (Lp (Int × Int × (List ByteArray) × (List Line) × (List Trip)) (Fl (Timetable × Bool) ((List ByteArray) × (List Line) × (List Trip))))
 | (c, v, b, d, a) =>
  if (decide (v < (list.length : Int))) = true then
   flb ((idx list v).bind fun e =>
   if (decide (e.Trip.Id <= c)) = true then
    some (.ret (.dn (.ret ((⟨(⟨([] : List ByteArray), ([] : List Line)⟩ : Network), ([] : List Trip)⟩ : Timetable), false))))
   else
    (yd8 a e.Trip).bind fun f =>
    (if (e.Kind == 1) = true then if (e.To == 0) = true then (zq31 (⟨(⟨b, d⟩ : Network), a⟩ : Timetable) e.Trip.Id).bind fun j =>
    some (decide (j < 0)) else some false else some false).bind fun (k : Bool) =>
    if k = true then
     (zq33 (⟨(⟨b, d⟩ : Network), a⟩ : Timetable) e.Trip).bind fun g =>
     some (.go (e.Trip.Id, g.Network.Stops, g.Network.Lines, g.Trips))
    else
     (if (e.Kind == 2) = true then if (e.To == 0) = true then some (decide (0 <= f)) else some false else some false).bind fun (l : Bool) =>
     if l = true then
      (zq35 (⟨(⟨b, d⟩ : Network), a⟩ : Timetable) f).bind fun h =>
      some (.go (e.Trip.Id, h.Network.Stops, h.Network.Lines, h.Trips))
     else
      (if (e.Kind == 3) = true then if (e.To != e.Trip.Start) = true then some (decide (0 <= f)) else some false else some false).bind fun (m : Bool) =>
      if m = true then
       (idx a f).bind fun i =>
       some (.go (e.Trip.Id, b, d, (a.set f.toNat (⟨i.Id, i.Line, e.To⟩ : Trip))))
      else
       some (.ret (.dn (.ret ((⟨(⟨([] : List ByteArray), ([] : List Line)⟩ : Network), ([] : List Trip)⟩ : Timetable), false))))) fun ((c1, n, o, q) : Int × (List ByteArray) × (List Line) × (List Trip)) =>
   some (.nx (c1, (w64 (v + 1)), n, o, q))
  else
   some (.dn (.go (b, d, a)))
def zq10 (t : Timetable) (list : List Change) : Option (Timetable × Bool) :=
 if (decide (24 < (list.length : Int))) = true then
  some ((⟨(⟨([] : List ByteArray), ([] : List Line)⟩ : Network), ([] : List Trip)⟩ : Timetable), false)
 else
  (zq21 t).bind fun r =>
  flb (iter (yau list) ((0 : Int), (0 : Int), r.Network.Stops, r.Network.Lines, r.Trips)) fun ((a, b, c) : (List ByteArray) × (List Line) × (List Trip)) =>
  (zq15 (⟨(⟨a, b⟩ : Network), c⟩ : Timetable)).bind fun d =>
  some (d.1, d.2)
def zq5 (t : Timetable) (list : List Change) : Option (Bool) :=
 (zq8 t).bind fun r =>
 if (!r) = true then
  some false
 else
  (zq10 t list).bind fun a =>
  some a.2
def zq18 (d : Change) (c1 : Change) : Option (Bool) :=
 (if (c1.Trip.Id == d.Trip.Id) = true then some (!((c1.Kind == d.Kind) && (((c1.Trip.Id == d.Trip.Id) && ((c1.Trip.Line == d.Trip.Line) && ((c1.Trip.Start == d.Trip.Start) && true))) && ((c1.To == d.To) && true)))) else some false).bind fun (v : Bool) =>
 some v
def ybq (s : List Change) (f : Change -> Option (Bool)) : Int -> Option (Lp (Int) (Fl (Int) (Unit)))
 | v =>
  if (decide (v < (s.length : Int))) = true then
   (idx s v).bind fun e =>
   (f e).bind fun r =>
   if r = true then
    some (.dn (.ret v))
   else
    some (.nx (w64 (v + 1)))
  else
   some (.dn (.go ()))
def ylc (s : List Change) (f : Change -> Option (Bool)) : Option (Int) :=
 flb (iter (ybq s f) (0 : Int)) fun (_ : Unit) =>
 some (-1)
def yrd (s : List Change) (c1 : Change) : Option (Int) :=
 ylc s (fun (z0 : Change) => zq18 z0 c1)
def zq97 (s : List Change) (f : Change -> Option (Bool)) : Option (Bool) :=
 (ylc s f).bind fun r =>
 some (decide (0 <= r))
def zq98 (s : List Change) (c1 : Change) : Option (Bool) :=
 zq97 s (fun (z0 : Change) => zq18 z0 c1)
def yfa (x : List Change) (y_ : List Change) : Int × (List Int) -> Option (Lp (Int × (List Int)) ((List Int)))
 | (v, c) =>
  if (decide (v < (x.length : Int))) = true then
   ((idx x v).bind fun e =>
   (zq98 y_ e).bind fun r =>
   if r = true then
    (chk (c.length + ([e.Trip.Id] : List Int).length <= 4294967296)).bind fun u =>
    some (c ++ ([e.Trip.Id] : List Int))
   else
    some c).bind fun (c1 : List Int) =>
   some (.nx ((w64 (v + 1)), c1))
  else
   some (.dn c)
def zq17 (x : List Change) (y_ : List Change) : Option ((List Int)) :=
 (iter (yfa x y_) ((0 : Int), ([] : List Int))).bind fun (c2 : List Int) =>
 some c2
def yrf (n : Int) : Option ((List Change)) :=
 jp7 n
def yaq (slices : List (List Change)) : Int × Int -> Option (Lp (Int × Int) (Int))
 | (v, a) =>
  if (decide (a < (slices.length : Int))) = true then
   (idx slices a).bind fun e =>
   if (decide ((w64 (v + (e.length : Int))) < 0)) = true then
    none
   else
    some (.nx ((w64 (v + (e.length : Int))), (w64 (a + 1))))
  else
   some (.dn v)
def yap (slices : List (List Change)) : Int × (List Change) -> Option (Lp (Int × (List Change)) ((List Change)))
 | (a, b) =>
  if (decide (a < (slices.length : Int))) = true then
   (idx slices a).bind fun c =>
   (chk (b.length + c.length <= 4294967296)).bind fun u =>
   some (.nx ((w64 (a + 1)), (b ++ c)))
  else
   some (.dn b)
def zq96 (slices : List (List Change)) : Option ((List Change)) :=
 (iter (yaq slices) ((0 : Int), (0 : Int))).bind fun (a : Int) =>
 (yrf a).bind fun r =>
 (iter (yap slices) ((0 : Int), r)).bind fun (b : List Change) =>
 some b
def zq1 (x : Int) : Option (Bool) :=
 some (x != x)
def zq0 (x : Int) (y_ : Int) : Option (Int) :=
 (zq1 x).bind fun r =>
 (zq1 y_).bind fun a =>
 if r = true then
  if a = true then
   some 0
  else
   some (-1)
 else
  if a = true then
   some 1
  else
   if (decide (x < y_)) = true then
    some (-1)
   else
    if (decide (y_ < x)) = true then
     some 1
    else
     some 0
def zq16 (a : Change) (b : Change) : Option (Int) :=
 (zq0 a.Trip.Id b.Trip.Id).bind fun r =>
 some r
def zq37 (x : IK .u64) : Option (Int) :=
 (if (decide (4294967296 <= x.v)) = true then
  (chk ((0 : Int) <= 32)).bind fun u =>
  some ((x.v.fdiv (2 ^ (min (32 : Int).toNat (IntKind.u64).bits))), (32 : Int))
 else
  some (x.v, (0 : Int))).bind fun ((a, v) : Int × Int) =>
 (if (decide (65536 <= a)) = true then
  (chk ((0 : Int) <= 16)).bind fun f =>
  some ((a.fdiv (2 ^ (min (16 : Int).toNat (IntKind.u64).bits))), (w64 (v + 16)))
 else
  some (a, v)).bind fun ((b, d) : Int × Int) =>
 (if (decide (256 <= b)) = true then
  (chk ((0 : Int) <= 8)).bind fun g =>
  some ((b.fdiv (2 ^ (min (8 : Int).toNat (IntKind.u64).bits))), (w64 (d + 8)))
 else
  some (b, d)).bind fun ((c, e) : Int × Int) =>
 (chk ((0 : Int) <= (IntKind.u8.wrap (c)) /\ (IntKind.u8.wrap (c)) < ((str [0, 1, 2, 2, 3, 3, 3, 3, 4, 4, 4, 4, 4, 4, 4, 4, 5, 5, 5, 5, 5, 5, 5, 5, 5, 5, 5, 5, 5, 5, 5, 5, 6, 6, 6, 6, 6, 6, 6, 6, 6, 6, 6, 6, 6, 6, 6, 6, 6, 6, 6, 6, 6, 6, 6, 6, 6, 6, 6, 6, 6, 6, 6, 6, 7, 7, 7, 7, 7, 7, 7, 7, 7, 7, 7, 7, 7, 7, 7, 7, 7, 7, 7, 7, 7, 7, 7, 7, 7, 7, 7, 7, 7, 7, 7, 7, 7, 7, 7, 7, 7, 7, 7, 7, 7, 7, 7, 7, 7, 7, 7, 7, 7, 7, 7, 7, 7, 7, 7, 7, 7, 7, 7, 7, 7, 7, 7, 7, 8, 8, 8, 8, 8, 8, 8, 8, 8, 8, 8, 8, 8, 8, 8, 8, 8, 8, 8, 8, 8, 8, 8, 8, 8, 8, 8, 8, 8, 8, 8, 8, 8, 8, 8, 8, 8, 8, 8, 8, 8, 8, 8, 8, 8, 8, 8, 8, 8, 8, 8, 8, 8, 8, 8, 8, 8, 8, 8, 8, 8, 8, 8, 8, 8, 8, 8, 8, 8, 8, 8, 8, 8, 8, 8, 8, 8, 8, 8, 8, 8, 8, 8, 8, 8, 8, 8, 8, 8, 8, 8, 8, 8, 8, 8, 8, 8, 8, 8, 8, 8, 8, 8, 8, 8, 8, 8, 8, 8, 8, 8, 8, 8, 8, 8, 8, 8, 8, 8, 8, 8, 8, 8, 8, 8, 8, 8, 8]).size : Int))).bind fun h =>
 some (w64 (e + (w64 ((((str [0, 1, 2, 2, 3, 3, 3, 3, 4, 4, 4, 4, 4, 4, 4, 4, 5, 5, 5, 5, 5, 5, 5, 5, 5, 5, 5, 5, 5, 5, 5, 5, 6, 6, 6, 6, 6, 6, 6, 6, 6, 6, 6, 6, 6, 6, 6, 6, 6, 6, 6, 6, 6, 6, 6, 6, 6, 6, 6, 6, 6, 6, 6, 6, 7, 7, 7, 7, 7, 7, 7, 7, 7, 7, 7, 7, 7, 7, 7, 7, 7, 7, 7, 7, 7, 7, 7, 7, 7, 7, 7, 7, 7, 7, 7, 7, 7, 7, 7, 7, 7, 7, 7, 7, 7, 7, 7, 7, 7, 7, 7, 7, 7, 7, 7, 7, 7, 7, 7, 7, 7, 7, 7, 7, 7, 7, 7, 7, 8, 8, 8, 8, 8, 8, 8, 8, 8, 8, 8, 8, 8, 8, 8, 8, 8, 8, 8, 8, 8, 8, 8, 8, 8, 8, 8, 8, 8, 8, 8, 8, 8, 8, 8, 8, 8, 8, 8, 8, 8, 8, 8, 8, 8, 8, 8, 8, 8, 8, 8, 8, 8, 8, 8, 8, 8, 8, 8, 8, 8, 8, 8, 8, 8, 8, 8, 8, 8, 8, 8, 8, 8, 8, 8, 8, 8, 8, 8, 8, 8, 8, 8, 8, 8, 8, 8, 8, 8, 8, 8, 8, 8, 8, 8, 8, 8, 8, 8, 8, 8, 8, 8, 8, 8, 8, 8, 8, 8, 8, 8, 8, 8, 8, 8, 8, 8, 8, 8, 8, 8, 8, 8, 8, 8, 8, 8, 8]).data.toList.getD (IntKind.u8.wrap (c)).toNat 0).toNat : Int)))))
def zq36 (x : IK .u64) : Option (Int) :=
 (zq37 x).bind fun r =>
 some r
def yik (a : Int) (cmp : Change -> Change -> Option (Int)) : Int × (List Change) -> Option (Lp (Int × (List Change)) ((List Change)))
 | (c, b) =>
  (if (decide (a < c)) = true then (idx b c).bind fun e =>
  (idx b (w64 (c - 1))).bind fun f =>
  (cmp e f).bind fun g =>
  some (decide (g < 0)) else some false).bind fun (h : Bool) =>
  if h = true then
   (idx b (w64 (c - 1))).bind fun d =>
   (idx b c).bind fun i =>
   (idx b c).bind fun j =>
   (idx (b.set c.toNat d) (w64 (c - 1))).bind fun k =>
   some (.nx ((w64 (c - 1)), ((b.set c.toNat d).set (w64 (c - 1)).toNat i)))
  else
   some (.dn b)
def yij (a : Int) (b : Int) (cmp : Change -> Change -> Option (Int)) : Int × (List Change) -> Option (Lp (Int × (List Change)) ((List Change)))
 | (v, c) =>
  if (decide (v < b)) = true then
   (iter (yik a cmp) (v, c)).bind fun (d : List Change) =>
   some (.nx ((w64 (v + 1)), d))
  else
   some (.dn c)
def yqw (data : List Change) (a : Int) (b : Int) (cmp : Change -> Change -> Option (Int)) : Option ((List Change)) :=
 iter (yij a b cmp) ((w64 (a + 1)), data)
def yqv (data : List Change) (a : Int) (b : Int) : Option ((List Change)) :=
 yqw data a b (fun (z0 : Change) (z1 : Change) => zq16 z0 z1)
def yhi (hi : Int) (first : Int) (cmp : Change -> Change -> Option (Int)) : Int × (List Change) -> Option (Lp (Int × (List Change)) ((List Change)))
 | (v, a) =>
  if (decide (hi <= (w64 ((w64 (2 * v)) + 1)))) = true then
   some (.dn a)
  else
   ((if (decide ((w64 ((w64 ((w64 (2 * v)) + 1)) + 1)) < hi)) = true then (idx a (w64 (first + (w64 ((w64 (2 * v)) + 1))))).bind fun e =>
   (idx a (w64 ((w64 (first + (w64 ((w64 (2 * v)) + 1)))) + 1))).bind fun f =>
   (cmp e f).bind fun g =>
   some (decide (g < 0)) else some false).bind fun (h : Bool) =>
   if h = true then
    some (w64 ((w64 ((w64 (2 * v)) + 1)) + 1))
   else
    some (w64 ((w64 (2 * v)) + 1))).bind fun (b : Int) =>
   (idx a (w64 (first + v))).bind fun i =>
   (idx a (w64 (first + b))).bind fun j =>
   (cmp i j).bind fun k =>
   if (!(decide (k < 0))) = true then
    some (.dn a)
   else
    (idx a (w64 (first + b))).bind fun c =>
    (idx a (w64 (first + v))).bind fun d =>
    (idx a (w64 (first + v))).bind fun l =>
    (idx (a.set (w64 (first + v)).toNat c) (w64 (first + b))).bind fun m =>
    some (.nx (b, ((a.set (w64 (first + v)).toNat c).set (w64 (first + b)).toNat d)))
def ykz (data : List Change) (lo : Int) (hi : Int) (first : Int) (cmp : Change -> Change -> Option (Int)) : Option ((List Change)) :=
 iter (yhi hi first cmp) (lo, data)
def ymm (data : List Change) (lo : Int) (hi : Int) (first : Int) : Option ((List Change)) :=
 ykz data lo hi first (fun (z0 : Change) (z1 : Change) => zq16 z0 z1)
def yio (a : Int) (b : Int) (cmp : Change -> Change -> Option (Int)) : Int × (List Change) -> Option (Lp (Int × (List Change)) ((List Change)))
 | (v, c) =>
  if (decide (0 <= v)) = true then
   (ykz c v (w64 (b - a)) a cmp).bind fun r =>
   some (.nx ((w64 (v - 1)), r))
  else
   some (.dn c)
def yin (a : Int) (cmp : Change -> Change -> Option (Int)) : Int × (List Change) -> Option (Lp (Int × (List Change)) ((List Change)))
 | (c, b) =>
  if (decide (0 <= c)) = true then
   (idx b (w64 (a + c))).bind fun d =>
   (idx b a).bind fun e =>
   (idx b a).bind fun g =>
   (idx (b.set a.toNat d) (w64 (a + c))).bind fun h =>
   (ykz ((b.set a.toNat d).set (w64 (a + c)).toNat e) 0 c a cmp).bind fun f =>
   some (.nx ((w64 (c - 1)), f))
  else
   some (.dn b)
def yq0 (data : List Change) (a : Int) (b : Int) (cmp : Change -> Change -> Option (Int)) : Option ((List Change)) :=
 (chk ((2 : Int) ≠ 0)).bind fun u =>
 (iter (yio a b cmp) ((w64 ((w64 ((w64 (b - a)) - 1)).tdiv 2)), data)).bind fun (c : List Change) =>
 iter (yin a cmp) ((w64 ((w64 (b - a)) - 1)), c)
def yqz (data : List Change) (a : Int) (b : Int) : Option ((List Change)) :=
 yq0 data a b (fun (z0 : Change) (z1 : Change) => zq16 z0 z1)
def yi0 (data : List Change) (a : Int) (b : Int) (swaps : Int) (cmp : Change -> Change -> Option (Int)) : Option (Int × Int × Int) :=
 (idx data b).bind fun c =>
 (idx data a).bind fun d =>
 (cmp c d).bind fun e =>
 if (decide (e < 0)) = true then
  some (b, a, (w64 (swaps + 1)))
 else
  some (a, b, swaps)
def yk3 (data : List Change) (a : Int) (b : Int) (swaps : Int) : Option (Int × Int × Int) :=
 yi0 data a b swaps (fun (z0 : Change) (z1 : Change) => zq16 z0 z1)
def yk5 (data : List Change) (a : Int) (b : Int) (c : Int) (swaps : Int) (cmp : Change -> Change -> Option (Int)) : Option (Int × Int) :=
 (yi0 data a b swaps cmp).bind fun r =>
 (yi0 data r.2.1 c r.2.2 cmp).bind fun d =>
 (yi0 data r.1 d.1 d.2.2 cmp).bind fun e =>
 some (e.2.1, e.2.2)
def ym2 (data : List Change) (a : Int) (b : Int) (c : Int) (swaps : Int) : Option (Int × Int) :=
 yk5 data a b c swaps (fun (z0 : Change) (z1 : Change) => zq16 z0 z1)
def yi2 (data : List Change) (a : Int) (swaps : Int) (cmp : Change -> Change -> Option (Int)) : Option (Int × Int) :=
 (yk5 data (w64 (a - 1)) a (w64 (a + 1)) swaps cmp).bind fun r =>
 some (r.1, r.2)
def yk8 (data : List Change) (a : Int) (swaps : Int) : Option (Int × Int) :=
 yi2 data a swaps (fun (z0 : Change) (z1 : Change) => zq16 z0 z1)
def yq5 (data : List Change) (a : Int) (b : Int) (cmp : Change -> Change -> Option (Int)) : Option (Int × Int) :=
 (chk ((4 : Int) ≠ 0)).bind fun u =>
 (chk ((4 : Int) ≠ 0)).bind fun k =>
 (chk ((4 : Int) ≠ 0)).bind fun l =>
 (if (decide (8 <= (w64 (b - a)))) = true then
  (if (decide (50 <= (w64 (b - a)))) = true then
   (yi2 data (w64 (a + (w64 ((w64 ((w64 (b - a)).tdiv 4)) * 1)))) 0 cmp).bind fun r =>
   (yi2 data (w64 (a + (w64 ((w64 ((w64 (b - a)).tdiv 4)) * 2)))) r.2 cmp).bind fun c =>
   (yi2 data (w64 (a + (w64 ((w64 ((w64 (b - a)).tdiv 4)) * 3)))) c.2 cmp).bind fun d =>
   some (r.1, c.1, d.1, d.2)
  else
   some ((w64 (a + (w64 ((w64 ((w64 (b - a)).tdiv 4)) * 1)))), (w64 (a + (w64 ((w64 ((w64 (b - a)).tdiv 4)) * 2)))), (w64 (a + (w64 ((w64 ((w64 (b - a)).tdiv 4)) * 3)))), (0 : Int))).bind fun ((g, h, i, j) : Int × Int × Int × Int) =>
  (yk5 data g h i j cmp).bind fun e =>
  some (e.1, e.2)
 else
  some ((w64 (a + (w64 ((w64 ((w64 (b - a)).tdiv 4)) * 2)))), (0 : Int))).bind fun ((v, f) : Int × Int) =>
 if (f == 0) = true then
  some (v, 1)
 else
  if (f == 12) = true then
   some (v, 2)
  else
   some (v, 0)
def yq4 (data : List Change) (a : Int) (b : Int) : Option (Int × Int) :=
 yq5 data a b (fun (z0 : Change) (z1 : Change) => zq16 z0 z1)
def yhk : Int × Int × (List Change) -> Option (Lp (Int × Int × (List Change)) ((List Change)))
 | (v, b, a) =>
  if (decide (v < b)) = true then
   (idx a b).bind fun c =>
   (idx a v).bind fun d =>
   (idx a v).bind fun e =>
   (idx (a.set v.toNat c) b).bind fun f =>
   some (.nx ((w64 (v + 1)), (w64 (b - 1)), ((a.set v.toNat c).set b.toNat d)))
  else
   some (.dn a)
def yqc (data : List Change) (a : Int) (b : Int) (cmp : Change -> Change -> Option (Int)) : Option ((List Change)) :=
 iter (yhk) (a, (w64 (b - 1)), data)
def yqb (data : List Change) (a : Int) (b : Int) : Option ((List Change)) :=
 yqc data a b (fun (z0 : Change) (z1 : Change) => zq16 z0 z1)
def yic (b : Int) (cmp : Change -> Change -> Option (Int)) (a : List Change) : Int -> Option (Lp (Int) (Int))
 | c =>
  (if (decide (c < b)) = true then (idx a c).bind fun d =>
  (idx a (w64 (c - 1))).bind fun e =>
  (cmp d e).bind fun f =>
  some (!(decide (f < 0))) else some false).bind fun (g : Bool) =>
  if g = true then
   some (.nx (w64 (c + 1)))
  else
   some (.dn c)
def yib (cmp : Change -> Change -> Option (Int)) : Int × (List Change) -> Option (Lp (Int × (List Change)) ((List Change)))
 | (b, a) =>
  if (decide (1 <= b)) = true then
   (idx a b).bind fun d =>
   (idx a (w64 (b - 1))).bind fun e =>
   (cmp d e).bind fun g =>
   if (!(decide (g < 0))) = true then
    some (.dn a)
   else
    (idx a (w64 (b - 1))).bind fun c =>
    (idx a b).bind fun f =>
    (idx a b).bind fun h =>
    (idx (a.set b.toNat c) (w64 (b - 1))).bind fun i =>
    some (.nx ((w64 (b - 1)), ((a.set b.toNat c).set (w64 (b - 1)).toNat f)))
  else
   some (.dn a)
def yia (b : Int) (cmp : Change -> Change -> Option (Int)) : Int × (List Change) -> Option (Lp (Int × (List Change)) ((List Change)))
 | (c, a) =>
  if (decide (c < b)) = true then
   (idx a c).bind fun e =>
   (idx a (w64 (c - 1))).bind fun f =>
   (cmp e f).bind fun h =>
   if (!(decide (h < 0))) = true then
    some (.dn a)
   else
    (idx a (w64 (c - 1))).bind fun d =>
    (idx a c).bind fun g =>
    (idx a c).bind fun i =>
    (idx (a.set c.toNat d) (w64 (c - 1))).bind fun j =>
    some (.nx ((w64 (c + 1)), ((a.set c.toNat d).set (w64 (c - 1)).toNat g)))
  else
   some (.dn a)
def yh9 (a : Int) (b : Int) (cmp : Change -> Change -> Option (Int)) : Int × Int × (List Change) -> Option (Lp (Int × Int × (List Change)) (Fl (Bool × (List Change)) ((List Change))))
 | (v, k, c) =>
  if (decide (k < 5)) = true then
   flb ((iter (yic b cmp c) v).bind fun (d : Int) =>
   if (d == b) = true then
    some (.ret (.dn (.ret (true, c))))
   else
    if (decide ((w64 (b - a)) < 50)) = true then
     some (.ret (.dn (.ret (false, c))))
    else
     (idx c (w64 (d - 1))).bind fun f =>
     (idx c d).bind fun j =>
     (idx c d).bind fun l =>
     (idx (c.set d.toNat f) (w64 (d - 1))).bind fun m =>
     (if (decide (2 <= (w64 (d - a)))) = true then
      (iter (yib cmp) ((w64 (d - 1)), ((c.set d.toNat f).set (w64 (d - 1)).toNat j))).bind fun (g : List Change) =>
      some g
     else
      some ((c.set d.toNat f).set (w64 (d - 1)).toNat j)).bind fun (e : List Change) =>
     if (decide (2 <= (w64 (b - d)))) = true then
      (iter (yia b cmp) ((w64 (d + 1)), e)).bind fun (h : List Change) =>
      some (.go (d, h))
     else
      some (.go (d, e))) fun ((n, i) : Int × (List Change)) =>
   some (.nx (n, (w64 (k + 1)), i))
  else
   some (.dn (.go c))
def yqq (data : List Change) (a : Int) (b : Int) (cmp : Change -> Change -> Option (Int)) : Option (Bool × (List Change)) :=
 flb (iter (yh9 a b cmp) ((w64 (a + 1)), (0 : Int), data)) fun (c : List Change) =>
 some (false, c)
def yqp (data : List Change) (a : Int) (b : Int) : Option (Bool × (List Change)) :=
 yqq data a b (fun (z0 : Change) (z1 : Change) => zq16 z0 z1)
def yhu (a : Int) (cmp : Change -> Change -> Option (Int)) (f : Int) (b : List Change) : Int -> Option (Lp (Int) (Int))
 | c =>
  (if (decide (c <= f)) = true then (idx b a).bind fun d =>
  (idx b c).bind fun e =>
  (cmp d e).bind fun g =>
  some (!(decide (g < 0))) else some false).bind fun (h : Bool) =>
  if h = true then
   some (.nx (w64 (c + 1)))
  else
   some (.dn c)
def yht (a : Int) (cmp : Change -> Change -> Option (Int)) (b : List Change) (f : Int) : Int -> Option (Lp (Int) (Int))
 | c =>
  (if (decide (f <= c)) = true then (idx b a).bind fun d =>
  (idx b c).bind fun e =>
  (cmp d e).bind fun g =>
  some (decide (g < 0)) else some false).bind fun (h : Bool) =>
  if h = true then
   some (.nx (w64 (c - 1)))
  else
   some (.dn c)
def yhs (a : Int) (cmp : Change -> Change -> Option (Int)) : Int × Int × (List Change) -> Option (Lp (Int × Int × (List Change)) (Int × (List Change)))
 | (v, g, b) =>
  (iter (yhu a cmp g b) v).bind fun (c : Int) =>
  (iter (yht a cmp b c) g).bind fun (d : Int) =>
  if (decide (d < c)) = true then
   some (.dn (c, b))
  else
   (idx b d).bind fun e =>
   (idx b c).bind fun f =>
   (idx b c).bind fun h =>
   (idx (b.set c.toNat e) d).bind fun i =>
   some (.nx ((w64 (c + 1)), (w64 (d - 1)), ((b.set c.toNat e).set d.toNat f)))
def yqi (data : List Change) (a : Int) (b : Int) (pivot : Int) (cmp : Change -> Change -> Option (Int)) : Option (Int × (List Change)) :=
 (idx data pivot).bind fun d =>
 (idx data a).bind fun e =>
 (idx data a).bind fun g =>
 (idx (data.set a.toNat d) pivot).bind fun h =>
 (iter (yhs a cmp) ((w64 (a + 1)), (w64 (b - 1)), ((data.set a.toNat d).set pivot.toNat e))).bind fun ((f, c) : Int × (List Change)) =>
 some (f, c)
def yqh (data : List Change) (a : Int) (b : Int) (pivot : Int) : Option (Int × (List Change)) :=
 yqi data a b pivot (fun (z0 : Change) (z1 : Change) => zq16 z0 z1)
def yh4 (data : List Change) (a : Int) (b : Int) (pivot : Int) (cmp : Change -> Change -> Option (Int)) (e : Change) (f : Change) : Int -> Option (Lp (Int) (Int))
 | v =>
  (if (decide (v <= (w64 (b - 1)))) = true then (idx ((data.set a.toNat e).set pivot.toNat f) v).bind fun c =>
  (idx ((data.set a.toNat e).set pivot.toNat f) a).bind fun d =>
  (cmp c d).bind fun g =>
  some (decide (g < 0)) else some false).bind fun (h : Bool) =>
  if h = true then
   some (.nx (w64 (v + 1)))
  else
   some (.dn v)
def yh3 (data : List Change) (a : Int) (pivot : Int) (cmp : Change -> Change -> Option (Int)) (e : Change) (f : Change) (g : Int) : Int -> Option (Lp (Int) (Int))
 | b =>
  (if (decide (g <= b)) = true then (idx ((data.set a.toNat e).set pivot.toNat f) b).bind fun c =>
  (idx ((data.set a.toNat e).set pivot.toNat f) a).bind fun d =>
  (cmp c d).bind fun h =>
  some (!(decide (h < 0))) else some false).bind fun (i : Bool) =>
  if i = true then
   some (.nx (w64 (b - 1)))
  else
   some (.dn b)
def yh2 (a : Int) (cmp : Change -> Change -> Option (Int)) (f : Int) (b : List Change) : Int -> Option (Lp (Int) (Int))
 | c =>
  (if (decide (c <= f)) = true then (idx b c).bind fun d =>
  (idx b a).bind fun e =>
  (cmp d e).bind fun g =>
  some (decide (g < 0)) else some false).bind fun (h : Bool) =>
  if h = true then
   some (.nx (w64 (c + 1)))
  else
   some (.dn c)
def yh1 (a : Int) (cmp : Change -> Change -> Option (Int)) (b : List Change) (d : Int) : Int -> Option (Lp (Int) (Int))
 | c =>
  (if (decide (d <= c)) = true then (idx b c).bind fun e =>
  (idx b a).bind fun f =>
  (cmp e f).bind fun h =>
  some (!(decide (h < 0))) else some false).bind fun (g : Bool) =>
  if g = true then
   some (.nx (w64 (c - 1)))
  else
   some (.dn c)
def yh0 (a : Int) (cmp : Change -> Change -> Option (Int)) : Int × Int × (List Change) -> Option (Lp (Int × Int × (List Change)) (Int × (List Change)))
 | (h, g, b) =>
  (iter (yh2 a cmp g b) h).bind fun (c : Int) =>
  (iter (yh1 a cmp b c) g).bind fun (d : Int) =>
  if (decide (d < c)) = true then
   some (.dn (d, b))
  else
   (idx b d).bind fun e =>
   (idx b c).bind fun f =>
   (idx b c).bind fun i =>
   (idx (b.set c.toNat e) d).bind fun j =>
   some (.nx ((w64 (c + 1)), (w64 (d - 1)), ((b.set c.toNat e).set d.toNat f)))
def yqm (data : List Change) (a : Int) (b : Int) (pivot : Int) (cmp : Change -> Change -> Option (Int)) : Option (Int × Bool × (List Change)) :=
 (idx data pivot).bind fun d =>
 (idx data a).bind fun e =>
 (idx data a).bind fun v =>
 (idx (data.set a.toNat d) pivot).bind fun w =>
 (iter (yh4 data a b pivot cmp d e) (w64 (a + 1))).bind fun (h : Int) =>
 (iter (yh3 data a pivot cmp d e h) (w64 (b - 1))).bind fun (g : Int) =>
 if (decide (g < h)) = true then
  (idx ((data.set a.toNat d).set pivot.toNat e) a).bind fun i =>
  (idx ((data.set a.toNat d).set pivot.toNat e) g).bind fun l =>
  (idx ((data.set a.toNat d).set pivot.toNat e) g).bind fun o =>
  (idx (((data.set a.toNat d).set pivot.toNat e).set g.toNat i) a).bind fun q =>
  some (g, true, ((((data.set a.toNat d).set pivot.toNat e).set g.toNat i).set a.toNat l))
 else
  (idx ((data.set a.toNat d).set pivot.toNat e) g).bind fun j =>
  (idx ((data.set a.toNat d).set pivot.toNat e) h).bind fun m =>
  (idx ((data.set a.toNat d).set pivot.toNat e) h).bind fun r =>
  (idx (((data.set a.toNat d).set pivot.toNat e).set h.toNat j) g).bind fun s =>
  (iter (yh0 a cmp) ((w64 (h + 1)), (w64 (g - 1)), ((((data.set a.toNat d).set pivot.toNat e).set h.toNat j).set g.toNat m))).bind fun ((f, c) : Int × (List Change)) =>
  (idx c a).bind fun k =>
  (idx c f).bind fun n =>
  (idx c f).bind fun t =>
  (idx (c.set f.toNat k) a).bind fun u =>
  some (f, false, ((c.set f.toNat k).set a.toNat n))
def yql (data : List Change) (a : Int) (b : Int) (pivot : Int) : Option (Int × Bool × (List Change)) :=
 yqm data a b pivot (fun (z0 : Change) (z1 : Change) => zq16 z0 z1)
def ybc (length : Int) : Option ((IK .u64)) :=
 (zq36 (⟨(IntKind.u64.wrap (length))⟩ : IK .u64)).bind fun r =>
 (chk ((0 : Int) <= r)).bind fun u =>
 some (⟨(IntKind.u64.wrap (1 * 2 ^ (min (r : Int).toNat (IntKind.u64).bits)))⟩ : IK .u64)
def ya9 (r : IK .u64) : Option ((IK .u64) × (IK .u64)) :=
 (chk ((0 : Int) <= 13)).bind fun a =>
 (chk ((0 : Int) <= 7)).bind fun b =>
 (chk ((0 : Int) <= 17)).bind fun c =>
 some ((⟨(IntKind.u64.wrap ((BitVec.ofInt (IntKind.u64).bits (IntKind.u64.wrap ((BitVec.ofInt (IntKind.u64).bits (IntKind.u64.wrap ((BitVec.ofInt (IntKind.u64).bits r.v ^^^ BitVec.ofInt (IntKind.u64).bits (IntKind.u64.wrap (r.v * 2 ^ (min (13 : Int).toNat (IntKind.u64).bits)))).toNat : Int)) ^^^ BitVec.ofInt (IntKind.u64).bits ((IntKind.u64.wrap ((BitVec.ofInt (IntKind.u64).bits r.v ^^^ BitVec.ofInt (IntKind.u64).bits (IntKind.u64.wrap (r.v * 2 ^ (min (13 : Int).toNat (IntKind.u64).bits)))).toNat : Int)).fdiv (2 ^ (min (7 : Int).toNat (IntKind.u64).bits)))).toNat : Int)) ^^^ BitVec.ofInt (IntKind.u64).bits (IntKind.u64.wrap ((IntKind.u64.wrap ((BitVec.ofInt (IntKind.u64).bits (IntKind.u64.wrap ((BitVec.ofInt (IntKind.u64).bits r.v ^^^ BitVec.ofInt (IntKind.u64).bits (IntKind.u64.wrap (r.v * 2 ^ (min (13 : Int).toNat (IntKind.u64).bits)))).toNat : Int)) ^^^ BitVec.ofInt (IntKind.u64).bits ((IntKind.u64.wrap ((BitVec.ofInt (IntKind.u64).bits r.v ^^^ BitVec.ofInt (IntKind.u64).bits (IntKind.u64.wrap (r.v * 2 ^ (min (13 : Int).toNat (IntKind.u64).bits)))).toNat : Int)).fdiv (2 ^ (min (7 : Int).toNat (IntKind.u64).bits)))).toNat : Int)) * 2 ^ (min (17 : Int).toNat (IntKind.u64).bits)))).toNat : Int))⟩ : IK .u64), (⟨(IntKind.u64.wrap ((BitVec.ofInt (IntKind.u64).bits (IntKind.u64.wrap ((BitVec.ofInt (IntKind.u64).bits (IntKind.u64.wrap ((BitVec.ofInt (IntKind.u64).bits r.v ^^^ BitVec.ofInt (IntKind.u64).bits (IntKind.u64.wrap (r.v * 2 ^ (min (13 : Int).toNat (IntKind.u64).bits)))).toNat : Int)) ^^^ BitVec.ofInt (IntKind.u64).bits ((IntKind.u64.wrap ((BitVec.ofInt (IntKind.u64).bits r.v ^^^ BitVec.ofInt (IntKind.u64).bits (IntKind.u64.wrap (r.v * 2 ^ (min (13 : Int).toNat (IntKind.u64).bits)))).toNat : Int)).fdiv (2 ^ (min (7 : Int).toNat (IntKind.u64).bits)))).toNat : Int)) ^^^ BitVec.ofInt (IntKind.u64).bits (IntKind.u64.wrap ((IntKind.u64.wrap ((BitVec.ofInt (IntKind.u64).bits (IntKind.u64.wrap ((BitVec.ofInt (IntKind.u64).bits r.v ^^^ BitVec.ofInt (IntKind.u64).bits (IntKind.u64.wrap (r.v * 2 ^ (min (13 : Int).toNat (IntKind.u64).bits)))).toNat : Int)) ^^^ BitVec.ofInt (IntKind.u64).bits ((IntKind.u64.wrap ((BitVec.ofInt (IntKind.u64).bits r.v ^^^ BitVec.ofInt (IntKind.u64).bits (IntKind.u64.wrap (r.v * 2 ^ (min (13 : Int).toNat (IntKind.u64).bits)))).toNat : Int)).fdiv (2 ^ (min (7 : Int).toNat (IntKind.u64).bits)))).toNat : Int)) * 2 ^ (min (17 : Int).toNat (IntKind.u64).bits)))).toNat : Int))⟩ : IK .u64))
def yiq (a : Int) (b : Int) (r : (IK .u64)) : Int × (List Change) × Int -> Option (Lp (Int × (List Change) × Int) ((List Change)))
 | (v, c, g) =>
  (chk ((4 : Int) ≠ 0)).bind fun i =>
  if (decide (v <= (w64 ((w64 (a + (w64 ((w64 ((w64 (b - a)).tdiv 4)) * 2)))) + 1)))) = true then
   (ya9 (⟨g⟩ : IK .u64)).bind fun d =>
   (if (decide ((w64 (b - a)) <= (w64 ((IntKind.u64.wrap ((BitVec.ofInt (IntKind.u64).bits d.1.v &&& BitVec.ofInt (IntKind.u64).bits (IntKind.u64.wrap (r.v - 1))).toNat : Int)))))) = true then
    some (w64 ((w64 ((IntKind.u64.wrap ((BitVec.ofInt (IntKind.u64).bits d.1.v &&& BitVec.ofInt (IntKind.u64).bits (IntKind.u64.wrap (r.v - 1))).toNat : Int)))) - (w64 (b - a))))
   else
    some (w64 ((IntKind.u64.wrap ((BitVec.ofInt (IntKind.u64).bits d.1.v &&& BitVec.ofInt (IntKind.u64).bits (IntKind.u64.wrap (r.v - 1))).toNat : Int))))).bind fun (e : Int) =>
   (idx c (w64 (a + e))).bind fun f =>
   (idx c v).bind fun h =>
   (idx c v).bind fun j =>
   (idx (c.set v.toNat f) (w64 (a + e))).bind fun k =>
   some (.nx ((w64 (v + 1)), ((c.set v.toNat f).set (w64 (a + e)).toNat h), d.2.v))
  else
   some (.dn c)
def yq9 (data : List Change) (a : Int) (b : Int) (cmp : Change -> Change -> Option (Int)) : Option ((List Change)) :=
 if (decide (8 <= (w64 (b - a)))) = true then
  (ybc (w64 (b - a))).bind fun r =>
  (chk ((4 : Int) ≠ 0)).bind fun u =>
  iter (yiq a b r) ((w64 ((w64 (a + (w64 ((w64 ((w64 (b - a)).tdiv 4)) * 2)))) - 1)), data, (IntKind.u64.wrap ((w64 (b - a)))))
 else
  some data
def yq8 (data : List Change) (a : Int) (b : Int) : Option ((List Change)) :=
 yq9 data a b (fun (z0 : Change) (z1 : Change) => zq16 z0 z1)
def yho (rec_ : (List Change) -> Int -> Int -> Int -> Option ((List Change))) : Int × Int × Int × Bool × Bool × (List Change) -> Option (Lp (Int × Int × Int × Bool × Bool × (List Change)) ((List Change)))
 | (a1, b1, limit1, mid, mid1, b) =>
  if (decide ((w64 (b1 - a1)) <= 12)) = true then
   (yqv b a1 b1).bind fun r =>
   some (.dn r)
  else
   if (limit1 == 0) = true then
    (yqz b a1 b1).bind fun l =>
    some (.dn l)
   else
    (if (!mid) = true then
     (yq8 b a1 b1).bind fun m =>
     some ((w64 (limit1 - 1)), m)
    else
     some (limit1, b)).bind fun ((limit2, d) : Int × (List Change)) =>
    (yq4 d a1 b1).bind fun g =>
    (if (g.2 == 2) = true then
     (yqb d a1 b1).bind fun n =>
     some ((w64 ((w64 (b1 - 1)) - (w64 (g.1 - a1)))), (1 : Int), n)
    else
     some (g.1, g.2, d)).bind fun ((leftLen, rightLen, e) : Int × Int × (List Change)) =>
    flb ((if mid = true then if mid1 = true then some (rightLen == 1) else some false else some false).bind fun (v : Bool) =>
    if v = true then
     (yqp e a1 b1).bind fun h =>
     if h.1 = true then
      some (.ret (.dn h.2))
     else
      some (.go h.2)
    else
     some (.go e)) fun (c : List Change) =>
    (if (decide (0 < a1)) = true then (idx c (w64 (a1 - 1))).bind fun o =>
    (idx c leftLen).bind fun q =>
    (zq16 o q).bind fun i =>
    some (!(decide (i < 0))) else some false).bind fun (s : Bool) =>
    if s = true then
     (yqh c a1 b1 leftLen).bind fun f =>
     some (.nx (f.1, b1, limit2, mid, mid1, f.2))
    else
     (yql c a1 b1 leftLen).bind fun a =>
     (chk ((8 : Int) ≠ 0)).bind fun u =>
     if (decide ((w64 (a.1 - a1)) < (w64 (b1 - a.1)))) = true then
      (rec_ a.2.2 a1 a.1 limit2).bind fun j =>
      some (.nx ((w64 (a.1 + 1)), b1, limit2, (decide ((w64 ((w64 (b1 - a1)).tdiv 8)) <= (w64 (a.1 - a1)))), a.2.1, j))
     else
      (rec_ a.2.2 (w64 (a.1 + 1)) b1 limit2).bind fun k =>
      some (.nx (a1, a.1, limit2, (decide ((w64 ((w64 (b1 - a1)).tdiv 8)) <= (w64 (b1 - a.1)))), a.2.1, k))
def ybb (rec_ : (List Change) -> Int -> Int -> Int -> Option ((List Change))) (data : List Change) (a : Int) (b : Int) (limit : Int) : Option ((List Change)) :=
 iter (yho rec_) (a, b, limit, true, true, data)
def yb3 : Nat -> (List Change) -> Int -> Int -> Int -> Option ((List Change))
 | 0 => fun _ _ _ _ => none
 | n + 1 => ybb (yb3 n)
def yms (data : List Change) (a : Int) (b : Int) (limit : Int) : Option ((List Change)) := yb3 4294967296 data a b limit
def yf0 (x : List Change) : Option ((List Change)) :=
 (zq36 (⟨(IntKind.u64.wrap ((x.length : Int)))⟩ : IK .u64)).bind fun r =>
 (yms x 0 (x.length : Int) r).bind fun a =>
 some a
def zq94 (s : List Change) : Option ((List Change)) :=
 cmpM (fun (x y : Change) => ((x.Kind == y.Kind) && (((x.Trip.Id == y.Trip.Id) && ((x.Trip.Line == y.Trip.Line) && ((x.Trip.Start == y.Trip.Start) && true))) && ((x.To == y.To) && true)))) s
def zq9 (t : Timetable) (x : List Change) (y_ : List Change) : Option ((List Change) × Bool) :=
 (zq5 t x).bind fun r =>
 (if (!r) = true then some true else (zq5 t y_).bind fun b =>
 if (!b) = true then some true else (zq17 x y_).bind fun c =>
 some (decide (0 < (c.length : Int)))).bind fun (v : Bool) =>
 if v = true then
  some (([] : List Change), false)
 else
  (zq96 ([x, y_] : List (List Change))).bind fun d =>
  (yf0 d).bind fun e =>
  (zq94 e).bind fun a =>
  (zq5 t a).bind fun f =>
  if (!f) = true then
   some (([] : List Change), false)
  else
   some (a, true)
def zq60 (x : Int) (a : Int) (b : Int) : Option (Bool) :=
 (if (decide (a <= x)) = true then some (decide (x <= b)) else some false).bind fun (v : Bool) =>
 some v
def ybv (s : ByteArray) : Int -> Option (Lp (Int) (Fl (Bool) (Unit)))
 | a =>
  if (decide (a < (s.size : Int))) = true then
   (chk ((0 : Int) <= a /\ a < (s.size : Int))).bind fun c =>
   (if (decide (((s.data.toList.getD a.toNat 0).toNat : Int) < 97)) = true then (chk ((0 : Int) <= a /\ a < (s.size : Int))).bind fun d =>
   if (decide (((s.data.toList.getD a.toNat 0).toNat : Int) < 48)) = true then some true else (chk ((0 : Int) <= a /\ a < (s.size : Int))).bind fun e =>
   some (decide (57 < ((s.data.toList.getD a.toNat 0).toNat : Int))) else (chk ((0 : Int) <= a /\ a < (s.size : Int))).bind fun f =>
   if (decide (122 < ((s.data.toList.getD a.toNat 0).toNat : Int))) = true then (chk ((0 : Int) <= a /\ a < (s.size : Int))).bind fun g =>
   if (decide (((s.data.toList.getD a.toNat 0).toNat : Int) < 48)) = true then some true else (chk ((0 : Int) <= a /\ a < (s.size : Int))).bind fun h =>
   some (decide (57 < ((s.data.toList.getD a.toNat 0).toNat : Int))) else some false).bind fun (b : Bool) =>
   if b = true then
    some (.dn (.ret false))
   else
    some (.nx (w64 (a + 1)))
  else
   some (.dn (.go ()))
def zq76 (s : ByteArray) : Option (Bool) :=
 (zq60 (s.size : Int) 1 8).bind fun r =>
 (if (!r) = true then some true else (chk ((0 : Int) <= 0 /\ 0 < (s.size : Int))).bind fun u =>
 if (decide (((s.data.toList.getD (0 : Int).toNat 0).toNat : Int) < 97)) = true then some true else (chk ((0 : Int) <= 0 /\ 0 < (s.size : Int))).bind fun a =>
 some (decide (122 < ((s.data.toList.getD (0 : Int).toNat 0).toNat : Int)))).bind fun (v : Bool) =>
 if v = true then
  some false
 else
  flb (iter (ybv s) (0 : Int)) fun (_ : Unit) =>
  some true
def ycz (list : List ByteArray) (name : ByteArray) : Int -> Option (Lp (Int) (Fl (Int) (Unit)))
 | v =>
  if (decide (v < (list.length : Int))) = true then
   (idx list v).bind fun e =>
   if (e.toList == name.toList) = true then
    some (.dn (.ret v))
   else
    some (.nx (w64 (v + 1)))
  else
   some (.dn (.go ()))
def zq72 (list : List ByteArray) (name : ByteArray) : Option (Int) :=
 flb (iter (ycz list name) (0 : Int)) fun (_ : Unit) =>
 some (-1)
def ycw (x : Line) (stops : Int) : Int -> Option (Lp (Int) (Fl (Bool) (Unit)))
 | a =>
  if (decide (a < (x.Stops.length : Int))) = true then
   (idx x.Stops a).bind fun b =>
   (zq60 b 0 (w64 (stops - 1))).bind fun c =>
   (if (!c) = true then some true else (idx x.Stops a).bind fun d =>
   (zq79 x d).bind fun e =>
   some (e != a)).bind fun (f : Bool) =>
   if f = true then
    some (.dn (.ret false))
   else
    some (.nx (w64 (a + 1)))
  else
   some (.dn (.go ()))
def ycv (x : Line) : Int -> Option (Lp (Int) (Fl (Bool) (Unit)))
 | a =>
  if (decide (a < (x.Runs.length : Int))) = true then
   (idx x.Runs a).bind fun b =>
   (zq60 b 1 60).bind fun c =>
   if (!c) = true then
    some (.dn (.ret false))
   else
    some (.nx (w64 (a + 1)))
  else
   some (.dn (.go ()))
def zq74 (x : Line) (stops : Int) : Option (Bool) :=
 (zq76 x.Name).bind fun r =>
 (if (!r) = true then some true else (zq60 (x.Stops.length : Int) 2 6).bind fun a =>
 if (!a) = true then some true else some ((x.Runs.length : Int) != (w64 ((x.Stops.length : Int) - 1)))).bind fun (v : Bool) =>
 if v = true then
  some false
 else
  flb (iter (ycw x stops) (0 : Int)) fun (_ : Unit) =>
  flb (iter (ycv x) (0 : Int)) fun (_ : Unit) =>
  some true
def ycu (n : Network) (name : ByteArray) : Int -> Option (Lp (Int) (Fl (Int) (Unit)))
 | v =>
  if (decide (v < (n.Lines.length : Int))) = true then
   (idx n.Lines v).bind fun e =>
   if (e.Name.toList == name.toList) = true then
    some (.dn (.ret v))
   else
    some (.nx (w64 (v + 1)))
  else
   some (.dn (.go ()))
def zq75 (n : Network) (name : ByteArray) : Option (Int) :=
 flb (iter (ycu n name) (0 : Int)) fun (_ : Unit) =>
 some (-1)
def ycy (n : Network) : Int -> Option (Lp (Int) (Fl (Bool) (Unit)))
 | i =>
  if (decide (i < (n.Stops.length : Int))) = true then
   (idx n.Stops i).bind fun a =>
   (zq76 a).bind fun b =>
   (if (!b) = true then some true else (idx n.Stops i).bind fun c =>
   (zq72 n.Stops c).bind fun d =>
   some (d != i)).bind fun (e : Bool) =>
   if e = true then
    some (.dn (.ret false))
   else
    some (.nx (w64 (i + 1)))
  else
   some (.dn (.go ()))
def ycx (n : Network) : Int -> Option (Lp (Int) (Fl (Bool) (Unit)))
 | a =>
  if (decide (a < (n.Lines.length : Int))) = true then
   (idx n.Lines a).bind fun c =>
   (zq74 c (n.Stops.length : Int)).bind fun d =>
   (if (!d) = true then some true else (idx n.Lines a).bind fun e =>
   (zq75 n e.Name).bind fun b =>
   some (b != a)).bind fun (f : Bool) =>
   if f = true then
    some (.dn (.ret false))
   else
    some (.nx (w64 (a + 1)))
  else
   some (.dn (.go ()))
def zq73 (n : Network) : Option (Bool) :=
 (zq60 (n.Stops.length : Int) 2 8).bind fun r =>
 (if (!r) = true then some true else (zq60 (n.Lines.length : Int) 1 5).bind fun a =>
 some (!a)).bind fun (v : Bool) =>
 if v = true then
  some false
 else
  flb (iter (ycy n) (0 : Int)) fun (_ : Unit) =>
  flb (iter (ycx n) (0 : Int)) fun (_ : Unit) =>
  some true
def zq81 (t : Int) : Option (Bool) :=
 (zq60 t 0 1799).bind fun r =>
 some r
def zq86 (t : Timetable) (i : Int) : Option (Line) :=
 (idx t.Trips i).bind fun a =>
 (idx t.Network.Lines a.Line).bind fun b =>
 some b
def zq89 (t : Timetable) (i : Int) : Option ((List Int)) :=
 (zq86 t i).bind fun r =>
 some r.Stops
def yev (x : Line) (to_ : Int) : Int × Int -> Option (Lp (Int × Int) (Int))
 | (v, a) =>
  if (decide (a < to_)) = true then
   (idx x.Runs a).bind fun e =>
   some (.nx ((w64 (v + e)), (w64 (a + 1))))
  else
   some (.dn v)
def zq80 (x : Line) (from_ : Int) (to_ : Int) : Option (Int) :=
 (iter (yev x to_) ((0 : Int), from_)).bind fun (a : Int) =>
 some a
def zq82 (t : Timetable) (i : Int) (k : Int) : Option (Int) :=
 (idx t.Trips i).bind fun a =>
 (zq86 t i).bind fun b =>
 (zq80 b 0 k).bind fun c =>
 some (w64 (a.Start + c))
def zq83 (t : Timetable) (i : Int) : Option (Int) :=
 (zq89 t i).bind fun a =>
 (zq82 t i (w64 ((a.length : Int) - 1))).bind fun b =>
 some b
def yeu (t : Timetable) : Int -> Option (Lp (Int) (Fl (Bool) (Unit)))
 | x =>
  if (decide (x < (t.Trips.length : Int))) = true then
   (idx t.Trips x).bind fun e =>
   (zq60 e.Id 1 999).bind fun b =>
   (if (!b) = true then some true else (zq60 e.Line 0 (w64 ((t.Network.Lines.length : Int) - 1))).bind fun c =>
   if (!c) = true then some true else (zq81 e.Start).bind fun d =>
   if (!d) = true then some true else (zq83 t x).bind fun f =>
   (zq81 f).bind fun a =>
   if (!a) = true then some true else if (decide (0 < x)) = true then (idx t.Trips (w64 (x - 1))).bind fun g =>
   some (decide (e.Id <= g.Id)) else some false).bind fun (h : Bool) =>
   if h = true then
    some (.dn (.ret false))
   else
    some (.nx (w64 (x + 1)))
  else
   some (.dn (.go ()))
def zq85 (t : Timetable) : Option (Bool) :=
 (zq73 t.Network).bind fun r =>
 (if (!r) = true then some true else some (decide (12 < (t.Trips.length : Int)))).bind fun (v : Bool) =>
 if v = true then
  some false
 else
  flb (iter (yeu t) (0 : Int)) fun (_ : Unit) =>
  some true
def zq87 (t : Timetable) : Option (Timetable) :=
 (zq77 t.Network).bind fun a =>
 (chk (([] : List Trip).length + t.Trips.length <= 4294967296)).bind fun b =>
 some (⟨(⟨a.Stops, a.Lines⟩ : Network), (([] : List Trip) ++ t.Trips)⟩ : Timetable)
def ycq (t : Timetable) (id : Int) : Int -> Option (Lp (Int) (Fl (Int) (Unit)))
 | v =>
  if (decide (v < (t.Trips.length : Int))) = true then
   (idx t.Trips v).bind fun e =>
   if (e.Id == id) = true then
    some (.dn (.ret v))
   else
    some (.nx (w64 (v + 1)))
  else
   some (.dn (.go ()))
def zq84 (t : Timetable) (id : Int) : Option (Int) :=
 flb (iter (ycq t id) (0 : Int)) fun (_ : Unit) =>
 some (-1)
def yer (t : Timetable) (x : Trip) : Int -> Option (Lp (Int) (Int))
 | v =>
  (if (decide (v < (t.Trips.length : Int))) = true then (idx t.Trips v).bind fun a =>
  some (decide (a.Id < x.Id)) else some false).bind fun (b : Bool) =>
  if b = true then
   some (.nx (w64 (v + 1)))
  else
   some (.dn v)
def zq88 (t : Timetable) (x : Trip) : Option (Timetable) :=
 (iter (yer t x) (0 : Int)).bind fun (a : Int) =>
 (zq87 t).bind fun r =>
 (chk ((0 : Int) <= 0 /\ (0 : Int) <= a /\ a <= (t.Trips.length : Int))).bind fun b =>
 (chk (([] : List Trip).length + ((t.Trips.take a.toNat).drop (0 : Int).toNat).length <= 4294967296)).bind fun c =>
 (chk ((([] : List Trip) ++ ((t.Trips.take a.toNat).drop (0 : Int).toNat)).length + ([x] : List Trip).length <= 4294967296)).bind fun d =>
 (chk ((0 : Int) <= a /\ a <= (t.Trips.length : Int))).bind fun e =>
 (chk (((([] : List Trip) ++ ((t.Trips.take a.toNat).drop (0 : Int).toNat)) ++ ([x] : List Trip)).length + (t.Trips.drop a.toNat).length <= 4294967296)).bind fun f =>
 some (⟨(⟨r.Network.Stops, r.Network.Lines⟩ : Network), (((([] : List Trip) ++ ((t.Trips.take a.toNat).drop (0 : Int).toNat)) ++ ([x] : List Trip)) ++ (t.Trips.drop a.toNat))⟩ : Timetable)
def zq90 (t : Timetable) (i : Int) : Option (Timetable) :=
 (zq87 t).bind fun r =>
 (chk ((0 : Int) <= 0 /\ (0 : Int) <= i /\ i <= (t.Trips.length : Int))).bind fun a =>
 (chk (([] : List Trip).length + ((t.Trips.take i.toNat).drop (0 : Int).toNat).length <= 4294967296)).bind fun b =>
 (chk ((0 : Int) <= (w64 (i + 1)) /\ (w64 (i + 1)) <= (t.Trips.length : Int))).bind fun c =>
 (chk ((([] : List Trip) ++ ((t.Trips.take i.toNat).drop (0 : Int).toNat)).length + (t.Trips.drop (w64 (i + 1)).toNat).length <= 4294967296)).bind fun d =>
 some (⟨(⟨r.Network.Stops, r.Network.Lines⟩ : Network), ((([] : List Trip) ++ ((t.Trips.take i.toNat).drop (0 : Int).toNat)) ++ (t.Trips.drop (w64 (i + 1)).toNat))⟩ : Timetable)
def yas (t : Timetable) (list : List Change) : Int × (List ByteArray) × (List Line) × (List Trip) -> Option (Lp (Int × (List ByteArray) × (List Line) × (List Trip)) (Fl (Timetable × Bool) ((List ByteArray) × (List Line) × (List Trip))))
 | (at_, v, b, a) =>
  if (decide (at_ < (list.length : Int))) = true then
   flb ((idx list at_).bind fun e =>
   (if (decide (0 < at_)) = true then (idx list (w64 (at_ - 1))).bind fun j =>
   some (decide (e.Trip.Id <= j.Trip.Id)) else some false).bind fun (k : Bool) =>
   if k = true then
    some (.ret (.dn (.ret ((⟨(⟨([] : List ByteArray), ([] : List Line)⟩ : Network), ([] : List Trip)⟩ : Timetable), false))))
   else
    (zq84 t e.Trip.Id).bind fun c =>
    (if (decide (0 <= c)) = true then (idx t.Trips c).bind fun d =>
    some ((d.Id == e.Trip.Id) && ((d.Line == e.Trip.Line) && ((d.Start == e.Trip.Start) && true))) else some false).bind fun (x : Bool) =>
    (if (e.Kind == 1) = true then if (decide (c < 0)) = true then some (e.To == 0) else some false else some false).bind fun (l : Bool) =>
    if l = true then
     (zq88 (⟨(⟨v, b⟩ : Network), a⟩ : Timetable) e.Trip).bind fun f =>
     some (.go (f.Network.Stops, f.Network.Lines, f.Trips))
    else
     (if (e.Kind == 2) = true then if x = true then some (e.To == 0) else some false else some false).bind fun (m : Bool) =>
     if m = true then
      (zq84 (⟨(⟨v, b⟩ : Network), a⟩ : Timetable) e.Trip.Id).bind fun n =>
      (zq90 (⟨(⟨v, b⟩ : Network), a⟩ : Timetable) n).bind fun g =>
      some (.go (g.Network.Stops, g.Network.Lines, g.Trips))
     else
      (if (e.Kind == 3) = true then if x = true then some (e.To != e.Trip.Start) else some false else some false).bind fun (o : Bool) =>
      if o = true then
       (zq84 (⟨(⟨v, b⟩ : Network), a⟩ : Timetable) e.Trip.Id).bind fun h =>
       (idx a h).bind fun i =>
       (idx a h).bind fun u =>
       some (.go (v, b, (a.set h.toNat (⟨i.Id, i.Line, e.To⟩ : Trip))))
      else
       some (.ret (.dn (.ret ((⟨(⟨([] : List ByteArray), ([] : List Line)⟩ : Network), ([] : List Trip)⟩ : Timetable), false))))) fun ((q, r, s) : (List ByteArray) × (List Line) × (List Trip)) =>
   some (.nx ((w64 (at_ + 1)), q, r, s))
  else
   some (.dn (.go (v, b, a)))
def zq66 (t : Timetable) (list : List Change) : Option (Timetable × Bool) :=
 if (decide (24 < (list.length : Int))) = true then
  some ((⟨(⟨([] : List ByteArray), ([] : List Line)⟩ : Network), ([] : List Trip)⟩ : Timetable), false)
 else
  (zq87 t).bind fun r =>
  flb (iter (yas t list) ((0 : Int), r.Network.Stops, r.Network.Lines, r.Trips)) fun ((a, b, c) : (List ByteArray) × (List Line) × (List Trip)) =>
  (zq85 (⟨(⟨a, b⟩ : Network), c⟩ : Timetable)).bind fun d =>
  if (!d) = true then
   some ((⟨(⟨([] : List ByteArray), ([] : List Line)⟩ : Network), ([] : List Trip)⟩ : Timetable), false)
  else
   some ((⟨(⟨a, b⟩ : Network), c⟩ : Timetable), true)
def zq41 (t : Timetable) (list : List Change) : Option (Bool) :=
 (zq85 t).bind fun r =>
 if (!r) = true then
  some false
 else
  (zq66 t list).bind fun a =>
  some a.2
def yex (x : List Change) (y_ : List Change) : Int × (List Int) -> Option (Lp (Int × (List Int)) ((List Int)))
 | (v, k) =>
  if (decide (v < (x.length : Int))) = true then
   ((idx x v).bind fun e =>
   (zq69 y_ e.Trip.Id).bind fun r =>
   (if (decide (0 <= r)) = true then (idx y_ r).bind fun a =>
   (idx x v).bind fun b =>
   some (!((a.Kind == b.Kind) && (((a.Trip.Id == b.Trip.Id) && ((a.Trip.Line == b.Trip.Line) && ((a.Trip.Start == b.Trip.Start) && true))) && ((a.To == b.To) && true)))) else some false).bind fun (d : Bool) =>
   if d = true then
    (idx x v).bind fun c =>
    (chk (k.length + ([c.Trip.Id] : List Int).length <= 4294967296)).bind fun u =>
    some (k ++ ([c.Trip.Id] : List Int))
   else
    some k).bind fun (f : List Int) =>
   some (.nx ((w64 (v + 1)), f))
  else
   some (.dn k)
def zq68 (x : List Change) (y_ : List Change) : Option ((List Int)) :=
 (iter (yex x y_) ((0 : Int), ([] : List Int))).bind fun (a : List Int) =>
 some a
def yb0 (y_ : List Change) (b : Int) (c : List Change) : Int -> Option (Lp (Int) (Int))
 | a =>
  (if (decide (0 < a)) = true then (idx c (w64 (a - 1))).bind fun d =>
  (idx y_ b).bind fun e =>
  some (decide (e.Trip.Id < d.Trip.Id)) else some false).bind fun (f : Bool) =>
  if f = true then
   some (.nx (w64 (a - 1)))
  else
   some (.dn a)
def ybz (x : List Change) (y_ : List Change) : Int × (List Change) -> Option (Lp (Int × (List Change)) ((List Change)))
 | (c, a) =>
  if (decide (c < (y_.length : Int))) = true then
   ((idx y_ c).bind fun e =>
   (zq69 x e.Trip.Id).bind fun f =>
   if (decide (0 <= f)) = true then
    some a
   else
    (iter (yb0 y_ c a) (a.length : Int)).bind fun (b : Int) =>
    (chk ((0 : Int) <= 0 /\ (0 : Int) <= b /\ b <= (a.length : Int))).bind fun i =>
    (chk (([] : List Change).length + ((a.take b.toNat).drop (0 : Int).toNat).length <= 4294967296)).bind fun j =>
    (idx y_ c).bind fun d =>
    (chk ((([] : List Change) ++ ((a.take b.toNat).drop (0 : Int).toNat)).length + ([d] : List Change).length <= 4294967296)).bind fun k =>
    (chk ((0 : Int) <= b /\ b <= (a.length : Int))).bind fun l =>
    (chk (((([] : List Change) ++ ((a.take b.toNat).drop (0 : Int).toNat)) ++ ([d] : List Change)).length + (a.drop b.toNat).length <= 4294967296)).bind fun g =>
    some (((([] : List Change) ++ ((a.take b.toNat).drop (0 : Int).toNat)) ++ ([d] : List Change)) ++ (a.drop b.toNat))).bind fun (h : List Change) =>
   some (.nx ((w64 (c + 1)), h))
  else
   some (.dn a)
def zq42 (t : Timetable) (x : List Change) (y_ : List Change) : Option ((List Change) × Bool) :=
 (zq41 t x).bind fun r =>
 (if (!r) = true then some true else (zq41 t y_).bind fun b =>
 if (!b) = true then some true else (zq68 x y_).bind fun c =>
 some (decide (0 < (c.length : Int)))).bind fun (v : Bool) =>
 if v = true then
  some (([] : List Change), false)
 else
  (chk (([] : List Change).length + x.length <= 4294967296)).bind fun u =>
  (iter (ybz x y_) ((0 : Int), (([] : List Change) ++ x))).bind fun (a : List Change) =>
  (zq41 t a).bind fun d =>
  if (!d) = true then
   some (([] : List Change), false)
  else
   some (a, true)
def ydf (a : List Change) (b : List Change) : Int -> Option (Lp (Int) (Fl (Bool) (Unit)))
 | v =>
  if (decide (v < (a.length : Int))) = true then
   (idx a v).bind fun c =>
   (idx b v).bind fun d =>
   if (!((c.Kind == d.Kind) && (((c.Trip.Id == d.Trip.Id) && ((c.Trip.Line == d.Trip.Line) && ((c.Trip.Start == d.Trip.Start) && true))) && ((c.To == d.To) && true)))) = true then
    some (.dn (.ret false))
   else
    some (.nx (w64 (v + 1)))
  else
   some (.dn (.go ()))
def yfc (a : List Change) (b : List Change) : Option (Bool) :=
 if ((a.length : Int) != (b.length : Int)) = true then
  some false
 else
  flb (iter (ydf a b) (0 : Int)) fun (_ : Unit) =>
  some true
def zq4 (t : Timetable) (x : List Change) (y_ : List Change) : Option ((List Int) × Bool) :=
 (zq5 t x).bind fun r =>
 (if (!r) = true then some true else (zq5 t y_).bind fun a =>
 some (!a)).bind fun (v : Bool) =>
 if v = true then
  some (([] : List Int), false)
 else
  (zq17 x y_).bind fun b =>
  some (b, true)
def zq39 (t : Timetable) (x : List Change) (y_ : List Change) : Option ((List Int) × Bool) :=
 (zq41 t x).bind fun r =>
 (if (!r) = true then some true else (zq41 t y_).bind fun a =>
 some (!a)).bind fun (v : Bool) =>
 if v = true then
  some (([] : List Int), false)
 else
  (zq68 x y_).bind fun b =>
  some (b, true)
def ybl (a : List Int) (b : List Int) : Int -> Option (Lp (Int) (Fl (Bool) (Unit)))
 | v =>
  if (decide (v < (a.length : Int))) = true then
   (idx a v).bind fun c =>
   (idx b v).bind fun d =>
   if (c != d) = true then
    some (.dn (.ret false))
   else
    some (.nx (w64 (v + 1)))
  else
   some (.dn (.go ()))
def yfb (a : List Int) (b : List Int) : Option (Bool) :=
 if ((a.length : Int) != (b.length : Int)) = true then
  some false
 else
  flb (iter (ybl a b) (0 : Int)) fun (_ : Unit) =>
  some true
def zq2 (t : Timetable) (list : List Change) : Option (Timetable × Bool) :=
 (zq8 t).bind fun r =>
 if (!r) = true then
  some ((⟨(⟨([] : List ByteArray), ([] : List Line)⟩ : Network), ([] : List Trip)⟩ : Timetable), false)
 else
  (zq10 t list).bind fun a =>
  some (a.1, a.2)
def zq28 (t : Timetable) (x : Trip) : Option (Line) :=
 (idx t.Network.Lines x.Line).bind fun e =>
 some e
def ye8 (r : Line) : Int × (List Int) -> Option (Lp (Int × (List Int)) ((List Int)))
 | (v, a) =>
  if (decide (v < (r.Runs.length : Int))) = true then
   (idx r.Runs v).bind fun e =>
   (idx a v).bind fun b =>
   (chk (a.length + ([(w64 (b + e))] : List Int).length <= 4294967296)).bind fun u =>
   some (.nx ((w64 (v + 1)), (a ++ ([(w64 (b + e))] : List Int))))
  else
   some (.dn a)
def zq29 (t : Timetable) (x : Trip) : Option ((List Int)) :=
 (zq28 t x).bind fun r =>
 (iter (ye8 r) ((0 : Int), ([x.Start] : List Int))).bind fun (a : List Int) =>
 some a
def yar (a : List Int) (b : List Int) : Int -> Option (Lp (Int) (Fl (Int) (Unit)))
 | v =>
  if (decide (v < (a.length : Int))) = true then
   (idx a v).bind fun e =>
   if (decide ((b.length : Int) <= v)) = true then
    some (.dn (.ret 1))
   else
    (idx b v).bind fun d =>
    (zq0 e d).bind fun c =>
    if (c != 0) = true then
     some (.dn (.ret c))
    else
     some (.nx (w64 (v + 1)))
  else
   some (.dn (.go ()))
def zq95 (a : List Int) (b : List Int) : Option (Int) :=
 flb (iter (yar a b) (0 : Int)) fun (_ : Unit) =>
 if (decide ((a.length : Int) < (b.length : Int))) = true then
  some (-1)
 else
  some 0
def zq14 (a : A2_Int) (b : A2_Int) : Option (Int) :=
 (zq95 ([a.X0, a.X1] : List Int) ([b.X0, b.X1] : List Int)).bind fun c =>
 some c
def yii (a : Int) (cmp : A2_Int -> A2_Int -> Option (Int)) : Int × (List A2_Int) -> Option (Lp (Int × (List A2_Int)) ((List A2_Int)))
 | (c, b) =>
  (if (decide (a < c)) = true then (idx b c).bind fun e =>
  (idx b (w64 (c - 1))).bind fun f =>
  (cmp e f).bind fun g =>
  some (decide (g < 0)) else some false).bind fun (h : Bool) =>
  if h = true then
   (idx b (w64 (c - 1))).bind fun d =>
   (idx b c).bind fun i =>
   (idx b c).bind fun j =>
   (idx (b.set c.toNat d) (w64 (c - 1))).bind fun k =>
   some (.nx ((w64 (c - 1)), ((b.set c.toNat d).set (w64 (c - 1)).toNat i)))
  else
   some (.dn b)
def yih (a : Int) (b : Int) (cmp : A2_Int -> A2_Int -> Option (Int)) : Int × (List A2_Int) -> Option (Lp (Int × (List A2_Int)) ((List A2_Int)))
 | (v, c) =>
  if (decide (v < b)) = true then
   (iter (yii a cmp) (v, c)).bind fun (d : List A2_Int) =>
   some (.nx ((w64 (v + 1)), d))
  else
   some (.dn c)
def yqu (data : List A2_Int) (a : Int) (b : Int) (cmp : A2_Int -> A2_Int -> Option (Int)) : Option ((List A2_Int)) :=
 iter (yih a b cmp) ((w64 (a + 1)), data)
def yqt (data : List A2_Int) (a : Int) (b : Int) : Option ((List A2_Int)) :=
 yqu data a b (fun (z0 : A2_Int) (z1 : A2_Int) => zq14 z0 z1)
def yhh (hi : Int) (first : Int) (cmp : A2_Int -> A2_Int -> Option (Int)) : Int × (List A2_Int) -> Option (Lp (Int × (List A2_Int)) ((List A2_Int)))
 | (v, a) =>
  if (decide (hi <= (w64 ((w64 (2 * v)) + 1)))) = true then
   some (.dn a)
  else
   ((if (decide ((w64 ((w64 ((w64 (2 * v)) + 1)) + 1)) < hi)) = true then (idx a (w64 (first + (w64 ((w64 (2 * v)) + 1))))).bind fun e =>
   (idx a (w64 ((w64 (first + (w64 ((w64 (2 * v)) + 1)))) + 1))).bind fun f =>
   (cmp e f).bind fun g =>
   some (decide (g < 0)) else some false).bind fun (h : Bool) =>
   if h = true then
    some (w64 ((w64 ((w64 (2 * v)) + 1)) + 1))
   else
    some (w64 ((w64 (2 * v)) + 1))).bind fun (b : Int) =>
   (idx a (w64 (first + v))).bind fun i =>
   (idx a (w64 (first + b))).bind fun j =>
   (cmp i j).bind fun k =>
   if (!(decide (k < 0))) = true then
    some (.dn a)
   else
    (idx a (w64 (first + b))).bind fun c =>
    (idx a (w64 (first + v))).bind fun d =>
    (idx a (w64 (first + v))).bind fun l =>
    (idx (a.set (w64 (first + v)).toNat c) (w64 (first + b))).bind fun m =>
    some (.nx (b, ((a.set (w64 (first + v)).toNat c).set (w64 (first + b)).toNat d)))
def ykx (data : List A2_Int) (lo : Int) (hi : Int) (first : Int) (cmp : A2_Int -> A2_Int -> Option (Int)) : Option ((List A2_Int)) :=
 iter (yhh hi first cmp) (lo, data)
def ymk (data : List A2_Int) (lo : Int) (hi : Int) (first : Int) : Option ((List A2_Int)) :=
 ykx data lo hi first (fun (z0 : A2_Int) (z1 : A2_Int) => zq14 z0 z1)
def yim (a : Int) (b : Int) (cmp : A2_Int -> A2_Int -> Option (Int)) : Int × (List A2_Int) -> Option (Lp (Int × (List A2_Int)) ((List A2_Int)))
 | (v, c) =>
  if (decide (0 <= v)) = true then
   (ykx c v (w64 (b - a)) a cmp).bind fun r =>
   some (.nx ((w64 (v - 1)), r))
  else
   some (.dn c)
def yil (a : Int) (cmp : A2_Int -> A2_Int -> Option (Int)) : Int × (List A2_Int) -> Option (Lp (Int × (List A2_Int)) ((List A2_Int)))
 | (c, b) =>
  if (decide (0 <= c)) = true then
   (idx b (w64 (a + c))).bind fun d =>
   (idx b a).bind fun e =>
   (idx b a).bind fun g =>
   (idx (b.set a.toNat d) (w64 (a + c))).bind fun h =>
   (ykx ((b.set a.toNat d).set (w64 (a + c)).toNat e) 0 c a cmp).bind fun f =>
   some (.nx ((w64 (c - 1)), f))
  else
   some (.dn b)
def yqy (data : List A2_Int) (a : Int) (b : Int) (cmp : A2_Int -> A2_Int -> Option (Int)) : Option ((List A2_Int)) :=
 (chk ((2 : Int) ≠ 0)).bind fun u =>
 (iter (yim a b cmp) ((w64 ((w64 ((w64 (b - a)) - 1)).tdiv 2)), data)).bind fun (c : List A2_Int) =>
 iter (yil a cmp) ((w64 ((w64 (b - a)) - 1)), c)
def yqx (data : List A2_Int) (a : Int) (b : Int) : Option ((List A2_Int)) :=
 yqy data a b (fun (z0 : A2_Int) (z1 : A2_Int) => zq14 z0 z1)
def yiz (data : List A2_Int) (a : Int) (b : Int) (swaps : Int) (cmp : A2_Int -> A2_Int -> Option (Int)) : Option (Int × Int × Int) :=
 (idx data b).bind fun c =>
 (idx data a).bind fun d =>
 (cmp c d).bind fun e =>
 if (decide (e < 0)) = true then
  some (b, a, (w64 (swaps + 1)))
 else
  some (a, b, swaps)
def yk2 (data : List A2_Int) (a : Int) (b : Int) (swaps : Int) : Option (Int × Int × Int) :=
 yiz data a b swaps (fun (z0 : A2_Int) (z1 : A2_Int) => zq14 z0 z1)
def yk4 (data : List A2_Int) (a : Int) (b : Int) (c : Int) (swaps : Int) (cmp : A2_Int -> A2_Int -> Option (Int)) : Option (Int × Int) :=
 (yiz data a b swaps cmp).bind fun r =>
 (yiz data r.2.1 c r.2.2 cmp).bind fun d =>
 (yiz data r.1 d.1 d.2.2 cmp).bind fun e =>
 some (e.2.1, e.2.2)
def ym1 (data : List A2_Int) (a : Int) (b : Int) (c : Int) (swaps : Int) : Option (Int × Int) :=
 yk4 data a b c swaps (fun (z0 : A2_Int) (z1 : A2_Int) => zq14 z0 z1)
def yi1 (data : List A2_Int) (a : Int) (swaps : Int) (cmp : A2_Int -> A2_Int -> Option (Int)) : Option (Int × Int) :=
 (yk4 data (w64 (a - 1)) a (w64 (a + 1)) swaps cmp).bind fun r =>
 some (r.1, r.2)
def yk6 (data : List A2_Int) (a : Int) (swaps : Int) : Option (Int × Int) :=
 yi1 data a swaps (fun (z0 : A2_Int) (z1 : A2_Int) => zq14 z0 z1)
def yq3 (data : List A2_Int) (a : Int) (b : Int) (cmp : A2_Int -> A2_Int -> Option (Int)) : Option (Int × Int) :=
 (chk ((4 : Int) ≠ 0)).bind fun u =>
 (chk ((4 : Int) ≠ 0)).bind fun k =>
 (chk ((4 : Int) ≠ 0)).bind fun l =>
 (if (decide (8 <= (w64 (b - a)))) = true then
  (if (decide (50 <= (w64 (b - a)))) = true then
   (yi1 data (w64 (a + (w64 ((w64 ((w64 (b - a)).tdiv 4)) * 1)))) 0 cmp).bind fun r =>
   (yi1 data (w64 (a + (w64 ((w64 ((w64 (b - a)).tdiv 4)) * 2)))) r.2 cmp).bind fun c =>
   (yi1 data (w64 (a + (w64 ((w64 ((w64 (b - a)).tdiv 4)) * 3)))) c.2 cmp).bind fun d =>
   some (r.1, c.1, d.1, d.2)
  else
   some ((w64 (a + (w64 ((w64 ((w64 (b - a)).tdiv 4)) * 1)))), (w64 (a + (w64 ((w64 ((w64 (b - a)).tdiv 4)) * 2)))), (w64 (a + (w64 ((w64 ((w64 (b - a)).tdiv 4)) * 3)))), (0 : Int))).bind fun ((g, h, i, j) : Int × Int × Int × Int) =>
  (yk4 data g h i j cmp).bind fun e =>
  some (e.1, e.2)
 else
  some ((w64 (a + (w64 ((w64 ((w64 (b - a)).tdiv 4)) * 2)))), (0 : Int))).bind fun ((v, f) : Int × Int) =>
 if (f == 0) = true then
  some (v, 1)
 else
  if (f == 12) = true then
   some (v, 2)
  else
   some (v, 0)
def yq2 (data : List A2_Int) (a : Int) (b : Int) : Option (Int × Int) :=
 yq3 data a b (fun (z0 : A2_Int) (z1 : A2_Int) => zq14 z0 z1)
def yhj : Int × Int × (List A2_Int) -> Option (Lp (Int × Int × (List A2_Int)) ((List A2_Int)))
 | (v, b, a) =>
  if (decide (v < b)) = true then
   (idx a b).bind fun c =>
   (idx a v).bind fun d =>
   (idx a v).bind fun e =>
   (idx (a.set v.toNat c) b).bind fun f =>
   some (.nx ((w64 (v + 1)), (w64 (b - 1)), ((a.set v.toNat c).set b.toNat d)))
  else
   some (.dn a)
def yqa (data : List A2_Int) (a : Int) (b : Int) (cmp : A2_Int -> A2_Int -> Option (Int)) : Option ((List A2_Int)) :=
 iter (yhj) (a, (w64 (b - 1)), data)
def yp9 (data : List A2_Int) (a : Int) (b : Int) : Option ((List A2_Int)) :=
 yqa data a b (fun (z0 : A2_Int) (z1 : A2_Int) => zq14 z0 z1)
def yh8 (b : Int) (cmp : A2_Int -> A2_Int -> Option (Int)) (a : List A2_Int) : Int -> Option (Lp (Int) (Int))
 | c =>
  (if (decide (c < b)) = true then (idx a c).bind fun d =>
  (idx a (w64 (c - 1))).bind fun e =>
  (cmp d e).bind fun f =>
  some (!(decide (f < 0))) else some false).bind fun (g : Bool) =>
  if g = true then
   some (.nx (w64 (c + 1)))
  else
   some (.dn c)
def yh7 (cmp : A2_Int -> A2_Int -> Option (Int)) : Int × (List A2_Int) -> Option (Lp (Int × (List A2_Int)) ((List A2_Int)))
 | (b, a) =>
  if (decide (1 <= b)) = true then
   (idx a b).bind fun d =>
   (idx a (w64 (b - 1))).bind fun e =>
   (cmp d e).bind fun g =>
   if (!(decide (g < 0))) = true then
    some (.dn a)
   else
    (idx a (w64 (b - 1))).bind fun c =>
    (idx a b).bind fun f =>
    (idx a b).bind fun h =>
    (idx (a.set b.toNat c) (w64 (b - 1))).bind fun i =>
    some (.nx ((w64 (b - 1)), ((a.set b.toNat c).set (w64 (b - 1)).toNat f)))
  else
   some (.dn a)
def yh6 (b : Int) (cmp : A2_Int -> A2_Int -> Option (Int)) : Int × (List A2_Int) -> Option (Lp (Int × (List A2_Int)) ((List A2_Int)))
 | (c, a) =>
  if (decide (c < b)) = true then
   (idx a c).bind fun e =>
   (idx a (w64 (c - 1))).bind fun f =>
   (cmp e f).bind fun h =>
   if (!(decide (h < 0))) = true then
    some (.dn a)
   else
    (idx a (w64 (c - 1))).bind fun d =>
    (idx a c).bind fun g =>
    (idx a c).bind fun i =>
    (idx (a.set c.toNat d) (w64 (c - 1))).bind fun j =>
    some (.nx ((w64 (c + 1)), ((a.set c.toNat d).set (w64 (c - 1)).toNat g)))
  else
   some (.dn a)
def yh5 (a : Int) (b : Int) (cmp : A2_Int -> A2_Int -> Option (Int)) : Int × Int × (List A2_Int) -> Option (Lp (Int × Int × (List A2_Int)) (Fl (Bool × (List A2_Int)) ((List A2_Int))))
 | (v, k, c) =>
  if (decide (k < 5)) = true then
   flb ((iter (yh8 b cmp c) v).bind fun (d : Int) =>
   if (d == b) = true then
    some (.ret (.dn (.ret (true, c))))
   else
    if (decide ((w64 (b - a)) < 50)) = true then
     some (.ret (.dn (.ret (false, c))))
    else
     (idx c (w64 (d - 1))).bind fun f =>
     (idx c d).bind fun j =>
     (idx c d).bind fun l =>
     (idx (c.set d.toNat f) (w64 (d - 1))).bind fun m =>
     (if (decide (2 <= (w64 (d - a)))) = true then
      (iter (yh7 cmp) ((w64 (d - 1)), ((c.set d.toNat f).set (w64 (d - 1)).toNat j))).bind fun (g : List A2_Int) =>
      some g
     else
      some ((c.set d.toNat f).set (w64 (d - 1)).toNat j)).bind fun (e : List A2_Int) =>
     if (decide (2 <= (w64 (b - d)))) = true then
      (iter (yh6 b cmp) ((w64 (d + 1)), e)).bind fun (h : List A2_Int) =>
      some (.go (d, h))
     else
      some (.go (d, e))) fun ((n, i) : Int × (List A2_Int)) =>
   some (.nx (n, (w64 (k + 1)), i))
  else
   some (.dn (.go c))
def yqo (data : List A2_Int) (a : Int) (b : Int) (cmp : A2_Int -> A2_Int -> Option (Int)) : Option (Bool × (List A2_Int)) :=
 flb (iter (yh5 a b cmp) ((w64 (a + 1)), (0 : Int), data)) fun (c : List A2_Int) =>
 some (false, c)
def yqn (data : List A2_Int) (a : Int) (b : Int) : Option (Bool × (List A2_Int)) :=
 yqo data a b (fun (z0 : A2_Int) (z1 : A2_Int) => zq14 z0 z1)
def yhr (a : Int) (cmp : A2_Int -> A2_Int -> Option (Int)) (f : Int) (b : List A2_Int) : Int -> Option (Lp (Int) (Int))
 | c =>
  (if (decide (c <= f)) = true then (idx b a).bind fun d =>
  (idx b c).bind fun e =>
  (cmp d e).bind fun g =>
  some (!(decide (g < 0))) else some false).bind fun (h : Bool) =>
  if h = true then
   some (.nx (w64 (c + 1)))
  else
   some (.dn c)
def yhq (a : Int) (cmp : A2_Int -> A2_Int -> Option (Int)) (b : List A2_Int) (f : Int) : Int -> Option (Lp (Int) (Int))
 | c =>
  (if (decide (f <= c)) = true then (idx b a).bind fun d =>
  (idx b c).bind fun e =>
  (cmp d e).bind fun g =>
  some (decide (g < 0)) else some false).bind fun (h : Bool) =>
  if h = true then
   some (.nx (w64 (c - 1)))
  else
   some (.dn c)
def yhp (a : Int) (cmp : A2_Int -> A2_Int -> Option (Int)) : Int × Int × (List A2_Int) -> Option (Lp (Int × Int × (List A2_Int)) (Int × (List A2_Int)))
 | (v, g, b) =>
  (iter (yhr a cmp g b) v).bind fun (c : Int) =>
  (iter (yhq a cmp b c) g).bind fun (d : Int) =>
  if (decide (d < c)) = true then
   some (.dn (c, b))
  else
   (idx b d).bind fun e =>
   (idx b c).bind fun f =>
   (idx b c).bind fun h =>
   (idx (b.set c.toNat e) d).bind fun i =>
   some (.nx ((w64 (c + 1)), (w64 (d - 1)), ((b.set c.toNat e).set d.toNat f)))
def yqg (data : List A2_Int) (a : Int) (b : Int) (pivot : Int) (cmp : A2_Int -> A2_Int -> Option (Int)) : Option (Int × (List A2_Int)) :=
 (idx data pivot).bind fun d =>
 (idx data a).bind fun e =>
 (idx data a).bind fun g =>
 (idx (data.set a.toNat d) pivot).bind fun h =>
 (iter (yhp a cmp) ((w64 (a + 1)), (w64 (b - 1)), ((data.set a.toNat d).set pivot.toNat e))).bind fun ((f, c) : Int × (List A2_Int)) =>
 some (f, c)
def yqf (data : List A2_Int) (a : Int) (b : Int) (pivot : Int) : Option (Int × (List A2_Int)) :=
 yqg data a b pivot (fun (z0 : A2_Int) (z1 : A2_Int) => zq14 z0 z1)
def yhz (data : List A2_Int) (a : Int) (b : Int) (pivot : Int) (cmp : A2_Int -> A2_Int -> Option (Int)) (e : A2_Int) (f : A2_Int) : Int -> Option (Lp (Int) (Int))
 | v =>
  (if (decide (v <= (w64 (b - 1)))) = true then (idx ((data.set a.toNat e).set pivot.toNat f) v).bind fun c =>
  (idx ((data.set a.toNat e).set pivot.toNat f) a).bind fun d =>
  (cmp c d).bind fun g =>
  some (decide (g < 0)) else some false).bind fun (h : Bool) =>
  if h = true then
   some (.nx (w64 (v + 1)))
  else
   some (.dn v)
def yhy (data : List A2_Int) (a : Int) (pivot : Int) (cmp : A2_Int -> A2_Int -> Option (Int)) (e : A2_Int) (f : A2_Int) (g : Int) : Int -> Option (Lp (Int) (Int))
 | b =>
  (if (decide (g <= b)) = true then (idx ((data.set a.toNat e).set pivot.toNat f) b).bind fun c =>
  (idx ((data.set a.toNat e).set pivot.toNat f) a).bind fun d =>
  (cmp c d).bind fun h =>
  some (!(decide (h < 0))) else some false).bind fun (i : Bool) =>
  if i = true then
   some (.nx (w64 (b - 1)))
  else
   some (.dn b)
def yhx (a : Int) (cmp : A2_Int -> A2_Int -> Option (Int)) (f : Int) (b : List A2_Int) : Int -> Option (Lp (Int) (Int))
 | c =>
  (if (decide (c <= f)) = true then (idx b c).bind fun d =>
  (idx b a).bind fun e =>
  (cmp d e).bind fun g =>
  some (decide (g < 0)) else some false).bind fun (h : Bool) =>
  if h = true then
   some (.nx (w64 (c + 1)))
  else
   some (.dn c)
def yhw (a : Int) (cmp : A2_Int -> A2_Int -> Option (Int)) (b : List A2_Int) (d : Int) : Int -> Option (Lp (Int) (Int))
 | c =>
  (if (decide (d <= c)) = true then (idx b c).bind fun e =>
  (idx b a).bind fun f =>
  (cmp e f).bind fun h =>
  some (!(decide (h < 0))) else some false).bind fun (g : Bool) =>
  if g = true then
   some (.nx (w64 (c - 1)))
  else
   some (.dn c)
def yhv (a : Int) (cmp : A2_Int -> A2_Int -> Option (Int)) : Int × Int × (List A2_Int) -> Option (Lp (Int × Int × (List A2_Int)) (Int × (List A2_Int)))
 | (h, g, b) =>
  (iter (yhx a cmp g b) h).bind fun (c : Int) =>
  (iter (yhw a cmp b c) g).bind fun (d : Int) =>
  if (decide (d < c)) = true then
   some (.dn (d, b))
  else
   (idx b d).bind fun e =>
   (idx b c).bind fun f =>
   (idx b c).bind fun i =>
   (idx (b.set c.toNat e) d).bind fun j =>
   some (.nx ((w64 (c + 1)), (w64 (d - 1)), ((b.set c.toNat e).set d.toNat f)))
def yqk (data : List A2_Int) (a : Int) (b : Int) (pivot : Int) (cmp : A2_Int -> A2_Int -> Option (Int)) : Option (Int × Bool × (List A2_Int)) :=
 (idx data pivot).bind fun d =>
 (idx data a).bind fun e =>
 (idx data a).bind fun v =>
 (idx (data.set a.toNat d) pivot).bind fun w =>
 (iter (yhz data a b pivot cmp d e) (w64 (a + 1))).bind fun (h : Int) =>
 (iter (yhy data a pivot cmp d e h) (w64 (b - 1))).bind fun (g : Int) =>
 if (decide (g < h)) = true then
  (idx ((data.set a.toNat d).set pivot.toNat e) a).bind fun i =>
  (idx ((data.set a.toNat d).set pivot.toNat e) g).bind fun l =>
  (idx ((data.set a.toNat d).set pivot.toNat e) g).bind fun o =>
  (idx (((data.set a.toNat d).set pivot.toNat e).set g.toNat i) a).bind fun q =>
  some (g, true, ((((data.set a.toNat d).set pivot.toNat e).set g.toNat i).set a.toNat l))
 else
  (idx ((data.set a.toNat d).set pivot.toNat e) g).bind fun j =>
  (idx ((data.set a.toNat d).set pivot.toNat e) h).bind fun m =>
  (idx ((data.set a.toNat d).set pivot.toNat e) h).bind fun r =>
  (idx (((data.set a.toNat d).set pivot.toNat e).set h.toNat j) g).bind fun s =>
  (iter (yhv a cmp) ((w64 (h + 1)), (w64 (g - 1)), ((((data.set a.toNat d).set pivot.toNat e).set h.toNat j).set g.toNat m))).bind fun ((f, c) : Int × (List A2_Int)) =>
  (idx c a).bind fun k =>
  (idx c f).bind fun n =>
  (idx c f).bind fun t =>
  (idx (c.set f.toNat k) a).bind fun u =>
  some (f, false, ((c.set f.toNat k).set a.toNat n))
def yqj (data : List A2_Int) (a : Int) (b : Int) (pivot : Int) : Option (Int × Bool × (List A2_Int)) :=
 yqk data a b pivot (fun (z0 : A2_Int) (z1 : A2_Int) => zq14 z0 z1)
def yip (a : Int) (b : Int) (r : (IK .u64)) : Int × (List A2_Int) × Int -> Option (Lp (Int × (List A2_Int) × Int) ((List A2_Int)))
 | (v, c, g) =>
  (chk ((4 : Int) ≠ 0)).bind fun i =>
  if (decide (v <= (w64 ((w64 (a + (w64 ((w64 ((w64 (b - a)).tdiv 4)) * 2)))) + 1)))) = true then
   (ya9 (⟨g⟩ : IK .u64)).bind fun d =>
   (if (decide ((w64 (b - a)) <= (w64 ((IntKind.u64.wrap ((BitVec.ofInt (IntKind.u64).bits d.1.v &&& BitVec.ofInt (IntKind.u64).bits (IntKind.u64.wrap (r.v - 1))).toNat : Int)))))) = true then
    some (w64 ((w64 ((IntKind.u64.wrap ((BitVec.ofInt (IntKind.u64).bits d.1.v &&& BitVec.ofInt (IntKind.u64).bits (IntKind.u64.wrap (r.v - 1))).toNat : Int)))) - (w64 (b - a))))
   else
    some (w64 ((IntKind.u64.wrap ((BitVec.ofInt (IntKind.u64).bits d.1.v &&& BitVec.ofInt (IntKind.u64).bits (IntKind.u64.wrap (r.v - 1))).toNat : Int))))).bind fun (e : Int) =>
   (idx c (w64 (a + e))).bind fun f =>
   (idx c v).bind fun h =>
   (idx c v).bind fun j =>
   (idx (c.set v.toNat f) (w64 (a + e))).bind fun k =>
   some (.nx ((w64 (v + 1)), ((c.set v.toNat f).set (w64 (a + e)).toNat h), d.2.v))
  else
   some (.dn c)
def yq7 (data : List A2_Int) (a : Int) (b : Int) (cmp : A2_Int -> A2_Int -> Option (Int)) : Option ((List A2_Int)) :=
 if (decide (8 <= (w64 (b - a)))) = true then
  (ybc (w64 (b - a))).bind fun r =>
  (chk ((4 : Int) ≠ 0)).bind fun u =>
  iter (yip a b r) ((w64 ((w64 (a + (w64 ((w64 ((w64 (b - a)).tdiv 4)) * 2)))) - 1)), data, (IntKind.u64.wrap ((w64 (b - a)))))
 else
  some data
def yq6 (data : List A2_Int) (a : Int) (b : Int) : Option ((List A2_Int)) :=
 yq7 data a b (fun (z0 : A2_Int) (z1 : A2_Int) => zq14 z0 z1)
def yhm (rec_ : (List A2_Int) -> Int -> Int -> Int -> Option ((List A2_Int))) : Int × Int × Int × Bool × Bool × (List A2_Int) -> Option (Lp (Int × Int × Int × Bool × Bool × (List A2_Int)) ((List A2_Int)))
 | (a1, b1, limit1, mid, mid1, b) =>
  if (decide ((w64 (b1 - a1)) <= 12)) = true then
   (yqt b a1 b1).bind fun r =>
   some (.dn r)
  else
   if (limit1 == 0) = true then
    (yqx b a1 b1).bind fun l =>
    some (.dn l)
   else
    (if (!mid) = true then
     (yq6 b a1 b1).bind fun m =>
     some ((w64 (limit1 - 1)), m)
    else
     some (limit1, b)).bind fun ((limit2, d) : Int × (List A2_Int)) =>
    (yq2 d a1 b1).bind fun g =>
    (if (g.2 == 2) = true then
     (yp9 d a1 b1).bind fun n =>
     some ((w64 ((w64 (b1 - 1)) - (w64 (g.1 - a1)))), (1 : Int), n)
    else
     some (g.1, g.2, d)).bind fun ((leftLen, rightLen, e) : Int × Int × (List A2_Int)) =>
    flb ((if mid = true then if mid1 = true then some (rightLen == 1) else some false else some false).bind fun (v : Bool) =>
    if v = true then
     (yqn e a1 b1).bind fun h =>
     if h.1 = true then
      some (.ret (.dn h.2))
     else
      some (.go h.2)
    else
     some (.go e)) fun (c : List A2_Int) =>
    (if (decide (0 < a1)) = true then (idx c (w64 (a1 - 1))).bind fun o =>
    (idx c leftLen).bind fun q =>
    (zq14 o q).bind fun i =>
    some (!(decide (i < 0))) else some false).bind fun (s : Bool) =>
    if s = true then
     (yqf c a1 b1 leftLen).bind fun f =>
     some (.nx (f.1, b1, limit2, mid, mid1, f.2))
    else
     (yqj c a1 b1 leftLen).bind fun a =>
     (chk ((8 : Int) ≠ 0)).bind fun u =>
     if (decide ((w64 (a.1 - a1)) < (w64 (b1 - a.1)))) = true then
      (rec_ a.2.2 a1 a.1 limit2).bind fun j =>
      some (.nx ((w64 (a.1 + 1)), b1, limit2, (decide ((w64 ((w64 (b1 - a1)).tdiv 8)) <= (w64 (a.1 - a1)))), a.2.1, j))
     else
      (rec_ a.2.2 (w64 (a.1 + 1)) b1 limit2).bind fun k =>
      some (.nx (a1, a.1, limit2, (decide ((w64 ((w64 (b1 - a1)).tdiv 8)) <= (w64 (b1 - a.1)))), a.2.1, k))
def yba (rec_ : (List A2_Int) -> Int -> Int -> Int -> Option ((List A2_Int))) (data : List A2_Int) (a : Int) (b : Int) (limit : Int) : Option ((List A2_Int)) :=
 iter (yhm rec_) (a, b, limit, true, true, data)
def yb2 : Nat -> (List A2_Int) -> Int -> Int -> Int -> Option ((List A2_Int))
 | 0 => fun _ _ _ _ => none
 | n + 1 => yba (yb2 n)
def ymq (data : List A2_Int) (a : Int) (b : Int) (limit : Int) : Option ((List A2_Int)) := yb2 4294967296 data a b limit
def yfy (x : List A2_Int) : Option ((List A2_Int)) :=
 (zq36 (⟨(IntKind.u64.wrap ((x.length : Int)))⟩ : IK .u64)).bind fun r =>
 (ymq x 0 (x.length : Int) r).bind fun a =>
 some a
def ydj (t : Timetable) (stop : Int) : Int × (List A2_Int) -> Option (Lp (Int × (List A2_Int)) ((List A2_Int)))
 | (v, x) =>
  if (decide (v < (t.Trips.length : Int))) = true then
   ((idx t.Trips v).bind fun e =>
   (zq28 t e).bind fun r =>
   (yf2 r.Stops stop).bind fun a =>
   if (decide (0 <= a)) = true then
    (zq29 t e).bind fun c =>
    (idx c a).bind fun b =>
    (chk (x.length + ([(⟨b, e.Id⟩ : A2_Int)] : List A2_Int).length <= 4294967296)).bind fun f =>
    some (x ++ ([(⟨b, e.Id⟩ : A2_Int)] : List A2_Int))
   else
    some x).bind fun (d : List A2_Int) =>
   some (.nx ((w64 (v + 1)), d))
  else
   some (.dn x)
def zq13 (t : Timetable) (stop : Int) : Option ((List A2_Int)) :=
 (iter (ydj t stop) ((0 : Int), ([] : List A2_Int))).bind fun (a : List A2_Int) =>
 (yfy a).bind fun b =>
 some b
def ybr (a : List A2_Int) (d : List A2_Int) : Int -> Option (Lp (Int) (Fl (Bool) (Unit)))
 | v =>
  if (decide (v < (a.length : Int))) = true then
   (idx a v).bind fun b =>
   (idx d v).bind fun c =>
   if (!((b.X0 == c.X0) && ((b.X1 == c.X1) && true))) = true then
    some (.dn (.ret false))
   else
    some (.nx (w64 (v + 1)))
  else
   some (.dn (.go ()))
def yf6 (a : List A2_Int) (b : List A2_Int) : Option (Bool) :=
 if ((a.length : Int) != (b.length : Int)) = true then
  some false
 else
  flb (iter (ybr a b) (0 : Int)) fun (_ : Unit) =>
  some true
def ycm (t : Timetable) (r : Timetable × Bool) : Int × (List Int) -> Option (Lp (Int × (List Int)) ((List Int)))
 | (v, a) =>
  if (decide (v < (t.Network.Stops.length : Int))) = true then
   ((zq13 t v).bind fun b =>
   (zq13 r.1 v).bind fun c =>
   (yf6 b c).bind fun d =>
   if (!d) = true then
    (chk (a.length + ([v] : List Int).length <= 4294967296)).bind fun u =>
    some (a ++ ([v] : List Int))
   else
    some a).bind fun (e : List Int) =>
   some (.nx ((w64 (v + 1)), e))
  else
   some (.dn a)
def zq3 (t : Timetable) (list : List Change) : Option ((List Int) × Bool) :=
 (zq2 t list).bind fun r =>
 if (!r.2) = true then
  some (([] : List Int), false)
 else
  (iter (ycm t r) ((0 : Int), ([] : List Int))).bind fun (a : List Int) =>
  some (a, true)
def yey (t : Timetable) (stop : Int) : Int × (List Int) -> Option (Lp (Int × (List Int)) ((List Int)))
 | (v, k) =>
  if (decide (v < (t.Trips.length : Int))) = true then
   ((zq86 t v).bind fun r =>
   (zq79 r stop).bind fun a =>
   if (decide (0 <= a)) = true then
    (idx t.Trips v).bind fun b =>
    (zq82 t v a).bind fun c =>
    (chk (k.length + ([b.Id, c] : List Int).length <= 4294967296)).bind fun e =>
    some (k ++ ([b.Id, c] : List Int))
   else
    some k).bind fun (d : List Int) =>
   some (.nx ((w64 (v + 1)), d))
  else
   some (.dn k)
def zq67 (t : Timetable) (stop : Int) : Option ((List Int)) :=
 (iter (yey t stop) ((0 : Int), ([] : List Int))).bind fun (a : List Int) =>
 some a
def yc2 (a : List Int) (b : List Int) : Int -> Option (Lp (Int) (Fl (Bool) (Unit)))
 | v =>
  if (decide (v < (a.length : Int))) = true then
   (idx a v).bind fun c =>
   (idx b v).bind fun d =>
   if (c != d) = true then
    some (.dn (.ret false))
   else
    some (.nx (w64 (v + 1)))
  else
   some (.dn (.go ()))
def zq65 (a : List Int) (b : List Int) : Option (Bool) :=
 if ((a.length : Int) != (b.length : Int)) = true then
  some false
 else
  flb (iter (yc2 a b) (0 : Int)) fun (_ : Unit) =>
  some true
def yc8 (t : Timetable) (b : Timetable × Bool) : Int × (List Int) -> Option (Lp (Int × (List Int)) ((List Int)))
 | (v, a) =>
  if (decide (v < (t.Network.Stops.length : Int))) = true then
   ((zq67 t v).bind fun c =>
   (zq67 (⟨(⟨b.1.Network.Stops, b.1.Network.Lines⟩ : Network), b.1.Trips⟩ : Timetable) v).bind fun d =>
   (zq65 c d).bind fun e =>
   if (!e) = true then
    (chk (a.length + ([v] : List Int).length <= 4294967296)).bind fun u =>
    some (a ++ ([v] : List Int))
   else
    some a).bind fun (f : List Int) =>
   some (.nx ((w64 (v + 1)), f))
  else
   some (.dn a)
def zq38 (t : Timetable) (list : List Change) : Option ((List Int) × Bool) :=
 (zq41 t list).bind fun r =>
 if (!r) = true then
  some (([] : List Int), false)
 else
  (zq66 t list).bind fun a =>
  (iter (yc8 t a) ((0 : Int), ([] : List Int))).bind fun (b : List Int) =>
  some (b, true)
def yak (code : List UInt8) : Option (Bool) :=
 (ykw code).bind fun r =>
 if r = true then
  some true
 else
  (zq40 code).bind fun a =>
  (zq9 a.1 a.2.1 a.2.2).bind fun b =>
  (zq9 a.1 a.2.2 a.2.1).bind fun g =>
  (zq42 a.1 a.2.1 a.2.2).bind fun h =>
  (if (!(b.2 == h.2)) = true then some true else (yfc b.1 h.1).bind fun j =>
  if (!j) = true then some true else if (!(g.2 == b.2)) = true then some true else (yfc g.1 b.1).bind fun k =>
  some (!k)).bind fun (v : Bool) =>
  if v = true then
   some false
  else
   (zq4 a.1 a.2.1 a.2.2).bind fun e =>
   (zq39 a.1 a.2.1 a.2.2).bind fun i =>
   (if (!(e.2 == i.2)) = true then some true else (yfb e.1 i.1).bind fun l =>
   some (!l)).bind fun (m : Bool) =>
   if m = true then
    some false
   else
    if (!b.2) = true then
     some ((b.1.length : Int) == 0)
    else
     (zq3 a.1 b.1).bind fun c =>
     (zq38 a.1 b.1).bind fun d =>
     (if e.2 = true then if ((e.1.length : Int) == 0) = true then if (decide ((a.2.1.length : Int) <= (b.1.length : Int))) = true then if (decide ((a.2.2.length : Int) <= (b.1.length : Int))) = true then if (decide ((b.1.length : Int) <= (w64 ((a.2.1.length : Int) + (a.2.2.length : Int))))) = true then if (c.2 == d.2) = true then (yfb c.1 d.1).bind fun f =>
     some f else some false else some false else some false else some false else some false else some false).bind fun (t : Bool) =>
     some t
end
end Go.Proofs.YtmmffjenpfeapaaGreat
