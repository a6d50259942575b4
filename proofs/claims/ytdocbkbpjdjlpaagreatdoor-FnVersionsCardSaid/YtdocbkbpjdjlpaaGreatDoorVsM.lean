/- Models of the functions that the law reaches: plain Lean; none where the function would panic or not end. Made by program (dec.py). -/
import Derived.Test.YtdocbkbpjdjlpaaGreatDoorAbC0
import Derived.Test.YtdocbkbpjdjlpaaGreatDoorAbIns
import Derived.Test.YtdocbkbpjdjlpaaGreatDoorAbDel
import Derived.Test.YtdocbkbpjdjlpaaGreatDoorAbStr2
import Derived.Test.YtdocbkbpjdjlpaaGreatDoorAbBld
namespace Go.Proofs.YtdocbkbpjdjlpaaGreatDoor
open Go Go.Ab
set_option maxRecDepth 100000
set_option maxHeartbeats 4000000
set_option linter.unusedVariables false
set_option linter.unusedSimpArgs false
noncomputable section
structure l1Cur where
 code_ : List UInt8
 at_ : Int
 seed_ : IK .u64
instance enc_l1Cur : Enc l1Cur := ⟨3, fun x => .agg [Enc.e x.code_, .sc (.int .i64 x.at_), .sc (.int .u64 x.seed_.v)], fun a b h => by
 simp only [D.agg.injEq, List.cons.injEq, and_true] at h
 obtain ⟨a1, a2, a3⟩ := a
 obtain ⟨b1, b2, b3⟩ := b
 obtain ⟨h1, h2, h3⟩ := h
 have q1 := Enc.inj (α := List UInt8) a1 b1 h1
 have q2 := Enc.inj (α := Int) a2 b2 h2
 have q3 := Enc.inj (α := IK .u64) a3 b3 h3
 subst q1; subst q2; subst q3; rfl⟩
structure Line where
 Name : ByteArray
 Stops : List Int
 Runs : List Int
instance enc_Line : Enc Line := ⟨3, fun x => .agg [.sc (.string x.Name), Enc.e x.Stops, Enc.e x.Runs], fun a b h => by
 simp only [D.agg.injEq, List.cons.injEq, and_true] at h
 obtain ⟨a1, a2, a3⟩ := a
 obtain ⟨b1, b2, b3⟩ := b
 obtain ⟨h1, h2, h3⟩ := h
 have q1 := Enc.inj (α := ByteArray) a1 b1 h1
 have q2 := Enc.inj (α := List Int) a2 b2 h2
 have q3 := Enc.inj (α := List Int) a3 b3 h3
 subst q1; subst q2; subst q3; rfl⟩
structure Network where
 Stops : List ByteArray
 Lines : List Line
instance enc_Network : Enc Network := ⟨2, fun x => .agg [Enc.e x.Stops, Enc.e x.Lines], fun a b h => by
 simp only [D.agg.injEq, List.cons.injEq, and_true] at h
 obtain ⟨a1, a2⟩ := a
 obtain ⟨b1, b2⟩ := b
 obtain ⟨h1, h2⟩ := h
 have q1 := Enc.inj (α := List ByteArray) a1 b1 h1
 have q2 := Enc.inj (α := List Line) a2 b2 h2
 subst q1; subst q2; rfl⟩
structure Trip where
 Id : Int
 Line : Int
 Start : Int
instance enc_Trip : Enc Trip := ⟨3, fun x => .agg [.sc (.int .i64 x.Id), .sc (.int .i64 x.Line), .sc (.int .i64 x.Start)], fun a b h => by
 simp only [D.agg.injEq, List.cons.injEq, and_true] at h
 obtain ⟨a1, a2, a3⟩ := a
 obtain ⟨b1, b2, b3⟩ := b
 obtain ⟨h1, h2, h3⟩ := h
 have q1 := Enc.inj (α := Int) a1 b1 h1
 have q2 := Enc.inj (α := Int) a2 b2 h2
 have q3 := Enc.inj (α := Int) a3 b3 h3
 subst q1; subst q2; subst q3; rfl⟩
structure Timetable where
 Network : Network
 Trips : List Trip
instance enc_Timetable : Enc Timetable := ⟨3, fun x => .agg [Enc.e x.Network.Stops, Enc.e x.Network.Lines, Enc.e x.Trips], fun a b h => by
 simp only [D.agg.injEq, List.cons.injEq, and_true] at h
 obtain ⟨⟨a1, a2⟩, a3⟩ := a
 obtain ⟨⟨b1, b2⟩, b3⟩ := b
 obtain ⟨h1, h2, h3⟩ := h
 have q1 := Enc.inj (α := List ByteArray) a1 b1 h1
 have q2 := Enc.inj (α := List Line) a2 b2 h2
 have q3 := Enc.inj (α := List Trip) a3 b3 h3
 subst q1; subst q2; subst q3; rfl⟩
structure Change where
 Kind : Int
 Trip : Trip
 To : Int
instance enc_Change : Enc Change := ⟨5, fun x => .agg [.sc (.int .i64 x.Kind), .sc (.int .i64 x.Trip.Id), .sc (.int .i64 x.Trip.Line), .sc (.int .i64 x.Trip.Start), .sc (.int .i64 x.To)], fun a b h => by
 simp only [D.agg.injEq, List.cons.injEq, and_true] at h
 obtain ⟨a1, ⟨a2, a3, a4⟩, a5⟩ := a
 obtain ⟨b1, ⟨b2, b3, b4⟩, b5⟩ := b
 obtain ⟨h1, h2, h3, h4, h5⟩ := h
 have q1 := Enc.inj (α := Int) a1 b1 h1
 have q2 := Enc.inj (α := Int) a2 b2 h2
 have q3 := Enc.inj (α := Int) a3 b3 h3
 have q4 := Enc.inj (α := Int) a4 b4 h4
 have q5 := Enc.inj (α := Int) a5 b5 h5
 subst q1; subst q2; subst q3; subst q4; subst q5; rfl⟩
instance : BxE l1Cur := ⟨fun x y h => Enc.inj x y (congrArg D.agg h)⟩
instance : BxE Line := ⟨fun x y h => Enc.inj x y (congrArg D.agg h)⟩
instance : BxE Network := ⟨fun x y h => Enc.inj x y (congrArg D.agg h)⟩
instance : BxE Trip := ⟨fun x y h => Enc.inj x y (congrArg D.agg h)⟩
instance : BxE Timetable := ⟨fun x y h => Enc.inj x y (congrArg D.agg h)⟩
instance : BxE Change := ⟨fun x y h => Enc.inj x y (congrArg D.agg h)⟩
instance : FlatEnc Trip := ⟨fun _ => jdu rfl⟩
instance : FlatEnc Change := ⟨fun _ => jdu rfl⟩
def ykb (code : List UInt8) : Option (Bool) :=
 some (decide (65536 < (code.length : Int)))
def zq43 (c : l1Cur) : Option (Int × l1Cur) :=
 (if (decide (c.at_ < (c.code_.length : Int))) = true then
  (idx c.code_ c.at_).bind fun e1 =>
  some (w64 ((e1.toNat : Int)))
 else
  some (0 : Int)).bind fun (v : Int) =>
 if (decide ((w64 (c.at_ + 1)) <= (c.code_.length : Int))) = true then
  some (v, (⟨c.code_, (w64 (c.at_ + 1)), (⟨(IntKind.u64.wrap ((IntKind.u64.wrap ((IntKind.u64.wrap (c.seed_.v * 6364136223846793005)) + (IntKind.u64.wrap (v)))) + 900900))⟩ : IK .u64)⟩ : l1Cur))
 else
  (chk ((0 : Int) <= 40)).bind fun u =>
  some ((w64 ((IntKind.u64.wrap ((BitVec.ofInt (IntKind.u64).bits ((IntKind.u64.wrap ((IntKind.u64.wrap ((IntKind.u64.wrap (c.seed_.v * 6364136223846793005)) + (IntKind.u64.wrap (v)))) + 900900)).fdiv (2 ^ (min (40 : Int).toNat (IntKind.u64).bits))) &&& BitVec.ofInt (IntKind.u64).bits 255).toNat : Int)))), (⟨c.code_, (w64 (c.at_ + 1)), (⟨(IntKind.u64.wrap ((IntKind.u64.wrap ((IntKind.u64.wrap (c.seed_.v * 6364136223846793005)) + (IntKind.u64.wrap (v)))) + 900900))⟩ : IK .u64)⟩ : l1Cur))
def zq47 (c : l1Cur) (n : Int) : Option (Int × l1Cur) :=
 if (decide (n <= 1)) = true then
  some (0, c)
 else
  (zq43 c).bind fun r =>
  (if (decide (200 < n)) = true then
   (zq43 r.2).bind fun r1 =>
   some ((w64 ((w64 (r.1 * 256)) + r1.1)), r1.2.code_, r1.2.at_, r1.2.seed_.v)
  else
   some (r.1, r.2.code_, r.2.at_, r.2.seed_.v)).bind fun ((v, v1, v2, v3) : Int × (List UInt8) × Int × Int) =>
  (chk ((n : Int) ≠ 0)).bind fun u =>
  some ((v.tmod n), (⟨v1, v2, (⟨v3⟩ : IK .u64)⟩ : l1Cur))
def zq46 (c : l1Cur) (n : Int) : Option (Bool × l1Cur) :=
 (zq47 c n).bind fun r =>
 some ((r.1 == 0), r.2)
def ya0 (rec_ : Int -> Option (ByteArray)) (n : Int) : Option (ByteArray) :=
 if (decide (n < 0)) = true then
  (rec_ (w64 (0 - n))).bind fun r =>
  (chk ((str [45]).size + r.size <= 4294967296)).bind fun u =>
  some ((str [45]) ++ r)
 else
  if (decide (n < 10)) = true then
   (chk ((0 : Int) <= n /\ (n : Int) <= (w64 (n + 1)) /\ (w64 (n + 1)) <= ((str [48, 49, 50, 51, 52, 53, 54, 55, 56, 57]).size : Int))).bind fun u1 =>
   some ((str [48, 49, 50, 51, 52, 53, 54, 55, 56, 57]).extract n.toNat (w64 (n + 1)).toNat)
  else
   (chk ((10 : Int) ≠ 0)).bind fun u7 =>
   (rec_ (w64 (n.tdiv 10))).bind fun r2 =>
   (chk ((10 : Int) ≠ 0)).bind fun u8 =>
   (chk ((10 : Int) ≠ 0)).bind fun u9 =>
   (chk ((0 : Int) <= (n.tmod 10) /\ ((n.tmod 10) : Int) <= (w64 ((n.tmod 10) + 1)) /\ (w64 ((n.tmod 10) + 1)) <= ((str [48, 49, 50, 51, 52, 53, 54, 55, 56, 57]).size : Int))).bind fun u10 =>
   (chk (r2.size + ((str [48, 49, 50, 51, 52, 53, 54, 55, 56, 57]).extract (n.tmod 10).toNat (w64 ((n.tmod 10) + 1)).toNat).size <= 4294967296)).bind fun u11 =>
   some (r2 ++ ((str [48, 49, 50, 51, 52, 53, 54, 55, 56, 57]).extract (n.tmod 10).toNat (w64 ((n.tmod 10) + 1)).toNat))
def ybw : Nat -> Int -> Option (ByteArray)
 | 0 => fun _ => none
 | n + 1 => ya0 (ybw n)
def zq53 (n : Int) : Option (ByteArray) := ybw 4294967296 n
def yc8 (x : Line) (stop : Int) : Int -> Option (Lp (Int) (Fl (Int) (Unit)))
 | v =>
  if (decide (v < (x.Stops.length : Int))) = true then
   (idx x.Stops v).bind fun e =>
   if (e == stop) = true then
    some (.dn (.ret v))
   else
    some (.nx (w64 (v + 1)))
  else
   some (.dn (.go ()))
def zq66 (x : Line) (stop : Int) : Option (Int) :=
 flb (iter (yc8 x stop) (0 : Int)) fun (_ : Unit) =>
 some (-1)
def ydl (name : ByteArray) (stops : Int) : Int × Int × (List UInt8) × Int × Int × (List Int) -> Option (Lp (Int × Int × (List UInt8) × Int × Int × (List Int)) ((List UInt8) × Int × Int × (List Int)))
 | (v, v1, v2, v3, v4, v5) =>
  if (decide (0 < v1)) = true then
   ((zq66 (⟨name, v5, ([] : List Int)⟩ : Line) v).bind fun r2 =>
   if (decide (r2 < 0)) = true then
    (chk (v5.length + ([v] : List Int).length <= 4294967296)).bind fun u =>
    some (v5 ++ ([v] : List Int))
   else
    some v5).bind fun (v6 : List Int) =>
   (zq47 (⟨v2, v3, (⟨v4⟩ : IK .u64)⟩ : l1Cur) 2).bind fun r3 =>
   (chk ((stops : Int) ≠ 0)).bind fun u1 =>
   some (.nx (((w64 ((w64 (v + 1)) + r3.1)).tmod stops), (w64 (v1 - 1)), r3.2.code_, r3.2.at_, r3.2.seed_.v, v6))
  else
   some (.dn (v2, v3, v4, v5))
def ydk (v11 : List Int) : Int × (List UInt8) × Int × Int × (List Int) -> Option (Lp (Int × (List UInt8) × Int × Int × (List Int)) ((List UInt8) × Int × Int × (List Int)))
 | (v12, v13, v14, v15, v16) =>
  if (decide (v12 < (v11.length : Int))) = true then
   (zq47 (⟨v13, v14, (⟨v15⟩ : IK .u64)⟩ : l1Cur) 12).bind fun r5 =>
   (chk (v16.length + ([(w64 (3 + r5.1))] : List Int).length <= 4294967296)).bind fun u7 =>
   some (.nx ((w64 (v12 + 1)), r5.2.code_, r5.2.at_, r5.2.seed_.v, (v16 ++ ([(w64 (3 + r5.1))] : List Int))))
  else
   some (.dn (v13, v14, v15, v16))
def zq39 (c : l1Cur) (name : ByteArray) (stops : Int) : Option (Line × l1Cur) :=
 (zq47 c stops).bind fun r =>
 (zq47 r.2 3).bind fun r1 =>
 (iter (ydl name stops) (r.1, (w64 (2 + r1.1)), r1.2.code_, r1.2.at_, r1.2.seed_.v, ([] : List Int))).bind fun ((v7, v8, v9, v10) : (List UInt8) × Int × Int × (List Int)) =>
 (if (decide ((v10.length : Int) < 2)) = true then
  (idx v10 0).bind fun e1 =>
  (chk ((stops : Int) ≠ 0)).bind fun u4 =>
  (chk (v10.length + ([((w64 (e1 + 1)).tmod stops)] : List Int).length <= 4294967296)).bind fun u5 =>
  some (v10 ++ ([((w64 (e1 + 1)).tmod stops)] : List Int))
 else
  some v10).bind fun (v11 : List Int) =>
 (iter (ydk v11) ((1 : Int), v7, v8, v9, ([] : List Int))).bind fun ((v17, v18, v19, v20) : (List UInt8) × Int × Int × (List Int)) =>
 some ((⟨name, v11, v20⟩ : Line), (⟨v17, v18, (⟨v19⟩ : IK .u64)⟩ : l1Cur))
def yjp (name : ByteArray) (stops : Int) : Int × Int × (List UInt8) × Int × Int × (List Int) -> Option (Lp (Int × Int × (List UInt8) × Int × Int × (List Int)) ((List UInt8) × Int × Int × (List Int)))
 | (v, v1, v2, v3, v4, v5) =>
  if (decide (0 < v1)) = true then
   ((zq66 (⟨name, v5, ([] : List Int)⟩ : Line) v).bind fun r2 =>
   if (decide (r2 < 0)) = true then
    (chk (v5.length + ([v] : List Int).length <= 4294967296)).bind fun u =>
    some (v5 ++ ([v] : List Int))
   else
    some v5).bind fun (v6 : List Int) =>
   (zq47 (⟨v2, v3, (⟨v4⟩ : IK .u64)⟩ : l1Cur) 2).bind fun r3 =>
   (chk ((stops : Int) ≠ 0)).bind fun u1 =>
   some (.nx (((w64 ((w64 (v + 1)) + r3.1)).tmod stops), (w64 (v1 - 1)), r3.2.code_, r3.2.at_, r3.2.seed_.v, v6))
  else
   some (.dn (v2, v3, v4, v5))
def yjo (v11 : List Int) : Int × (List UInt8) × Int × Int × (List Int) -> Option (Lp (Int × (List UInt8) × Int × Int × (List Int)) ((List UInt8) × Int × Int × (List Int)))
 | (v12, v13, v14, v15, v16) =>
  if (decide (v12 < (v11.length : Int))) = true then
   (zq47 (⟨v13, v14, (⟨v15⟩ : IK .u64)⟩ : l1Cur) 12).bind fun r5 =>
   (chk (v16.length + ([(w64 (3 + r5.1))] : List Int).length <= 4294967296)).bind fun u7 =>
   some (.nx ((w64 (v12 + 1)), r5.2.code_, r5.2.at_, r5.2.seed_.v, (v16 ++ ([(w64 (3 + r5.1))] : List Int))))
  else
   some (.dn (v13, v14, v15, v16))
def zq40 (c : l1Cur) (name : ByteArray) (stops : Int) : Option (Line × l1Cur) :=
 (zq47 c stops).bind fun r =>
 (zq47 r.2 3).bind fun r1 =>
 (iter (yjp name stops) (r.1, (w64 (2 + r1.1)), r1.2.code_, r1.2.at_, r1.2.seed_.v, ([] : List Int))).bind fun ((v7, v8, v9, v10) : (List UInt8) × Int × Int × (List Int)) =>
 (if (decide ((v10.length : Int) < 2)) = true then
  (idx v10 0).bind fun e1 =>
  (chk ((stops : Int) ≠ 0)).bind fun u4 =>
  (chk (v10.length + ([((w64 (e1 + 1)).tmod stops)] : List Int).length <= 4294967296)).bind fun u5 =>
  some (v10 ++ ([((w64 (e1 + 1)).tmod stops)] : List Int))
 else
  some v10).bind fun (v11 : List Int) =>
 (iter (yjo v11) ((1 : Int), v7, v8, v9, ([] : List Int))).bind fun ((v17, v18, v19, v20) : (List UInt8) × Int × Int × (List Int)) =>
 some ((⟨name, v11, v20⟩ : Line), (⟨v17, v18, (⟨v19⟩ : IK .u64)⟩ : l1Cur))
def ydg (list : List Int) : Int × (List Int) -> Option (Lp (Int × (List Int)) ((List Int)))
 | (v, i) =>
  if (decide (0 <= v)) = true then
   (idx list v).bind fun e =>
   (chk (i.length + ([e] : List Int).length <= 4294967296)).bind fun u =>
   some (.nx ((w64 (v - 1)), (i ++ ([e] : List Int))))
  else
   some (.dn i)
def zq57 (list : List Int) : Option ((List Int)) :=
 (iter (ydg list) ((w64 ((list.length : Int) - 1)), ([] : List Int))).bind fun (i1 : List Int) =>
 some i1
def yje (list : List Int) : Int × (List Int) -> Option (Lp (Int × (List Int)) ((List Int)))
 | (v, i) =>
  if (decide (0 <= v)) = true then
   (idx list v).bind fun e =>
   (chk (i.length + ([e] : List Int).length <= 4294967296)).bind fun u =>
   some (.nx ((w64 (v - 1)), (i ++ ([e] : List Int))))
  else
   some (.dn i)
def zq58 (list : List Int) : Option ((List Int)) :=
 (iter (yje list) ((w64 ((list.length : Int) - 1)), ([] : List Int))).bind fun (i1 : List Int) =>
 some i1
def zq54 (l : List Int) : Option ((List Int)) :=
 (chk (([] : List Int).length + l.length <= 4294967296)).bind fun u =>
 some (([] : List Int) ++ l)
def zq55 (l : List Int) : Option ((List Int)) :=
 (chk (([] : List Int).length + l.length <= 4294967296)).bind fun u =>
 some (([] : List Int) ++ l)
def yc9 (n : Network) : Int × (List Line) -> Option (Lp (Int × (List Line)) ((List Line)))
 | (v, v1) =>
  if (decide (v < (n.Lines.length : Int))) = true then
   (idx n.Lines v).bind fun e3 =>
   (idx n.Lines v).bind fun e4 =>
   (zq55 e4.Stops).bind fun r2 =>
   (idx n.Lines v).bind fun e5 =>
   (zq55 e5.Runs).bind fun r3 =>
   (chk (v1.length + ([(⟨e3.Name, r2, r3⟩ : Line)] : List Line).length <= 4294967296)).bind fun u2 =>
   some (.nx ((w64 (v + 1)), (v1 ++ ([(⟨e3.Name, r2, r3⟩ : Line)] : List Line))))
  else
   some (.dn v1)
def zq64 (n : Network) : Option (Network) :=
 (chk (([] : List ByteArray).length + n.Stops.length <= 4294967296)).bind fun u =>
 (iter (yc9 n) ((0 : Int), ([] : List Line))).bind fun (v2 : List Line) =>
 some (⟨(([] : List ByteArray) ++ n.Stops), v2⟩ : Network)
def yjm (r : Int × l1Cur) : Int × (List UInt8) × Int × Int × (List Line) -> Option (Lp (Int × (List UInt8) × Int × Int × (List Line)) ((List UInt8) × Int × Int × (List Line)))
 | (x, v, v1, v2, v3) =>
  if (decide (0 < x)) = true then
   (zq53 x).bind fun r4 =>
   (chk ((str [108]).size + r4.size <= 4294967296)).bind fun u3 =>
   (zq40 (⟨v, v1, (⟨v2⟩ : IK .u64)⟩ : l1Cur) ((str [108]) ++ r4) (w64 (2 + r.1))).bind fun r5 =>
   (chk (v3.length + ([r5.1] : List Line).length <= 4294967296)).bind fun u4 =>
   some (.nx ((w64 (x - 1)), r5.2.code_, r5.2.at_, r5.2.seed_.v, (v3 ++ ([r5.1] : List Line))))
  else
   some (.dn (v, v1, v2, v3))
def zq41 (c : l1Cur) : Option (Network × l1Cur) :=
 (zq47 c 5).bind fun r =>
 (chk ((0 : Int) <= 0 /\ (0 : Int) <= (w64 (2 + r.1)) /\ (w64 (2 + r.1)) <= (([(str [112, 111, 114, 116]), (str [109, 105, 108, 108]), (str [112, 97, 114, 107]), (str [104, 97, 108, 108]), (str [100, 111, 99, 107]), (str [102, 97, 105, 114])] : List ByteArray).length : Int))).bind fun u =>
 (zq47 r.2 3).bind fun r1 =>
 (iter (yjm r) ((w64 (1 + r1.1)), r1.2.code_, r1.2.at_, r1.2.seed_.v, ([] : List Line))).bind fun ((v4, v5, v6, v7) : (List UInt8) × Int × Int × (List Line)) =>
 ((zq46 (⟨v4, v5, (⟨v6⟩ : IK .u64)⟩ : l1Cur) 2).bind fun r6 =>
 if r6.1 = true then
  (idx v7 0).bind fun e =>
  (zq58 e.Stops).bind fun r9 =>
  (zq58 e.Runs).bind fun r10 =>
  (chk (v7.length + ([(⟨(str [114, 49]), r9, r10⟩ : Line)] : List Line).length <= 4294967296)).bind fun u6 =>
  some (r6.2.code_, r6.2.at_, r6.2.seed_.v, (v7 ++ ([(⟨(str [114, 49]), r9, r10⟩ : Line)] : List Line)))
 else
  some (r6.2.code_, r6.2.at_, r6.2.seed_.v, v7)).bind fun ((v8, v9, v10, v11) : (List UInt8) × Int × Int × (List Line)) =>
 (zq64 (⟨((([(str [112, 111, 114, 116]), (str [109, 105, 108, 108]), (str [112, 97, 114, 107]), (str [104, 97, 108, 108]), (str [100, 111, 99, 107]), (str [102, 97, 105, 114])] : List ByteArray).take (w64 (2 + r.1)).toNat).drop (0 : Int).toNat), v11⟩ : Network)).bind fun r11 =>
 some ((⟨r11.Stops, r11.Lines⟩ : Network), (⟨v8, v9, (⟨v10⟩ : IK .u64)⟩ : l1Cur))
def yft (r : Network × l1Cur) : Int × Int × (List UInt8) × Int × Int × (List Trip) -> Option (Lp (Int × Int × (List UInt8) × Int × Int × (List Trip)) ((List UInt8) × Int × Int × (List Trip)))
 | (n, v, v1, v2, v3, v4) =>
  if (decide (0 < v)) = true then
   (zq47 (⟨v1, v2, (⟨v3⟩ : IK .u64)⟩ : l1Cur) 3).bind fun r2 =>
   (zq47 r2.2 (r.1.Lines.length : Int)).bind fun r5 =>
   (zq47 r5.2 24).bind fun r6 =>
   (chk (v4.length + ([(⟨(w64 ((w64 (n + 1)) + r2.1)), r5.1, (w64 (360 + (w64 (5 * r6.1))))⟩ : Trip)] : List Trip).length <= 4294967296)).bind fun u1 =>
   some (.nx ((w64 ((w64 (n + 1)) + r2.1)), (w64 (v - 1)), r6.2.code_, r6.2.at_, r6.2.seed_.v, (v4 ++ ([(⟨(w64 ((w64 (n + 1)) + r2.1)), r5.1, (w64 (360 + (w64 (5 * r6.1))))⟩ : Trip)] : List Trip))))
  else
   some (.dn (v1, v2, v3, v4))
def zq49 (c : l1Cur) : Option (Timetable × l1Cur) :=
 (zq41 c).bind fun r =>
 (zq47 r.2 8).bind fun r1 =>
 (iter (yft r) ((0 : Int), r1.1, r1.2.code_, r1.2.at_, r1.2.seed_.v, ([] : List Trip))).bind fun ((v5, v6, v7, v8) : (List UInt8) × Int × Int × (List Trip)) =>
 some ((⟨(⟨r.1.Stops, r.1.Lines⟩ : Network), v8⟩ : Timetable), (⟨v5, v6, (⟨v7⟩ : IK .u64)⟩ : l1Cur))
def zq34 (c : l1Cur) (list : List Int) : Option (Int × l1Cur) :=
 (zq47 c (list.length : Int)).bind fun r =>
 (idx list r.1).bind fun e =>
 some (e, r.2)
def zq44 (c : l1Cur) (list : List ByteArray) : Option (ByteArray × l1Cur) :=
 (zq47 c (list.length : Int)).bind fun r =>
 (idx list r.1).bind fun e =>
 some (e, r.2)
def zq45 (c : l1Cur) (list : List ByteArray) : Option (ByteArray × l1Cur) :=
 (zq47 c (list.length : Int)).bind fun r =>
 (idx list r.1).bind fun e =>
 some (e, r.2)
def yi8 (n : Network) : Int × (List Line) -> Option (Lp (Int × (List Line)) ((List Line)))
 | (v, v1) =>
  if (decide (v < (n.Lines.length : Int))) = true then
   (idx n.Lines v).bind fun e3 =>
   (idx n.Lines v).bind fun e4 =>
   (zq54 e4.Stops).bind fun r2 =>
   (idx n.Lines v).bind fun e5 =>
   (zq54 e5.Runs).bind fun r3 =>
   (chk (v1.length + ([(⟨e3.Name, r2, r3⟩ : Line)] : List Line).length <= 4294967296)).bind fun u2 =>
   some (.nx ((w64 (v + 1)), (v1 ++ ([(⟨e3.Name, r2, r3⟩ : Line)] : List Line))))
  else
   some (.dn v1)
def zq65 (n : Network) : Option (Network) :=
 (chk (([] : List ByteArray).length + n.Stops.length <= 4294967296)).bind fun u =>
 (iter (yi8 n) ((0 : Int), ([] : List Line))).bind fun (v2 : List Line) =>
 some (⟨(([] : List ByteArray) ++ n.Stops), v2⟩ : Network)
def ydj (r : Int × l1Cur) : Int × (List UInt8) × Int × Int × (List Line) -> Option (Lp (Int × (List UInt8) × Int × Int × (List Line)) ((List UInt8) × Int × Int × (List Line)))
 | (x, v, v1, v2, v3) =>
  if (decide (0 < x)) = true then
   (zq53 x).bind fun r4 =>
   (chk ((str [108]).size + r4.size <= 4294967296)).bind fun u3 =>
   (zq40 (⟨v, v1, (⟨v2⟩ : IK .u64)⟩ : l1Cur) ((str [108]) ++ r4) (w64 (2 + r.1))).bind fun r5 =>
   (chk (v3.length + ([r5.1] : List Line).length <= 4294967296)).bind fun u4 =>
   some (.nx ((w64 (x - 1)), r5.2.code_, r5.2.at_, r5.2.seed_.v, (v3 ++ ([r5.1] : List Line))))
  else
   some (.dn (v, v1, v2, v3))
def zq42 (c : l1Cur) : Option (Network × l1Cur) :=
 (zq47 c 5).bind fun r =>
 (chk ((0 : Int) <= 0 /\ (0 : Int) <= (w64 (2 + r.1)) /\ (w64 (2 + r.1)) <= (([(str [112, 111, 114, 116]), (str [109, 105, 108, 108]), (str [112, 97, 114, 107]), (str [104, 97, 108, 108]), (str [100, 111, 99, 107]), (str [102, 97, 105, 114])] : List ByteArray).length : Int))).bind fun u =>
 (zq47 r.2 3).bind fun r1 =>
 (iter (ydj r) ((w64 (1 + r1.1)), r1.2.code_, r1.2.at_, r1.2.seed_.v, ([] : List Line))).bind fun ((v4, v5, v6, v7) : (List UInt8) × Int × Int × (List Line)) =>
 ((zq46 (⟨v4, v5, (⟨v6⟩ : IK .u64)⟩ : l1Cur) 2).bind fun r6 =>
 if r6.1 = true then
  (idx v7 0).bind fun e =>
  (zq58 e.Stops).bind fun r9 =>
  (zq58 e.Runs).bind fun r10 =>
  (chk (v7.length + ([(⟨(str [114, 49]), r9, r10⟩ : Line)] : List Line).length <= 4294967296)).bind fun u6 =>
  some (r6.2.code_, r6.2.at_, r6.2.seed_.v, (v7 ++ ([(⟨(str [114, 49]), r9, r10⟩ : Line)] : List Line)))
 else
  some (r6.2.code_, r6.2.at_, r6.2.seed_.v, v7)).bind fun ((v8, v9, v10, v11) : (List UInt8) × Int × Int × (List Line)) =>
 (zq65 (⟨((([(str [112, 111, 114, 116]), (str [109, 105, 108, 108]), (str [112, 97, 114, 107]), (str [104, 97, 108, 108]), (str [100, 111, 99, 107]), (str [102, 97, 105, 114])] : List ByteArray).take (w64 (2 + r.1)).toNat).drop (0 : Int).toNat), v11⟩ : Network)).bind fun r11 =>
 some ((⟨r11.Stops, r11.Lines⟩ : Network), (⟨v8, v9, (⟨v10⟩ : IK .u64)⟩ : l1Cur))
def zq35 (c : l1Cur) (list : List Int) : Option (Int × l1Cur) :=
 (zq47 c (list.length : Int)).bind fun r =>
 (idx list r.1).bind fun e =>
 some (e, r.2)
def ydm (r : Network × l1Cur) : Int × (List UInt8) × Int × Int × (List Line) -> Option (Lp (Int × (List UInt8) × Int × Int × (List Line)) ((List UInt8) × Int × Int × (List Line)))
 | (v7, v8, v9, v10, v11) =>
  (zq47 (⟨v8, v9, (⟨v10⟩ : IK .u64)⟩ : l1Cur) 2).bind fun r16 =>
  (if (decide ((v11.length : Int) < (w64 (5 + r16.1)))) = true then some (decide (v7 < 7)) else some false).bind fun (v12 : Bool) =>
  if v12 = true then
   (zq53 v7).bind fun r19 =>
   (chk ((str [120]).size + r19.size <= 4294967296)).bind fun u3 =>
   (zq39 r16.2 ((str [120]) ++ r19) (r.1.Stops.length : Int)).bind fun r20 =>
   (chk (v11.length + ([(⟨r20.1.Name, r20.1.Stops, r20.1.Runs⟩ : Line)] : List Line).length <= 4294967296)).bind fun u4 =>
   some (.nx ((w64 (v7 + 1)), r20.2.code_, r20.2.at_, r20.2.seed_.v, (v11 ++ ([(⟨r20.1.Name, r20.1.Stops, r20.1.Runs⟩ : Line)] : List Line))))
  else
   some (.dn (r16.2.code_, r16.2.at_, r16.2.seed_.v, v11))
def zq36 (c : l1Cur) : Option (Network × l1Cur) :=
 (zq42 c).bind fun r =>
 (zq47 r.2 (r.1.Lines.length : Int)).bind fun r1 =>
 (idx r.1.Lines r1.1).bind fun e =>
 flb ((zq47 r1.2 24).bind fun r2 =>
 if (r2.1 == 0) = true then
  (zq45 r2.2 ([(str [109, 105, 108, 108]), (str []), (str [65]), (str [97, 98, 99, 100, 101, 102, 103, 104]), (str [97, 98, 99, 100, 101, 102, 103, 104, 105])] : List ByteArray)).bind fun r4 =>
  (idx r.1.Stops 0).bind fun e2 =>
  some (.go (r4.2.code_, r4.2.at_, r4.2.seed_.v, e.Name, (r.1.Stops.set (0 : Int).toNat r4.1), r.1.Lines, e.Runs))
 else
  if (r2.1 == 1) = true then
   (zq45 r2.2 ([(str [114, 49]), (str [108, 49]), (str []), (str [88])] : List ByteArray)).bind fun r5 =>
   some (.go (r5.2.code_, r5.2.at_, r5.2.seed_.v, r5.1, r.1.Stops, r.1.Lines, e.Runs))
  else
   if (r2.1 == 2) = true then
    (zq47 r2.2 (e.Stops.length : Int)).bind fun r8 =>
    (zq47 r8.2 10).bind fun r9 =>
    (idx e.Stops r8.1).bind fun e4 =>
    some (.go (r9.2.code_, r9.2.at_, r9.2.seed_.v, e.Name, r.1.Stops, (r.1.Lines.set r1.1.toNat (⟨e.Name, (e.Stops.set r8.1.toNat (w64 (r9.1 - 1))), e.Runs⟩ : Line)), ((⟨e.Name, (e.Stops.set r8.1.toNat (w64 (r9.1 - 1))), e.Runs⟩ : Line).Runs)))
   else
    if (r2.1 == 3) = true then
     (zq47 r2.2 (e.Runs.length : Int)).bind fun r12 =>
     (zq35 r12.2 ([0, 60, 61, (-1)] : List Int)).bind fun r13 =>
     (idx e.Runs r12.1).bind fun e6 =>
     some (.go (r13.2.code_, r13.2.at_, r13.2.seed_.v, e.Name, r.1.Stops, (r.1.Lines.set r1.1.toNat (⟨e.Name, e.Stops, (e.Runs.set r12.1.toNat r13.1)⟩ : Line)), ((⟨e.Name, e.Stops, (e.Runs.set r12.1.toNat r13.1)⟩ : Line).Runs)))
    else
     if (r2.1 == 4) = true then
      (chk (e.Runs.length + ([3] : List Int).length <= 4294967296)).bind fun u =>
      some (.go (r2.2.code_, r2.2.at_, r2.2.seed_.v, e.Name, r.1.Stops, r.1.Lines, (e.Runs ++ ([3] : List Int))))
     else
      if (r2.1 == 5) = true then
       some (.ret ((⟨r.1.Stops, ([] : List Line)⟩ : Network), r2.2))
      else
       if (r2.1 == 6) = true then
        (iter (ydm r) ((0 : Int), r2.2.code_, r2.2.at_, r2.2.seed_.v, r.1.Lines)).bind fun ((v13, v14, v15, v16) : (List UInt8) × Int × Int × (List Line)) =>
        some (.ret ((⟨r.1.Stops, v16⟩ : Network), (⟨v13, v14, (⟨v15⟩ : IK .u64)⟩ : l1Cur)))
       else
        some (.go (r2.2.code_, r2.2.at_, r2.2.seed_.v, e.Name, r.1.Stops, r.1.Lines, e.Runs))) fun ((v, v1, v2, v3, v4, v5, v6) : (List UInt8) × Int × Int × ByteArray × (List ByteArray) × (List Line) × (List Int)) =>
 (idx v5 r1.1).bind fun e9 =>
 some ((⟨v4, (v5.set r1.1.toNat (⟨v3, e9.Stops, v6⟩ : Line))⟩ : Network), (⟨v, v1, (⟨v2⟩ : IK .u64)⟩ : l1Cur))
def yfv : Int × (List UInt8) × Int × Int × (List Trip) -> Option (Lp (Int × (List UInt8) × Int × Int × (List Trip)) ((List UInt8) × Int × Int × (List Trip)))
 | (v8, v9, v10, v11, v12) =>
  (zq47 (⟨v9, v10, (⟨v11⟩ : IK .u64)⟩ : l1Cur) 2).bind fun r8 =>
  (if (decide ((v12.length : Int) < (w64 (12 + r8.1)))) = true then some (decide (v8 < 14)) else some false).bind fun (v13 : Bool) =>
  if v13 = true then
   (chk (v12.length + ([(⟨(w64 (100 + v8)), 0, (w64 (400 + v8))⟩ : Trip)] : List Trip).length <= 4294967296)).bind fun u =>
   some (.nx ((w64 (v8 + 1)), r8.2.code_, r8.2.at_, r8.2.seed_.v, (v12 ++ ([(⟨(w64 (100 + v8)), 0, (w64 (400 + v8))⟩ : Trip)] : List Trip))))
  else
   some (.dn (r8.2.code_, r8.2.at_, r8.2.seed_.v, v12))
def zq37 (c : l1Cur) : Option (Timetable × l1Cur) :=
 (zq49 c).bind fun r =>
 if ((r.1.Trips.length : Int) == 0) = true then
  some ((⟨(⟨r.1.Network.Stops, r.1.Network.Lines⟩ : Network), r.1.Trips⟩ : Timetable), r.2)
 else
  (zq47 r.2 (r.1.Trips.length : Int)).bind fun r1 =>
  (idx r.1.Trips r1.1).bind fun e =>
  flb ((zq47 r1.2 24).bind fun r2 =>
  if (r2.1 == 0) = true then
   (zq34 r2.2 ([0, 999, 1000, 2] : List Int)).bind fun r3 =>
   some (.go (r3.2.code_, r3.2.at_, r3.2.seed_.v, r.1.Network.Lines, r3.1, e.Line, e.Start, r.1.Network.Stops))
  else
   if (r2.1 == 1) = true then
    (zq47 r2.2 7).bind fun r4 =>
    some (.go (r4.2.code_, r4.2.at_, r4.2.seed_.v, r.1.Network.Lines, e.Id, (w64 (r4.1 - 1)), e.Start, r.1.Network.Stops))
   else
    if (r2.1 == 2) = true then
     (zq34 r2.2 ([(-1), 0, 1799, 1798, 1800] : List Int)).bind fun r5 =>
     some (.go (r5.2.code_, r5.2.at_, r5.2.seed_.v, r.1.Network.Lines, e.Id, e.Line, r5.1, r.1.Network.Stops))
    else
     if (r2.1 == 3) = true then
      (zq36 r2.2).bind fun r6 =>
      some (.go (r6.2.code_, r6.2.at_, r6.2.seed_.v, r6.1.Lines, e.Id, e.Line, e.Start, r6.1.Stops))
     else
      if (r2.1 == 4) = true then
       (iter (yfv) ((0 : Int), r2.2.code_, r2.2.at_, r2.2.seed_.v, r.1.Trips)).bind fun ((v14, v15, v16, v17) : (List UInt8) × Int × Int × (List Trip)) =>
       some (.ret ((⟨(⟨r.1.Network.Stops, r.1.Network.Lines⟩ : Network), v17⟩ : Timetable), (⟨v14, v15, (⟨v16⟩ : IK .u64)⟩ : l1Cur)))
      else
       some (.go (r2.2.code_, r2.2.at_, r2.2.seed_.v, r.1.Network.Lines, e.Id, e.Line, e.Start, r.1.Network.Stops))) fun ((v, v1, v2, v3, v4, v5, v6, v7) : (List UInt8) × Int × Int × (List Line) × Int × Int × Int × (List ByteArray)) =>
  (idx r.1.Trips r1.1).bind fun e2 =>
  some ((⟨(⟨v7, v3⟩ : Network), (r.1.Trips.set r1.1.toNat (⟨v4, v5, v6⟩ : Trip))⟩ : Timetable), (⟨v, v1, (⟨v2⟩ : IK .u64)⟩ : l1Cur))
def zq52 (a : Int) (b : Int) : Option (Int) :=
 if (decide (b < a)) = true then
  some a
 else
  some b
def yfs (r2 : Network × l1Cur) : Int × (List UInt8) × Int × Int × (List Trip) -> Option (Lp (Int × (List UInt8) × Int × Int × (List Trip)) ((List UInt8) × Int × Int × (List Trip)))
 | (i, v, v1, v2, v3) =>
  if (decide (0 < i)) = true then
   (zq47 (⟨v, v1, (⟨v2⟩ : IK .u64)⟩ : l1Cur) 2).bind fun r7 =>
   (zq47 r7.2 (r2.1.Lines.length : Int)).bind fun r8 =>
   (zq47 r8.2 16).bind fun r9 =>
   (chk (v3.length + ([(⟨(w64 ((w64 ((v3.length : Int) + 1)) + (w64 ((w64 (2 * (v3.length : Int))) * r7.1)))), r8.1, (w64 (360 + (w64 (5 * r9.1))))⟩ : Trip)] : List Trip).length <= 4294967296)).bind fun u1 =>
   some (.nx ((w64 (i - 1)), r9.2.code_, r9.2.at_, r9.2.seed_.v, (v3 ++ ([(⟨(w64 ((w64 ((v3.length : Int) + 1)) + (w64 ((w64 (2 * (v3.length : Int))) * r7.1)))), r8.1, (w64 (360 + (w64 (5 * r9.1))))⟩ : Trip)] : List Trip))))
  else
   some (.dn (v, v1, v2, v3))
def yfr : Int × (List Trip) -> Option (Lp (Int × (List Trip)) ((List Trip)))
 | (x, v8) =>
  if (decide (x < (v8.length : Int))) = true then
   (idx v8 x).bind fun e =>
   (idx v8 (w64 (x - 1))).bind fun e2 =>
   (zq52 e.Id (w64 (e2.Id + 1))).bind fun r11 =>
   (idx v8 x).bind fun e3 =>
   some (.nx ((w64 (x + 1)), (v8.set x.toNat (⟨r11, e.Line, e.Start⟩ : Trip))))
  else
   some (.dn v8)
def zq50 (c : l1Cur) : Option (Timetable × l1Cur) :=
 (zq46 c 16).bind fun r =>
 if r.1 = true then
  (zq37 r.2).bind fun r1 =>
  some ((⟨(⟨r1.1.Network.Stops, r1.1.Network.Lines⟩ : Network), r1.1.Trips⟩ : Timetable), r1.2)
 else
  (zq41 r.2).bind fun r2 =>
  (zq47 r2.2 6).bind fun r3 =>
  (iter (yfs r2) ((w64 (3 + r3.1)), r3.2.code_, r3.2.at_, r3.2.seed_.v, ([] : List Trip))).bind fun ((v4, v5, v6, v7) : (List UInt8) × Int × Int × (List Trip)) =>
  (iter (yfr) ((1 : Int), v7)).bind fun (v9 : List Trip) =>
  some ((⟨(⟨r2.1.Stops, r2.1.Lines⟩ : Network), v9⟩ : Timetable), (⟨v4, v5, (⟨v6⟩ : IK .u64)⟩ : l1Cur))
def zq51 (x : Int) (a : Int) (b : Int) : Option (Bool) :=
 (if (decide (a <= x)) = true then some (decide (x <= b)) else some false).bind fun (v : Bool) =>
 some v
def yb9 (s : ByteArray) : Int -> Option (Lp (Int) (Fl (Bool) (Unit)))
 | v1 =>
  if (decide (v1 < (s.size : Int))) = true then
   (chk ((0 : Int) <= v1 /\ v1 < (s.size : Int))).bind fun u2 =>
   (if (decide (((s.data.toList.getD v1.toNat 0).toNat : Int) < 97)) = true then (chk ((0 : Int) <= v1 /\ v1 < (s.size : Int))).bind fun u3 =>
   if (decide (((s.data.toList.getD v1.toNat 0).toNat : Int) < 48)) = true then some true else (chk ((0 : Int) <= v1 /\ v1 < (s.size : Int))).bind fun u4 =>
   some (decide (57 < ((s.data.toList.getD v1.toNat 0).toNat : Int))) else (chk ((0 : Int) <= v1 /\ v1 < (s.size : Int))).bind fun u5 =>
   if (decide (122 < ((s.data.toList.getD v1.toNat 0).toNat : Int))) = true then (chk ((0 : Int) <= v1 /\ v1 < (s.size : Int))).bind fun u6 =>
   if (decide (((s.data.toList.getD v1.toNat 0).toNat : Int) < 48)) = true then some true else (chk ((0 : Int) <= v1 /\ v1 < (s.size : Int))).bind fun u7 =>
   some (decide (57 < ((s.data.toList.getD v1.toNat 0).toNat : Int))) else some false).bind fun (v2 : Bool) =>
   if v2 = true then
    some (.dn (.ret false))
   else
    some (.nx (w64 (v1 + 1)))
  else
   some (.dn (.go ()))
def zq63 (s : ByteArray) : Option (Bool) :=
 (zq51 (s.size : Int) 1 8).bind fun r =>
 (if (!r) = true then some true else (chk ((0 : Int) <= 0 /\ 0 < (s.size : Int))).bind fun u =>
 if (decide (((s.data.toList.getD (0 : Int).toNat 0).toNat : Int) < 97)) = true then some true else (chk ((0 : Int) <= 0 /\ 0 < (s.size : Int))).bind fun u1 =>
 some (decide (122 < ((s.data.toList.getD (0 : Int).toNat 0).toNat : Int)))).bind fun (v : Bool) =>
 if v = true then
  some false
 else
  flb (iter (yb9 s) (0 : Int)) fun (_ : Unit) =>
  some true
def ydf (list : List ByteArray) (name : ByteArray) : Int -> Option (Lp (Int) (Fl (Int) (Unit)))
 | v =>
  if (decide (v < (list.length : Int))) = true then
   (idx list v).bind fun e =>
   if (e.toList == name.toList) = true then
    some (.dn (.ret v))
   else
    some (.nx (w64 (v + 1)))
  else
   some (.dn (.go ()))
def zq59 (list : List ByteArray) (name : ByteArray) : Option (Int) :=
 flb (iter (ydf list name) (0 : Int)) fun (_ : Unit) =>
 some (-1)
def ydc (x : Line) (stops : Int) : Int -> Option (Lp (Int) (Fl (Bool) (Unit)))
 | v1 =>
  if (decide (v1 < (x.Stops.length : Int))) = true then
   (idx x.Stops v1).bind fun e2 =>
   (zq51 e2 0 (w64 (stops - 1))).bind fun r4 =>
   (if (!r4) = true then some true else (idx x.Stops v1).bind fun e3 =>
   (zq66 x e3).bind fun r5 =>
   some (r5 != v1)).bind fun (v2 : Bool) =>
   if v2 = true then
    some (.dn (.ret false))
   else
    some (.nx (w64 (v1 + 1)))
  else
   some (.dn (.go ()))
def ydb (x : Line) : Int -> Option (Lp (Int) (Fl (Bool) (Unit)))
 | v3 =>
  if (decide (v3 < (x.Runs.length : Int))) = true then
   (idx x.Runs v3).bind fun e5 =>
   (zq51 e5 1 60).bind fun r7 =>
   if (!r7) = true then
    some (.dn (.ret false))
   else
    some (.nx (w64 (v3 + 1)))
  else
   some (.dn (.go ()))
def zq61 (x : Line) (stops : Int) : Option (Bool) :=
 (zq63 x.Name).bind fun r =>
 (if (!r) = true then some true else (zq51 (x.Stops.length : Int) 2 6).bind fun r1 =>
 if (!r1) = true then some true else some ((x.Runs.length : Int) != (w64 ((x.Stops.length : Int) - 1)))).bind fun (v : Bool) =>
 if v = true then
  some false
 else
  flb (iter (ydc x stops) (0 : Int)) fun (_ : Unit) =>
  flb (iter (ydb x) (0 : Int)) fun (_ : Unit) =>
  some true
def yda (n : Network) (name : ByteArray) : Int -> Option (Lp (Int) (Fl (Int) (Unit)))
 | v =>
  if (decide (v < (n.Lines.length : Int))) = true then
   (idx n.Lines v).bind fun e =>
   if (e.Name.toList == name.toList) = true then
    some (.dn (.ret v))
   else
    some (.nx (w64 (v + 1)))
  else
   some (.dn (.go ()))
def zq62 (n : Network) (name : ByteArray) : Option (Int) :=
 flb (iter (yda n name) (0 : Int)) fun (_ : Unit) =>
 some (-1)
def yde (n : Network) : Int -> Option (Lp (Int) (Fl (Bool) (Unit)))
 | i =>
  if (decide (i < (n.Stops.length : Int))) = true then
   (idx n.Stops i).bind fun e2 =>
   (zq63 e2).bind fun r4 =>
   (if (!r4) = true then some true else (idx n.Stops i).bind fun e3 =>
   (zq59 n.Stops e3).bind fun r5 =>
   some (r5 != i)).bind fun (v1 : Bool) =>
   if v1 = true then
    some (.dn (.ret false))
   else
    some (.nx (w64 (i + 1)))
  else
   some (.dn (.go ()))
def ydd (n : Network) : Int -> Option (Lp (Int) (Fl (Bool) (Unit)))
 | v2 =>
  if (decide (v2 < (n.Lines.length : Int))) = true then
   (idx n.Lines v2).bind fun e7 =>
   (zq61 e7 (n.Stops.length : Int)).bind fun r9 =>
   (if (!r9) = true then some true else (idx n.Lines v2).bind fun e8 =>
   (zq62 n e8.Name).bind fun r10 =>
   some (r10 != v2)).bind fun (v3 : Bool) =>
   if v3 = true then
    some (.dn (.ret false))
   else
    some (.nx (w64 (v2 + 1)))
  else
   some (.dn (.go ()))
def zq60 (n : Network) : Option (Bool) :=
 (zq51 (n.Stops.length : Int) 2 8).bind fun r =>
 (if (!r) = true then some true else (zq51 (n.Lines.length : Int) 1 5).bind fun r1 =>
 some (!r1)).bind fun (v : Bool) =>
 if v = true then
  some false
 else
  flb (iter (yde n) (0 : Int)) fun (_ : Unit) =>
  flb (iter (ydd n) (0 : Int)) fun (_ : Unit) =>
  some true
def zq68 (t : Int) : Option (Bool) :=
 (zq51 t 0 1799).bind fun r =>
 some r
def zq73 (t : Timetable) (i : Int) : Option (Line) :=
 (idx t.Trips i).bind fun e2 =>
 (idx t.Network.Lines e2.Line).bind fun e3 =>
 some e3
def zq76 (t : Timetable) (i : Int) : Option ((List Int)) :=
 (zq73 t i).bind fun r =>
 some r.Stops
def yfp (x : Line) (to_ : Int) : Int × Int -> Option (Lp (Int × Int) (Int))
 | (v, v1) =>
  if (decide (v1 < to_)) = true then
   (idx x.Runs v1).bind fun e =>
   some (.nx ((w64 (v + e)), (w64 (v1 + 1))))
  else
   some (.dn v)
def zq67 (x : Line) (from_ : Int) (to_ : Int) : Option (Int) :=
 (iter (yfp x to_) ((0 : Int), from_)).bind fun (v2 : Int) =>
 some v2
def zq69 (t : Timetable) (i : Int) (k : Int) : Option (Int) :=
 (idx t.Trips i).bind fun e1 =>
 (zq73 t i).bind fun r2 =>
 (zq67 r2 0 k).bind fun r3 =>
 some (w64 (e1.Start + r3))
def zq70 (t : Timetable) (i : Int) : Option (Int) :=
 (zq76 t i).bind fun r2 =>
 (zq69 t i (w64 ((r2.length : Int) - 1))).bind fun r3 =>
 some r3
def yfo (t : Timetable) : Int -> Option (Lp (Int) (Fl (Bool) (Unit)))
 | x =>
  if (decide (x < (t.Trips.length : Int))) = true then
   (idx t.Trips x).bind fun e =>
   (zq51 e.Id 1 999).bind fun r6 =>
   (if (!r6) = true then some true else (zq51 e.Line 0 (w64 ((t.Network.Lines.length : Int) - 1))).bind fun r7 =>
   if (!r7) = true then some true else (zq68 e.Start).bind fun r8 =>
   if (!r8) = true then some true else (zq70 t x).bind fun r9 =>
   (zq68 r9).bind fun r10 =>
   if (!r10) = true then some true else if (decide (0 < x)) = true then (idx t.Trips (w64 (x - 1))).bind fun e2 =>
   some (decide (e.Id <= e2.Id)) else some false).bind fun (v1 : Bool) =>
   if v1 = true then
    some (.dn (.ret false))
   else
    some (.nx (w64 (x + 1)))
  else
   some (.dn (.go ()))
def zq72 (t : Timetable) : Option (Bool) :=
 (zq60 t.Network).bind fun r =>
 (if (!r) = true then some true else some (decide (12 < (t.Trips.length : Int)))).bind fun (v : Bool) =>
 if v = true then
  some false
 else
  flb (iter (yfo t) (0 : Int)) fun (_ : Unit) =>
  some true
def zq48 (c : l1Cur) : Option (Int × l1Cur) :=
 (zq46 c 16).bind fun r =>
 if r.1 = true then
  (zq34 r.2 ([0, 1799, 1800, (-1), 1440, 1439] : List Int)).bind fun r1 =>
  some (r1.1, r1.2)
 else
  (zq47 r.2 240).bind fun r2 =>
  some ((w64 (360 + r2.1)), r2.2)
def yfu (t : Timetable) : Int × (List UInt8) × Int × Int × (List Change) -> Option (Lp (Int × (List UInt8) × Int × Int × (List Change)) ((List UInt8) × Int × Int × (List Change)))
 | (i, v, v1, v2, x) =>
  if (decide (i < (t.Trips.length : Int))) = true then
   ((idx t.Trips i).bind fun e =>
   (zq47 (⟨v, v1, (⟨v2⟩ : IK .u64)⟩ : l1Cur) 6).bind fun r =>
   if (r.1 == 0) = true then
    (chk (x.length + ([(⟨2, e, 0⟩ : Change)] : List Change).length <= 4294967296)).bind fun u =>
    some (r.2.code_, r.2.at_, r.2.seed_.v, (x ++ ([(⟨2, e, 0⟩ : Change)] : List Change)))
   else
    (if (r.1 == 1) = true then
     some (r.1 == 1)
    else
     some (r.1 == 2)).bind fun (v6 : Bool) =>
    if v6 = true then
     (zq35 r.2 ([5, (-5), 10, 0, 5] : List Int)).bind fun r2 =>
     (chk (x.length + ([(⟨3, e, (w64 (e.Start + r2.1))⟩ : Change)] : List Change).length <= 4294967296)).bind fun u2 =>
     some (r2.2.code_, r2.2.at_, r2.2.seed_.v, (x ++ ([(⟨3, e, (w64 (e.Start + r2.1))⟩ : Change)] : List Change)))
    else
     some (r.2.code_, r.2.at_, r.2.seed_.v, x)).bind fun ((v3, v4, v5, x1) : (List UInt8) × Int × Int × (List Change)) =>
   some (.nx ((w64 (i + 1)), v3, v4, v5, x1))
  else
   some (.dn (v, v1, v2, x))
def zq38 (c : l1Cur) (t : Timetable) : Option ((List Change) × l1Cur) :=
 (iter (yfu t) ((0 : Int), c.code_, c.at_, c.seed_.v, ([] : List Change))).bind fun ((v7, v8, v9, x2) : (List UInt8) × Int × Int × (List Change)) =>
 ((zq46 (⟨v7, v8, (⟨v9⟩ : IK .u64)⟩ : l1Cur) 2).bind fun r3 =>
 if r3.1 = true then
  (zq47 r3.2 9).bind fun r4 =>
  (zq47 r4.2 9).bind fun r5 =>
  (chk (x2.length + ([(⟨1, (⟨(w64 (40 + r4.1)), 0, (w64 (400 + (w64 (5 * r5.1))))⟩ : Trip), 0⟩ : Change)] : List Change).length <= 4294967296)).bind fun u3 =>
  some (r5.2.code_, r5.2.at_, r5.2.seed_.v, (x2 ++ ([(⟨1, (⟨(w64 (40 + r4.1)), 0, (w64 (400 + (w64 (5 * r5.1))))⟩ : Trip), 0⟩ : Change)] : List Change)))
 else
  some (r3.2.code_, r3.2.at_, r3.2.seed_.v, x2)).bind fun ((v10, v11, v12, x3) : (List UInt8) × Int × Int × (List Change)) =>
 ((if (decide (0 < (x3.length : Int))) = true then (zq46 (⟨v10, v11, (⟨v12⟩ : IK .u64)⟩ : l1Cur) 8).bind fun r6 =>
 some (r6.1, r6.2.code_, r6.2.at_, r6.2.seed_.v) else some (false, v10, v11, v12)).bind fun ((v16, v17, v18, v19) : Bool × (List UInt8) × Int × Int) =>
 if v16 = true then
  (zq47 (⟨v17, v18, (⟨v19⟩ : IK .u64)⟩ : l1Cur) (x3.length : Int)).bind fun r7 =>
  (idx x3 r7.1).bind fun e1 =>
  ((zq47 r7.2 4).bind fun r8 =>
  if (r8.1 == 0) = true then
   (zq47 r8.2 5).bind fun r9 =>
   some (r9.2.code_, r9.2.at_, r9.2.seed_.v, r9.1, e1.Trip.Line, e1.Trip.Start, e1.To)
  else
   if (r8.1 == 1) = true then
    some (r8.2.code_, r8.2.at_, r8.2.seed_.v, e1.Kind, e1.Trip.Line, (w64 (e1.Trip.Start + 1)), e1.To)
   else
    if (r8.1 == 2) = true then
     (zq48 r8.2).bind fun r10 =>
     some (r10.2.code_, r10.2.at_, r10.2.seed_.v, e1.Kind, e1.Trip.Line, e1.Trip.Start, r10.1)
    else
     (zq47 r8.2 4).bind fun r11 =>
     some (r11.2.code_, r11.2.at_, r11.2.seed_.v, e1.Kind, (w64 (r11.1 - 1)), e1.Trip.Start, e1.To)).bind fun ((v20, v21, v22, v23, v24, v25, v26) : (List UInt8) × Int × Int × Int × Int × Int × Int) =>
  (idx x3 r7.1).bind fun e2 =>
  some (v20, v21, v22, (x3.set r7.1.toNat (⟨v23, (⟨e1.Trip.Id, v24, v25⟩ : Trip), v26⟩ : Change)))
 else
  some (v17, v18, v19, x3)).bind fun ((v13, v14, v15, x4) : (List UInt8) × Int × Int × (List Change)) =>
 some (x4, (⟨v13, v14, (⟨v15⟩ : IK .u64)⟩ : l1Cur))
def zq74 (t : Timetable) : Option (Timetable) :=
 (zq64 t.Network).bind fun r1 =>
 (chk (([] : List Trip).length + t.Trips.length <= 4294967296)).bind fun u1 =>
 some (⟨(⟨r1.Stops, r1.Lines⟩ : Network), (([] : List Trip) ++ t.Trips)⟩ : Timetable)
def yc7 (t : Timetable) (id : Int) : Int -> Option (Lp (Int) (Fl (Int) (Unit)))
 | v =>
  if (decide (v < (t.Trips.length : Int))) = true then
   (idx t.Trips v).bind fun e =>
   if (e.Id == id) = true then
    some (.dn (.ret v))
   else
    some (.nx (w64 (v + 1)))
  else
   some (.dn (.go ()))
def zq71 (t : Timetable) (id : Int) : Option (Int) :=
 flb (iter (yc7 t id) (0 : Int)) fun (_ : Unit) =>
 some (-1)
def yfl (t : Timetable) (x : Trip) : Int -> Option (Lp (Int) (Int))
 | v =>
  (if (decide (v < (t.Trips.length : Int))) = true then (idx t.Trips v).bind fun e1 =>
  some (decide (e1.Id < x.Id)) else some false).bind fun (v1 : Bool) =>
  if v1 = true then
   some (.nx (w64 (v + 1)))
  else
   some (.dn v)
def zq75 (t : Timetable) (x : Trip) : Option (Timetable) :=
 (iter (yfl t x) (0 : Int)).bind fun (v2 : Int) =>
 (zq74 t).bind fun r =>
 (chk ((0 : Int) <= 0 /\ (0 : Int) <= v2 /\ v2 <= (t.Trips.length : Int))).bind fun u5 =>
 (chk (([] : List Trip).length + ((t.Trips.take v2.toNat).drop (0 : Int).toNat).length <= 4294967296)).bind fun u6 =>
 (chk ((([] : List Trip) ++ ((t.Trips.take v2.toNat).drop (0 : Int).toNat)).length + ([x] : List Trip).length <= 4294967296)).bind fun u7 =>
 (chk ((0 : Int) <= v2 /\ v2 <= (t.Trips.length : Int))).bind fun u8 =>
 (chk (((([] : List Trip) ++ ((t.Trips.take v2.toNat).drop (0 : Int).toNat)) ++ ([x] : List Trip)).length + (t.Trips.drop v2.toNat).length <= 4294967296)).bind fun u9 =>
 some (⟨(⟨r.Network.Stops, r.Network.Lines⟩ : Network), (((([] : List Trip) ++ ((t.Trips.take v2.toNat).drop (0 : Int).toNat)) ++ ([x] : List Trip)) ++ (t.Trips.drop v2.toNat))⟩ : Timetable)
def zq77 (t : Timetable) (i : Int) : Option (Timetable) :=
 (zq74 t).bind fun r =>
 (chk ((0 : Int) <= 0 /\ (0 : Int) <= i /\ i <= (t.Trips.length : Int))).bind fun u4 =>
 (chk (([] : List Trip).length + ((t.Trips.take i.toNat).drop (0 : Int).toNat).length <= 4294967296)).bind fun u5 =>
 (chk ((0 : Int) <= (w64 (i + 1)) /\ (w64 (i + 1)) <= (t.Trips.length : Int))).bind fun u6 =>
 (chk ((([] : List Trip) ++ ((t.Trips.take i.toNat).drop (0 : Int).toNat)).length + (t.Trips.drop (w64 (i + 1)).toNat).length <= 4294967296)).bind fun u7 =>
 some (⟨(⟨r.Network.Stops, r.Network.Lines⟩ : Network), ((([] : List Trip) ++ ((t.Trips.take i.toNat).drop (0 : Int).toNat)) ++ (t.Trips.drop (w64 (i + 1)).toNat))⟩ : Timetable)
def ydh (t : Timetable) (list : List Change) : Int × (List ByteArray) × (List Line) × (List Trip) -> Option (Lp (Int × (List ByteArray) × (List Line) × (List Trip)) (Fl (Timetable × Bool) ((List ByteArray) × (List Line) × (List Trip))))
 | (at_, v, v1, v2) =>
  if (decide (at_ < (list.length : Int))) = true then
   flb ((idx list at_).bind fun e =>
   (if (decide (0 < at_)) = true then (idx list (w64 (at_ - 1))).bind fun e2 =>
   some (decide (e.Trip.Id <= e2.Trip.Id)) else some false).bind fun (v6 : Bool) =>
   if v6 = true then
    some (.ret (.dn (.ret ((⟨(⟨([] : List ByteArray), ([] : List Line)⟩ : Network), ([] : List Trip)⟩ : Timetable), false))))
   else
    (zq71 t e.Trip.Id).bind fun r3 =>
    (if (decide (0 <= r3)) = true then (idx t.Trips r3).bind fun e6 =>
    some ((e6.Id == e.Trip.Id) && ((e6.Line == e.Trip.Line) && ((e6.Start == e.Trip.Start) && true))) else some false).bind fun (x : Bool) =>
    (if (e.Kind == 1) = true then if (decide (r3 < 0)) = true then some (e.To == 0) else some false else some false).bind fun (v7 : Bool) =>
    if v7 = true then
     (zq75 (⟨(⟨v, v1⟩ : Network), v2⟩ : Timetable) e.Trip).bind fun r4 =>
     some (.go (r4.Network.Stops, r4.Network.Lines, r4.Trips))
    else
     (if (e.Kind == 2) = true then if x = true then some (e.To == 0) else some false else some false).bind fun (v8 : Bool) =>
     if v8 = true then
      (zq71 (⟨(⟨v, v1⟩ : Network), v2⟩ : Timetable) e.Trip.Id).bind fun r7 =>
      (zq77 (⟨(⟨v, v1⟩ : Network), v2⟩ : Timetable) r7).bind fun r8 =>
      some (.go (r8.Network.Stops, r8.Network.Lines, r8.Trips))
     else
      (if (e.Kind == 3) = true then if x = true then some (e.To != e.Trip.Start) else some false else some false).bind fun (v9 : Bool) =>
      if v9 = true then
       (zq71 (⟨(⟨v, v1⟩ : Network), v2⟩ : Timetable) e.Trip.Id).bind fun r9 =>
       (idx v2 r9).bind fun e7 =>
       (idx v2 r9).bind fun e8 =>
       some (.go (v, v1, (v2.set r9.toNat (⟨e7.Id, e7.Line, e.To⟩ : Trip))))
      else
       some (.ret (.dn (.ret ((⟨(⟨([] : List ByteArray), ([] : List Line)⟩ : Network), ([] : List Trip)⟩ : Timetable), false))))) fun ((v3, v4, v5) : (List ByteArray) × (List Line) × (List Trip)) =>
   some (.nx ((w64 (at_ + 1)), v3, v4, v5))
  else
   some (.dn (.go (v, v1, v2)))
def zq56 (t : Timetable) (list : List Change) : Option (Timetable × Bool) :=
 if (decide (24 < (list.length : Int))) = true then
  some ((⟨(⟨([] : List ByteArray), ([] : List Line)⟩ : Network), ([] : List Trip)⟩ : Timetable), false)
 else
  (zq74 t).bind fun r =>
  flb (iter (ydh t list) ((0 : Int), r.Network.Stops, r.Network.Lines, r.Trips)) fun ((v11, v12, v13) : (List ByteArray) × (List Line) × (List Trip)) =>
  (zq72 (⟨(⟨v11, v12⟩ : Network), v13⟩ : Timetable)).bind fun r12 =>
  if (!r12) = true then
   some ((⟨(⟨([] : List ByteArray), ([] : List Line)⟩ : Network), ([] : List Trip)⟩ : Timetable), false)
  else
   some ((⟨(⟨v11, v12⟩ : Network), v13⟩ : Timetable), true)
def zq33 (code : List UInt8) : Option (Timetable × Timetable) :=
 (zq50 (⟨code, 0, (⟨0⟩ : IK .u64)⟩ : l1Cur)).bind fun r =>
 (zq72 (⟨(⟨r.1.Network.Stops, r.1.Network.Lines⟩ : Network), r.1.Trips⟩ : Timetable)).bind fun r1 =>
 if (!r1) = true then
  (zq50 r.2).bind fun r3 =>
  some ((⟨(⟨r.1.Network.Stops, r.1.Network.Lines⟩ : Network), r.1.Trips⟩ : Timetable), (⟨(⟨r3.1.Network.Stops, r3.1.Network.Lines⟩ : Network), r3.1.Trips⟩ : Timetable))
 else
  (zq38 r.2 r.1).bind fun r6 =>
  (zq56 r.1 r6.1).bind fun r7 =>
  (if (!r7.2) = true then some (true, r6.2.code_, r6.2.at_, r6.2.seed_.v) else (zq46 r6.2 12).bind fun r8 =>
  some (r8.1, r8.2.code_, r8.2.at_, r8.2.seed_.v)).bind fun ((v, v1, v2, v3) : Bool × (List UInt8) × Int × Int) =>
  if v = true then
   (zq50 (⟨v1, v2, (⟨v3⟩ : IK .u64)⟩ : l1Cur)).bind fun r10 =>
   some (r.1, (⟨(⟨r10.1.Network.Stops, r10.1.Network.Lines⟩ : Network), r10.1.Trips⟩ : Timetable))
  else
   ((if (decide (0 < (r7.1.Trips.length : Int))) = true then (zq46 (⟨v1, v2, (⟨v3⟩ : IK .u64)⟩ : l1Cur) 12).bind fun r11 =>
   some (r11.1, r11.2.code_, r11.2.at_, r11.2.seed_.v) else some (false, v1, v2, v3)).bind fun ((v5, v6, v7, v8) : Bool × (List UInt8) × Int × Int) =>
   if v5 = true then
    (idx r7.1.Trips 0).bind fun e =>
    (zq47 (⟨v6, v7, (⟨v8⟩ : IK .u64)⟩ : l1Cur) (r7.1.Network.Lines.length : Int)).bind fun r12 =>
    (idx r7.1.Trips 0).bind fun e1 =>
    some (r7.1.Trips.set (0 : Int).toNat (⟨e.Id, r12.1, e.Start⟩ : Trip))
   else
    some r7.1.Trips).bind fun (v4 : List Trip) =>
   some (r.1, (⟨(⟨r7.1.Network.Stops, r7.1.Network.Lines⟩ : Network), v4⟩ : Timetable))
def zq28 (n : Int) (lo : Int) (hi : Int) : Option (Bool) :=
 (if (decide (lo <= n)) = true then some (decide (n <= hi)) else some false).bind fun (v : Bool) =>
 some v
def ycb (s : ByteArray) : Int -> Option (Lp (Int) (Fl (Bool) (Unit)))
 | v1 =>
  if (decide (v1 < (s.size : Int))) = true then
   (chk ((0 : Int) <= v1 /\ v1 < (s.size : Int))).bind fun u =>
   (if (decide (97 <= ((s.data.toList.getD v1.toNat 0).toNat : Int))) = true then (chk ((0 : Int) <= v1 /\ v1 < (s.size : Int))).bind fun u1 =>
   some (decide (((s.data.toList.getD v1.toNat 0).toNat : Int) <= 122)) else some false).bind fun (v2 : Bool) =>
   (if (!v2) = true then if (v1 == 0) = true then some true else (chk ((0 : Int) <= v1 /\ v1 < (s.size : Int))).bind fun u2 =>
   if (decide (((s.data.toList.getD v1.toNat 0).toNat : Int) < 48)) = true then some true else (chk ((0 : Int) <= v1 /\ v1 < (s.size : Int))).bind fun u3 =>
   some (decide (57 < ((s.data.toList.getD v1.toNat 0).toNat : Int))) else some false).bind fun (v3 : Bool) =>
   if v3 = true then
    some (.dn (.ret false))
   else
    some (.nx (w64 (v1 + 1)))
  else
   some (.dn (.go ()))
def zq20 (s : ByteArray) : Option (Bool) :=
 (if (decide ((s.size : Int) < 1)) = true then some true else some (decide (8 < (s.size : Int)))).bind fun (v : Bool) =>
 if v = true then
  some false
 else
  flb (iter (ycb s) (0 : Int)) fun (_ : Unit) =>
  some true
def yc2 (s : List ByteArray) (v : ByteArray) : Int -> Option (Lp (Int) (Fl (Int) (Unit)))
 | v1 =>
  if (decide (v1 < (s.length : Int))) = true then
   (idx s v1).bind fun e =>
   if (v.toList == e.toList) = true then
    some (.dn (.ret v1))
   else
    some (.nx (w64 (v1 + 1)))
  else
   some (.dn (.go ()))
def zq87 (s : List ByteArray) (v : ByteArray) : Option (Int) :=
 flb (iter (yc2 s v) (0 : Int)) fun (_ : Unit) =>
 some (-1)
def yd0 (names : List ByteArray) : Int -> Option (Lp (Int) (Fl (Bool) (Unit)))
 | v =>
  if (decide (v < (names.length : Int))) = true then
   (idx names v).bind fun e =>
   (zq20 e).bind fun r =>
   (if (!r) = true then some true else (zq87 names e).bind fun r1 =>
   some (r1 != v)).bind fun (v1 : Bool) =>
   if v1 = true then
    some (.dn (.ret false))
   else
    some (.nx (w64 (v + 1)))
  else
   some (.dn (.go ()))
def zq10 (names : List ByteArray) : Option (Bool) :=
 flb (iter (yd0 names) (0 : Int)) fun (_ : Unit) =>
 some true
def ydp (n : Network) : Int × (List ByteArray) -> Option (Lp (Int × (List ByteArray)) ((List ByteArray)))
 | (v, i) =>
  if (decide (v < (n.Lines.length : Int))) = true then
   (idx n.Lines v).bind fun e =>
   (idx i v).bind fun e1 =>
   some (.nx ((w64 (v + 1)), (i.set v.toNat e.Name)))
  else
   some (.dn i)
def zq23 (n : Network) : Option ((List ByteArray)) :=
 (chk ((0 : Int) <= (n.Lines.length : Int) /\ ((n.Lines.length : Int) : Int) <= 4294967296)).bind fun u =>
 (iter (ydp n) ((0 : Int), (List.replicate (n.Lines.length : Int).toNat (ByteArray.empty : ByteArray)))).bind fun (i1 : List ByteArray) =>
 some i1
def zq21 (n : Network) (stop : Int) : Option (Bool) :=
 (if (decide (0 <= stop)) = true then some (decide (stop < (n.Stops.length : Int))) else some false).bind fun (v : Bool) =>
 some v
def yc3 (s : List Int) (v : Int) : Int -> Option (Lp (Int) (Fl (Int) (Unit)))
 | v1 =>
  if (decide (v1 < (s.length : Int))) = true then
   (idx s v1).bind fun e =>
   if (v == e) = true then
    some (.dn (.ret v1))
   else
    some (.nx (w64 (v1 + 1)))
  else
   some (.dn (.go ()))
def zq86 (s : List Int) (v : Int) : Option (Int) :=
 flb (iter (yc3 s v) (0 : Int)) fun (_ : Unit) =>
 some (-1)
def ydr (n : Network) (l : Line) : Int -> Option (Lp (Int) (Fl (Bool) (Unit)))
 | v1 =>
  if (decide (v1 < (l.Stops.length : Int))) = true then
   (idx l.Stops v1).bind fun e =>
   (zq21 n e).bind fun r1 =>
   (if (!r1) = true then some true else (zq86 l.Stops e).bind fun r2 =>
   some (r2 != v1)).bind fun (v2 : Bool) =>
   if v2 = true then
    some (.dn (.ret false))
   else
    some (.nx (w64 (v1 + 1)))
  else
   some (.dn (.go ()))
def ydq (l : Line) : Int -> Option (Lp (Int) (Fl (Bool) (Unit)))
 | v3 =>
  if (decide (v3 < (l.Runs.length : Int))) = true then
   (idx l.Runs v3).bind fun e2 =>
   (zq28 e2 1 60).bind fun r4 =>
   if (!r4) = true then
    some (.dn (.ret false))
   else
    some (.nx (w64 (v3 + 1)))
  else
   some (.dn (.go ()))
def zq22 (n : Network) (l : Line) : Option (Bool) :=
 (zq28 (l.Stops.length : Int) 2 6).bind fun r =>
 (if (!r) = true then some true else some ((l.Runs.length : Int) != (w64 ((l.Stops.length : Int) - 1)))).bind fun (v : Bool) =>
 if v = true then
  some false
 else
  flb (iter (ydr n l) (0 : Int)) fun (_ : Unit) =>
  flb (iter (ydq l) (0 : Int)) fun (_ : Unit) =>
  some true
def ygq (n : Network) : Int -> Option (Lp (Int) (Fl (Bool) (Unit)))
 | v1 =>
  if (decide (v1 < (n.Lines.length : Int))) = true then
   (idx n.Lines v1).bind fun e =>
   (zq22 n e).bind fun r5 =>
   if (!r5) = true then
    some (.dn (.ret false))
   else
    some (.nx (w64 (v1 + 1)))
  else
   some (.dn (.go ()))
def zq6 (n : Network) : Option (Bool) :=
 (zq28 (n.Stops.length : Int) 2 8).bind fun r =>
 (if (!r) = true then some true else (zq28 (n.Lines.length : Int) 1 5).bind fun r1 =>
 if (!r1) = true then some true else (zq10 n.Stops).bind fun r2 =>
 if (!r2) = true then some true else (zq23 n).bind fun r3 =>
 (zq10 r3).bind fun r4 =>
 some (!r4)).bind fun (v : Bool) =>
 if v = true then
  some false
 else
  flb (iter (ygq n) (0 : Int)) fun (_ : Unit) =>
  some true
def zq19 (n : Network) (line : Int) : Option (Bool) :=
 (if (decide (0 <= line)) = true then some (decide (line < (n.Lines.length : Int))) else some false).bind fun (v : Bool) =>
 some v
def zq7 (t : Int) : Option (Bool) :=
 (zq28 t 0 1799).bind fun r =>
 some r
def ydo (list : List Int) : Int × Int -> Option (Lp (Int × Int) (Int))
 | (v, v1) =>
  if (decide (v1 < (list.length : Int))) = true then
   (idx list v1).bind fun e =>
   some (.nx ((w64 (v + e)), (w64 (v1 + 1))))
  else
   some (.dn v)
def zq24 (list : List Int) : Option (Int) :=
 (iter (ydo list) ((0 : Int), (0 : Int))).bind fun (v2 : Int) =>
 some v2
def zq17 (t : Timetable) (x : Trip) : Option (Int) :=
 (idx t.Network.Lines x.Line).bind fun e1 =>
 (zq24 e1.Runs).bind fun r1 =>
 some (w64 (x.Start + r1))
def yf4 (t : Timetable) : Int × Int -> Option (Lp (Int × Int) (Fl (Bool) (Unit)))
 | (v, v1) =>
  if (decide (v1 < (t.Trips.length : Int))) = true then
   (idx t.Trips v1).bind fun e =>
   (if (decide (e.Id <= v)) = true then some true else if (decide (999 < e.Id)) = true then some true else (zq19 t.Network e.Line).bind fun r =>
   if (!r) = true then some true else (zq7 e.Start).bind fun r1 =>
   if (!r1) = true then some true else (zq17 t e).bind fun r2 =>
   (zq7 r2).bind fun r3 =>
   some (!r3)).bind fun (v2 : Bool) =>
   if v2 = true then
    some (.dn (.ret false))
   else
    some (.nx (e.Id, (w64 (v1 + 1))))
  else
   some (.dn (.go ()))
def zq11 (t : Timetable) : Option (Bool) :=
 if (decide (12 < (t.Trips.length : Int))) = true then
  some false
 else
  flb (iter (yf4 t) ((0 : Int), (0 : Int))) fun (_ : Unit) =>
  some true
def zq8 (t : Timetable) : Option (Bool) :=
 (zq6 t.Network).bind fun r =>
 (if r = true then (zq11 t).bind fun r1 =>
 some r1 else some false).bind fun (v : Bool) =>
 some v
def yf3 (b : List UInt8) (s : ByteArray) : Option (Int × NilErr × (List UInt8)) :=
 jco b s
def ylz (i : Int) : Option (ByteArray) :=
 jpz i
def yo0 (b : List UInt8) (c : UInt8) : Option (NilErr × (List UInt8)) :=
 jdm b c
def yqu (b : List UInt8) : Option (ByteArray) :=
 jf7 b
def ydt (n : Network) : Int × (List UInt8) -> Option (Lp (Int × (List UInt8)) ((List UInt8)))
 | (v, v1) =>
  if (decide (v < (n.Stops.length : Int))) = true then
   (idx n.Stops v).bind fun e =>
   (chk ((str [115, 116, 111, 112, 32]).size + e.size <= 4294967296)).bind fun u =>
   (chk (((str [115, 116, 111, 112, 32]) ++ e).size + (str [10]).size <= 4294967296)).bind fun u1 =>
   (yf3 v1 (((str [115, 116, 111, 112, 32]) ++ e) ++ (str [10]))).bind fun r =>
   some (.nx ((w64 (v + 1)), r.2.2))
  else
   some (.dn v1)
def yds (n : Network) (e1 : Line) : Int × (List UInt8) -> Option (Lp (Int × (List UInt8)) ((List UInt8)))
 | (v5, v6) =>
  if (decide (v5 < (e1.Stops.length : Int))) = true then
   (idx e1.Stops v5).bind fun e2 =>
   (if (decide (0 < v5)) = true then
    (idx e1.Runs (w64 (v5 - 1))).bind fun e3 =>
    (ylz e3).bind fun r2 =>
    (chk ((str [32]).size + r2.size <= 4294967296)).bind fun u3 =>
    (yf3 v6 ((str [32]) ++ r2)).bind fun r3 =>
    some r3.2.2
   else
    some v6).bind fun (v7 : List UInt8) =>
   (idx n.Stops e2).bind fun e4 =>
   (chk ((str [32]).size + e4.size <= 4294967296)).bind fun u4 =>
   (yf3 v7 ((str [32]) ++ e4)).bind fun r4 =>
   some (.nx ((w64 (v5 + 1)), r4.2.2))
  else
   some (.dn v6)
def yfx (n : Network) : Int × (List UInt8) -> Option (Lp (Int × (List UInt8)) ((List UInt8)))
 | (v3, v4) =>
  if (decide (v3 < (n.Lines.length : Int))) = true then
   (idx n.Lines v3).bind fun e1 =>
   (chk ((str [108, 105, 110, 101, 32]).size + e1.Name.size <= 4294967296)).bind fun u2 =>
   (yf3 v4 ((str [108, 105, 110, 101, 32]) ++ e1.Name)).bind fun r1 =>
   (iter (yds n e1) ((0 : Int), r1.2.2)).bind fun (v8 : List UInt8) =>
   (yo0 v8 (mkU8 10)).bind fun r5 =>
   some (.nx ((w64 (v3 + 1)), r5.2))
  else
   some (.dn v4)
def zq18 (n : Network) : Option (ByteArray) :=
 (iter (ydt n) ((0 : Int), ([] : List UInt8))).bind fun (v2 : List UInt8) =>
 (iter (yfx n) ((0 : Int), v2)).bind fun (v9 : List UInt8) =>
 (yqu v9).bind fun r6 =>
 some r6
def zq26 (x : Trip) (c1 : Int) : Option (Bool) :=
 some (x.Id == c1)
def yc5 (s : List Trip) (f : Trip -> Option (Bool)) : Int -> Option (Lp (Int) (Fl (Int) (Unit)))
 | v =>
  if (decide (v < (s.length : Int))) = true then
   (idx s v).bind fun e =>
   (f e).bind fun r =>
   if r = true then
    some (.dn (.ret v))
   else
    some (.nx (w64 (v + 1)))
  else
   some (.dn (.go ()))
def zq83 (s : List Trip) (f : Trip -> Option (Bool)) : Option (Int) :=
 flb (iter (yc5 s f) (0 : Int)) fun (_ : Unit) =>
 some (-1)
def zq84 (s : List Trip) (c1 : Int) : Option (Int) :=
 zq83 s (fun (z0 : Trip) => zq26 z0 c1)
def zq25 (t : Timetable) (id : Int) : Option (Int) :=
 (zq84 t.Trips id).bind fun r =>
 some r
def zq1 (x : Int) : Option (Bool) :=
 some (x != x)
def zq0 (x : Int) (y_ : Int) : Option (Int) :=
 (zq1 x).bind fun r =>
 (zq1 y_).bind fun r1 =>
 if r = true then
  if r1 = true then
   some 0
  else
   some (-1)
 else
  if r1 = true then
   some 1
  else
   if (decide (x < y_)) = true then
    some (-1)
   else
    if (decide (y_ < x)) = true then
     some 1
    else
     some 0
def zq13 (a : Change) (b : Change) : Option (Int) :=
 (zq0 a.Trip.Id b.Trip.Id).bind fun r =>
 some r
def zq31 (x : IK .u64) : Option (Int) :=
 (if (decide (4294967296 <= x.v)) = true then
  (chk ((0 : Int) <= 32)).bind fun u =>
  some ((x.v.fdiv (2 ^ (min (32 : Int).toNat (IntKind.u64).bits))), (32 : Int))
 else
  some (x.v, (0 : Int))).bind fun ((x1, v) : Int × Int) =>
 (if (decide (65536 <= x1)) = true then
  (chk ((0 : Int) <= 16)).bind fun u1 =>
  some ((x1.fdiv (2 ^ (min (16 : Int).toNat (IntKind.u64).bits))), (w64 (v + 16)))
 else
  some (x1, v)).bind fun ((x2, v1) : Int × Int) =>
 (if (decide (256 <= x2)) = true then
  (chk ((0 : Int) <= 8)).bind fun u2 =>
  some ((x2.fdiv (2 ^ (min (8 : Int).toNat (IntKind.u64).bits))), (w64 (v1 + 8)))
 else
  some (x2, v1)).bind fun ((x3, v2) : Int × Int) =>
 (chk ((0 : Int) <= (IntKind.u8.wrap (x3)) /\ (IntKind.u8.wrap (x3)) < ((str [0, 1, 2, 2, 3, 3, 3, 3, 4, 4, 4, 4, 4, 4, 4, 4, 5, 5, 5, 5, 5, 5, 5, 5, 5, 5, 5, 5, 5, 5, 5, 5, 6, 6, 6, 6, 6, 6, 6, 6, 6, 6, 6, 6, 6, 6, 6, 6, 6, 6, 6, 6, 6, 6, 6, 6, 6, 6, 6, 6, 6, 6, 6, 6, 7, 7, 7, 7, 7, 7, 7, 7, 7, 7, 7, 7, 7, 7, 7, 7, 7, 7, 7, 7, 7, 7, 7, 7, 7, 7, 7, 7, 7, 7, 7, 7, 7, 7, 7, 7, 7, 7, 7, 7, 7, 7, 7, 7, 7, 7, 7, 7, 7, 7, 7, 7, 7, 7, 7, 7, 7, 7, 7, 7, 7, 7, 7, 7, 8, 8, 8, 8, 8, 8, 8, 8, 8, 8, 8, 8, 8, 8, 8, 8, 8, 8, 8, 8, 8, 8, 8, 8, 8, 8, 8, 8, 8, 8, 8, 8, 8, 8, 8, 8, 8, 8, 8, 8, 8, 8, 8, 8, 8, 8, 8, 8, 8, 8, 8, 8, 8, 8, 8, 8, 8, 8, 8, 8, 8, 8, 8, 8, 8, 8, 8, 8, 8, 8, 8, 8, 8, 8, 8, 8, 8, 8, 8, 8, 8, 8, 8, 8, 8, 8, 8, 8, 8, 8, 8, 8, 8, 8, 8, 8, 8, 8, 8, 8, 8, 8, 8, 8, 8, 8, 8, 8, 8, 8, 8, 8, 8, 8, 8, 8, 8, 8, 8, 8, 8, 8, 8, 8, 8, 8, 8, 8]).size : Int))).bind fun u3 =>
 some (w64 (v2 + (w64 ((((str [0, 1, 2, 2, 3, 3, 3, 3, 4, 4, 4, 4, 4, 4, 4, 4, 5, 5, 5, 5, 5, 5, 5, 5, 5, 5, 5, 5, 5, 5, 5, 5, 6, 6, 6, 6, 6, 6, 6, 6, 6, 6, 6, 6, 6, 6, 6, 6, 6, 6, 6, 6, 6, 6, 6, 6, 6, 6, 6, 6, 6, 6, 6, 6, 7, 7, 7, 7, 7, 7, 7, 7, 7, 7, 7, 7, 7, 7, 7, 7, 7, 7, 7, 7, 7, 7, 7, 7, 7, 7, 7, 7, 7, 7, 7, 7, 7, 7, 7, 7, 7, 7, 7, 7, 7, 7, 7, 7, 7, 7, 7, 7, 7, 7, 7, 7, 7, 7, 7, 7, 7, 7, 7, 7, 7, 7, 7, 7, 8, 8, 8, 8, 8, 8, 8, 8, 8, 8, 8, 8, 8, 8, 8, 8, 8, 8, 8, 8, 8, 8, 8, 8, 8, 8, 8, 8, 8, 8, 8, 8, 8, 8, 8, 8, 8, 8, 8, 8, 8, 8, 8, 8, 8, 8, 8, 8, 8, 8, 8, 8, 8, 8, 8, 8, 8, 8, 8, 8, 8, 8, 8, 8, 8, 8, 8, 8, 8, 8, 8, 8, 8, 8, 8, 8, 8, 8, 8, 8, 8, 8, 8, 8, 8, 8, 8, 8, 8, 8, 8, 8, 8, 8, 8, 8, 8, 8, 8, 8, 8, 8, 8, 8, 8, 8, 8, 8, 8, 8, 8, 8, 8, 8, 8, 8, 8, 8, 8, 8, 8, 8, 8, 8, 8, 8, 8, 8]).data.toList.getD (IntKind.u8.wrap (x3)).toNat 0).toNat : Int)))))
def zq30 (x : IK .u64) : Option (Int) :=
 (zq31 x).bind fun r =>
 some r
def yin (a : Int) (cmp : Change -> Change -> Option (Int)) : Int × (List Change) -> Option (Lp (Int × (List Change)) ((List Change)))
 | (v1, data2) =>
  (if (decide (a < v1)) = true then (idx data2 v1).bind fun e2 =>
  (idx data2 (w64 (v1 - 1))).bind fun e3 =>
  (cmp e2 e3).bind fun r1 =>
  some (decide (r1 < 0)) else some false).bind fun (v2 : Bool) =>
  if v2 = true then
   (idx data2 (w64 (v1 - 1))).bind fun e8 =>
   (idx data2 v1).bind fun e9 =>
   (idx data2 v1).bind fun e10 =>
   (idx (data2.set v1.toNat e8) (w64 (v1 - 1))).bind fun e11 =>
   some (.nx ((w64 (v1 - 1)), ((data2.set v1.toNat e8).set (w64 (v1 - 1)).toNat e9)))
  else
   some (.dn data2)
def yim (a : Int) (b : Int) (cmp : Change -> Change -> Option (Int)) : Int × (List Change) -> Option (Lp (Int × (List Change)) ((List Change)))
 | (v, data1) =>
  if (decide (v < b)) = true then
   (iter (yin a cmp) (v, data1)).bind fun (data3 : List Change) =>
   some (.nx ((w64 (v + 1)), data3))
  else
   some (.dn data1)
def zq96 (data : List Change) (a : Int) (b : Int) (cmp : Change -> Change -> Option (Int)) : Option ((List Change)) :=
 iter (yim a b cmp) ((w64 (a + 1)), data)
def zq97 (data : List Change) (a : Int) (b : Int) : Option ((List Change)) :=
 zq96 data a b (fun (z0 : Change) (z1 : Change) => zq13 z0 z1)
def yhd (hi : Int) (first : Int) (cmp : Change -> Change -> Option (Int)) : Int × (List Change) -> Option (Lp (Int × (List Change)) ((List Change)))
 | (v, data1) =>
  if (decide (hi <= (w64 ((w64 (2 * v)) + 1)))) = true then
   some (.dn data1)
  else
   ((if (decide ((w64 ((w64 ((w64 (2 * v)) + 1)) + 1)) < hi)) = true then (idx data1 (w64 (first + (w64 ((w64 (2 * v)) + 1))))).bind fun e3 =>
   (idx data1 (w64 ((w64 (first + (w64 ((w64 (2 * v)) + 1)))) + 1))).bind fun e4 =>
   (cmp e3 e4).bind fun r2 =>
   some (decide (r2 < 0)) else some false).bind fun (v2 : Bool) =>
   if v2 = true then
    some (w64 ((w64 ((w64 (2 * v)) + 1)) + 1))
   else
    some (w64 ((w64 (2 * v)) + 1))).bind fun (v1 : Int) =>
   (idx data1 (w64 (first + v))).bind fun e7 =>
   (idx data1 (w64 (first + v1))).bind fun e8 =>
   (cmp e7 e8).bind fun r4 =>
   if (!(decide (r4 < 0))) = true then
    some (.dn data1)
   else
    (idx data1 (w64 (first + v1))).bind fun e14 =>
    (idx data1 (w64 (first + v))).bind fun e15 =>
    (idx data1 (w64 (first + v))).bind fun e16 =>
    (idx (data1.set (w64 (first + v)).toNat e14) (w64 (first + v1))).bind fun e17 =>
    some (.nx (v1, ((data1.set (w64 (first + v)).toNat e14).set (w64 (first + v1)).toNat e15)))
def ykg (data : List Change) (lo : Int) (hi : Int) (first : Int) (cmp : Change -> Change -> Option (Int)) : Option ((List Change)) :=
 iter (yhd hi first cmp) (lo, data)
def yl2 (data : List Change) (lo : Int) (hi : Int) (first : Int) : Option ((List Change)) :=
 ykg data lo hi first (fun (z0 : Change) (z1 : Change) => zq13 z0 z1)
def yiq (a : Int) (b : Int) (cmp : Change -> Change -> Option (Int)) : Int × (List Change) -> Option (Lp (Int × (List Change)) ((List Change)))
 | (v, data1) =>
  if (decide (0 <= v)) = true then
   (ykg data1 v (w64 (b - a)) a cmp).bind fun r =>
   some (.nx ((w64 (v - 1)), r))
  else
   some (.dn data1)
def yip (a : Int) (cmp : Change -> Change -> Option (Int)) : Int × (List Change) -> Option (Lp (Int × (List Change)) ((List Change)))
 | (v1, data3) =>
  if (decide (0 <= v1)) = true then
   (idx data3 (w64 (a + v1))).bind fun e4 =>
   (idx data3 a).bind fun e5 =>
   (idx data3 a).bind fun e6 =>
   (idx (data3.set a.toNat e4) (w64 (a + v1))).bind fun e7 =>
   (ykg ((data3.set a.toNat e4).set (w64 (a + v1)).toNat e5) 0 v1 a cmp).bind fun r1 =>
   some (.nx ((w64 (v1 - 1)), r1))
  else
   some (.dn data3)
def zq94 (data : List Change) (a : Int) (b : Int) (cmp : Change -> Change -> Option (Int)) : Option ((List Change)) :=
 (chk ((2 : Int) ≠ 0)).bind fun u =>
 (iter (yiq a b cmp) ((w64 ((w64 ((w64 (b - a)) - 1)).tdiv 2)), data)).bind fun (data2 : List Change) =>
 iter (yip a cmp) ((w64 ((w64 (b - a)) - 1)), data2)
def zq95 (data : List Change) (a : Int) (b : Int) : Option ((List Change)) :=
 zq94 data a b (fun (z0 : Change) (z1 : Change) => zq13 z0 z1)
def yic (data : List Change) (a : Int) (b : Int) (swaps : Int) (cmp : Change -> Change -> Option (Int)) : Option (Int × Int × Int) :=
 (idx data b).bind fun e2 =>
 (idx data a).bind fun e3 =>
 (cmp e2 e3).bind fun r1 =>
 if (decide (r1 < 0)) = true then
  some (b, a, (w64 (swaps + 1)))
 else
  some (a, b, swaps)
def yki (data : List Change) (a : Int) (b : Int) (swaps : Int) : Option (Int × Int × Int) :=
 yic data a b swaps (fun (z0 : Change) (z1 : Change) => zq13 z0 z1)
def ykj (data : List Change) (a : Int) (b : Int) (c : Int) (swaps : Int) (cmp : Change -> Change -> Option (Int)) : Option (Int × Int) :=
 (yic data a b swaps cmp).bind fun r =>
 (yic data r.2.1 c r.2.2 cmp).bind fun r1 =>
 (yic data r.1 r1.1 r1.2.2 cmp).bind fun r2 =>
 some (r2.2.1, r2.2.2)
def ymb (data : List Change) (a : Int) (b : Int) (c : Int) (swaps : Int) : Option (Int × Int) :=
 ykj data a b c swaps (fun (z0 : Change) (z1 : Change) => zq13 z0 z1)
def zq98 (data : List Change) (a : Int) (swaps : Int) (cmp : Change -> Change -> Option (Int)) : Option (Int × Int) :=
 (ykj data (w64 (a - 1)) a (w64 (a + 1)) swaps cmp).bind fun r =>
 some (r.1, r.2)
def zq99 (data : List Change) (a : Int) (swaps : Int) : Option (Int × Int) :=
 zq98 data a swaps (fun (z0 : Change) (z1 : Change) => zq13 z0 z1)
def zq92 (data : List Change) (a : Int) (b : Int) (cmp : Change -> Change -> Option (Int)) : Option (Int × Int) :=
 (chk ((4 : Int) ≠ 0)).bind fun u =>
 (chk ((4 : Int) ≠ 0)).bind fun u1 =>
 (chk ((4 : Int) ≠ 0)).bind fun u2 =>
 (if (decide (8 <= (w64 (b - a)))) = true then
  (if (decide (50 <= (w64 (b - a)))) = true then
   (zq98 data (w64 (a + (w64 ((w64 ((w64 (b - a)).tdiv 4)) * 1)))) 0 cmp).bind fun r =>
   (zq98 data (w64 (a + (w64 ((w64 ((w64 (b - a)).tdiv 4)) * 2)))) r.2 cmp).bind fun r1 =>
   (zq98 data (w64 (a + (w64 ((w64 ((w64 (b - a)).tdiv 4)) * 3)))) r1.2 cmp).bind fun r2 =>
   some (r.1, r1.1, r2.1, r2.2)
  else
   some ((w64 (a + (w64 ((w64 ((w64 (b - a)).tdiv 4)) * 1)))), (w64 (a + (w64 ((w64 ((w64 (b - a)).tdiv 4)) * 2)))), (w64 (a + (w64 ((w64 ((w64 (b - a)).tdiv 4)) * 3)))), (0 : Int))).bind fun ((v2, v3, v4, v5) : Int × Int × Int × Int) =>
  (ykj data v2 v3 v4 v5 cmp).bind fun r3 =>
  some (r3.1, r3.2)
 else
  some ((w64 (a + (w64 ((w64 ((w64 (b - a)).tdiv 4)) * 2)))), (0 : Int))).bind fun ((v, v1) : Int × Int) =>
 if (v1 == 0) = true then
  some (v, 1)
 else
  if (v1 == 12) = true then
   some (v, 2)
  else
   some (v, 0)
def zq93 (data : List Change) (a : Int) (b : Int) : Option (Int × Int) :=
 zq92 data a b (fun (z0 : Change) (z1 : Change) => zq13 z0 z1)
def yhe : Int × Int × (List Change) -> Option (Lp (Int × Int × (List Change)) ((List Change)))
 | (v, v1, data1) =>
  if (decide (v < v1)) = true then
   (idx data1 v1).bind fun e4 =>
   (idx data1 v).bind fun e5 =>
   (idx data1 v).bind fun e6 =>
   (idx (data1.set v.toNat e4) v1).bind fun e7 =>
   some (.nx ((w64 (v + 1)), (w64 (v1 - 1)), ((data1.set v.toNat e4).set v1.toNat e5)))
  else
   some (.dn data1)
def yo2 (data : List Change) (a : Int) (b : Int) (cmp : Change -> Change -> Option (Int)) : Option ((List Change)) :=
 iter (yhe) (a, (w64 (b - 1)), data)
def yo1 (data : List Change) (a : Int) (b : Int) : Option ((List Change)) :=
 yo2 data a b (fun (z0 : Change) (z1 : Change) => zq13 z0 z1)
def yhs (b : Int) (cmp : Change -> Change -> Option (Int)) (data1 : List Change) : Int -> Option (Lp (Int) (Int))
 | v3 =>
  (if (decide (v3 < b)) = true then (idx data1 v3).bind fun e2 =>
  (idx data1 (w64 (v3 - 1))).bind fun e3 =>
  (cmp e2 e3).bind fun r1 =>
  some (!(decide (r1 < 0))) else some false).bind fun (v4 : Bool) =>
  if v4 = true then
   some (.nx (w64 (v3 + 1)))
  else
   some (.dn v3)
def yhr (cmp : Change -> Change -> Option (Int)) : Int × (List Change) -> Option (Lp (Int × (List Change)) ((List Change)))
 | (v6, data4) =>
  if (decide (1 <= v6)) = true then
   (idx data4 v6).bind fun e18 =>
   (idx data4 (w64 (v6 - 1))).bind fun e19 =>
   (cmp e18 e19).bind fun r7 =>
   if (!(decide (r7 < 0))) = true then
    some (.dn data4)
   else
    (idx data4 (w64 (v6 - 1))).bind fun e24 =>
    (idx data4 v6).bind fun e25 =>
    (idx data4 v6).bind fun e26 =>
    (idx (data4.set v6.toNat e24) (w64 (v6 - 1))).bind fun e27 =>
    some (.nx ((w64 (v6 - 1)), ((data4.set v6.toNat e24).set (w64 (v6 - 1)).toNat e25)))
  else
   some (.dn data4)
def yhq (b : Int) (cmp : Change -> Change -> Option (Int)) : Int × (List Change) -> Option (Lp (Int × (List Change)) ((List Change)))
 | (v7, data6) =>
  if (decide (v7 < b)) = true then
   (idx data6 v7).bind fun e30 =>
   (idx data6 (w64 (v7 - 1))).bind fun e31 =>
   (cmp e30 e31).bind fun r9 =>
   if (!(decide (r9 < 0))) = true then
    some (.dn data6)
   else
    (idx data6 (w64 (v7 - 1))).bind fun e36 =>
    (idx data6 v7).bind fun e37 =>
    (idx data6 v7).bind fun e38 =>
    (idx (data6.set v7.toNat e36) (w64 (v7 - 1))).bind fun e39 =>
    some (.nx ((w64 (v7 + 1)), ((data6.set v7.toNat e36).set (w64 (v7 - 1)).toNat e37)))
  else
   some (.dn data6)
def yhp (a : Int) (b : Int) (cmp : Change -> Change -> Option (Int)) : Int × Int × (List Change) -> Option (Lp (Int × Int × (List Change)) (Fl (Bool × (List Change)) ((List Change))))
 | (v, v1, data1) =>
  if (decide (v1 < 5)) = true then
   flb ((iter (yhs b cmp data1) v).bind fun (v5 : Int) =>
   if (v5 == b) = true then
    some (.ret (.dn (.ret (true, data1))))
   else
    if (decide ((w64 (b - a)) < 50)) = true then
     some (.ret (.dn (.ret (false, data1))))
    else
     (idx data1 (w64 (v5 - 1))).bind fun e12 =>
     (idx data1 v5).bind fun e13 =>
     (idx data1 v5).bind fun e14 =>
     (idx (data1.set v5.toNat e12) (w64 (v5 - 1))).bind fun e15 =>
     (if (decide (2 <= (w64 (v5 - a)))) = true then
      (iter (yhr cmp) ((w64 (v5 - 1)), ((data1.set v5.toNat e12).set (w64 (v5 - 1)).toNat e13))).bind fun (data5 : List Change) =>
      some data5
     else
      some ((data1.set v5.toNat e12).set (w64 (v5 - 1)).toNat e13)).bind fun (data3 : List Change) =>
     if (decide (2 <= (w64 (b - v5)))) = true then
      (iter (yhq b cmp) ((w64 (v5 + 1)), data3)).bind fun (data7 : List Change) =>
      some (.go (v5, data7))
     else
      some (.go (v5, data3))) fun ((v2, data2) : Int × (List Change)) =>
   some (.nx (v2, (w64 (v1 + 1)), data2))
  else
   some (.dn (.go data1))
def ypa (data : List Change) (a : Int) (b : Int) (cmp : Change -> Change -> Option (Int)) : Option (Bool × (List Change)) :=
 flb (iter (yhp a b cmp) ((w64 (a + 1)), (0 : Int), data)) fun (data8 : List Change) =>
 some (false, data8)
def yo9 (data : List Change) (a : Int) (b : Int) : Option (Bool × (List Change)) :=
 ypa data a b (fun (z0 : Change) (z1 : Change) => zq13 z0 z1)
def yhj (a : Int) (cmp : Change -> Change -> Option (Int)) (v1 : Int) (data1 : List Change) : Int -> Option (Lp (Int) (Int))
 | v2 =>
  (if (decide (v2 <= v1)) = true then (idx data1 a).bind fun e10 =>
  (idx data1 v2).bind fun e11 =>
  (cmp e10 e11).bind fun r1 =>
  some (!(decide (r1 < 0))) else some false).bind fun (v3 : Bool) =>
  if v3 = true then
   some (.nx (w64 (v2 + 1)))
  else
   some (.dn v2)
def yhi (a : Int) (cmp : Change -> Change -> Option (Int)) (data1 : List Change) (v4 : Int) : Int -> Option (Lp (Int) (Int))
 | v5 =>
  (if (decide (v4 <= v5)) = true then (idx data1 a).bind fun e14 =>
  (idx data1 v5).bind fun e15 =>
  (cmp e14 e15).bind fun r3 =>
  some (decide (r3 < 0)) else some false).bind fun (v6 : Bool) =>
  if v6 = true then
   some (.nx (w64 (v5 - 1)))
  else
   some (.dn v5)
def yhh (a : Int) (cmp : Change -> Change -> Option (Int)) : Int × Int × (List Change) -> Option (Lp (Int × Int × (List Change)) (Int × (List Change)))
 | (v, v1, data1) =>
  (iter (yhj a cmp v1 data1) v).bind fun (v4 : Int) =>
  (iter (yhi a cmp data1 v4) v1).bind fun (v7 : Int) =>
  if (decide (v7 < v4)) = true then
   some (.dn (v4, data1))
  else
   (idx data1 v7).bind fun e20 =>
   (idx data1 v4).bind fun e21 =>
   (idx data1 v4).bind fun e22 =>
   (idx (data1.set v4.toNat e20) v7).bind fun e23 =>
   some (.nx ((w64 (v4 + 1)), (w64 (v7 - 1)), ((data1.set v4.toNat e20).set v7.toNat e21)))
def yo6 (data : List Change) (a : Int) (b : Int) (pivot : Int) (cmp : Change -> Change -> Option (Int)) : Option (Int × (List Change)) :=
 (idx data pivot).bind fun e4 =>
 (idx data a).bind fun e5 =>
 (idx data a).bind fun e6 =>
 (idx (data.set a.toNat e4) pivot).bind fun e7 =>
 (iter (yhh a cmp) ((w64 (a + 1)), (w64 (b - 1)), ((data.set a.toNat e4).set pivot.toNat e5))).bind fun ((v8, data2) : Int × (List Change)) =>
 some (v8, data2)
def yo4 (data : List Change) (a : Int) (b : Int) (pivot : Int) : Option (Int × (List Change)) :=
 yo6 data a b pivot (fun (z0 : Change) (z1 : Change) => zq13 z0 z1)
def yho (data : List Change) (a : Int) (b : Int) (pivot : Int) (cmp : Change -> Change -> Option (Int)) (e4 : Change) (e5 : Change) : Int -> Option (Lp (Int) (Int))
 | v =>
  (if (decide (v <= (w64 (b - 1)))) = true then (idx ((data.set a.toNat e4).set pivot.toNat e5) v).bind fun e10 =>
  (idx ((data.set a.toNat e4).set pivot.toNat e5) a).bind fun e11 =>
  (cmp e10 e11).bind fun r1 =>
  some (decide (r1 < 0)) else some false).bind fun (v1 : Bool) =>
  if v1 = true then
   some (.nx (w64 (v + 1)))
  else
   some (.dn v)
def yhn (data : List Change) (a : Int) (pivot : Int) (cmp : Change -> Change -> Option (Int)) (e4 : Change) (e5 : Change) (v2 : Int) : Int -> Option (Lp (Int) (Int))
 | v3 =>
  (if (decide (v2 <= v3)) = true then (idx ((data.set a.toNat e4).set pivot.toNat e5) v3).bind fun e14 =>
  (idx ((data.set a.toNat e4).set pivot.toNat e5) a).bind fun e15 =>
  (cmp e14 e15).bind fun r3 =>
  some (!(decide (r3 < 0))) else some false).bind fun (v4 : Bool) =>
  if v4 = true then
   some (.nx (w64 (v3 - 1)))
  else
   some (.dn v3)
def yhm (a : Int) (cmp : Change -> Change -> Option (Int)) (v7 : Int) (data1 : List Change) : Int -> Option (Lp (Int) (Int))
 | v8 =>
  (if (decide (v8 <= v7)) = true then (idx data1 v8).bind fun e34 =>
  (idx data1 a).bind fun e35 =>
  (cmp e34 e35).bind fun r5 =>
  some (decide (r5 < 0)) else some false).bind fun (v9 : Bool) =>
  if v9 = true then
   some (.nx (w64 (v8 + 1)))
  else
   some (.dn v8)
def yhl (a : Int) (cmp : Change -> Change -> Option (Int)) (data1 : List Change) (v10 : Int) : Int -> Option (Lp (Int) (Int))
 | v11 =>
  (if (decide (v10 <= v11)) = true then (idx data1 v11).bind fun e38 =>
  (idx data1 a).bind fun e39 =>
  (cmp e38 e39).bind fun r7 =>
  some (!(decide (r7 < 0))) else some false).bind fun (v12 : Bool) =>
  if v12 = true then
   some (.nx (w64 (v11 - 1)))
  else
   some (.dn v11)
def yhk (a : Int) (cmp : Change -> Change -> Option (Int)) : Int × Int × (List Change) -> Option (Lp (Int × Int × (List Change)) (Int × (List Change)))
 | (v6, v7, data1) =>
  (iter (yhm a cmp v7 data1) v6).bind fun (v10 : Int) =>
  (iter (yhl a cmp data1 v10) v7).bind fun (v13 : Int) =>
  if (decide (v13 < v10)) = true then
   some (.dn (v13, data1))
  else
   (idx data1 v13).bind fun e44 =>
   (idx data1 v10).bind fun e45 =>
   (idx data1 v10).bind fun e46 =>
   (idx (data1.set v10.toNat e44) v13).bind fun e47 =>
   some (.nx ((w64 (v10 + 1)), (w64 (v13 - 1)), ((data1.set v10.toNat e44).set v13.toNat e45)))
def yo8 (data : List Change) (a : Int) (b : Int) (pivot : Int) (cmp : Change -> Change -> Option (Int)) : Option (Int × Bool × (List Change)) :=
 (idx data pivot).bind fun e4 =>
 (idx data a).bind fun e5 =>
 (idx data a).bind fun e6 =>
 (idx (data.set a.toNat e4) pivot).bind fun e7 =>
 (iter (yho data a b pivot cmp e4 e5) (w64 (a + 1))).bind fun (v2 : Int) =>
 (iter (yhn data a pivot cmp e4 e5 v2) (w64 (b - 1))).bind fun (v5 : Int) =>
 if (decide (v5 < v2)) = true then
  (idx ((data.set a.toNat e4).set pivot.toNat e5) a).bind fun e20 =>
  (idx ((data.set a.toNat e4).set pivot.toNat e5) v5).bind fun e21 =>
  (idx ((data.set a.toNat e4).set pivot.toNat e5) v5).bind fun e22 =>
  (idx (((data.set a.toNat e4).set pivot.toNat e5).set v5.toNat e20) a).bind fun e23 =>
  some (v5, true, ((((data.set a.toNat e4).set pivot.toNat e5).set v5.toNat e20).set a.toNat e21))
 else
  (idx ((data.set a.toNat e4).set pivot.toNat e5) v5).bind fun e28 =>
  (idx ((data.set a.toNat e4).set pivot.toNat e5) v2).bind fun e29 =>
  (idx ((data.set a.toNat e4).set pivot.toNat e5) v2).bind fun e30 =>
  (idx (((data.set a.toNat e4).set pivot.toNat e5).set v2.toNat e28) v5).bind fun e31 =>
  (iter (yhk a cmp) ((w64 (v2 + 1)), (w64 (v5 - 1)), ((((data.set a.toNat e4).set pivot.toNat e5).set v2.toNat e28).set v5.toNat e29))).bind fun ((v14, data2) : Int × (List Change)) =>
  (idx data2 a).bind fun e52 =>
  (idx data2 v14).bind fun e53 =>
  (idx data2 v14).bind fun e54 =>
  (idx (data2.set v14.toNat e52) a).bind fun e55 =>
  some (v14, false, ((data2.set v14.toNat e52).set a.toNat e53))
def yo7 (data : List Change) (a : Int) (b : Int) (pivot : Int) : Option (Int × Bool × (List Change)) :=
 yo8 data a b pivot (fun (z0 : Change) (z1 : Change) => zq13 z0 z1)
def yd1 (length : Int) : Option ((IK .u64)) :=
 (zq30 (⟨(IntKind.u64.wrap (length))⟩ : IK .u64)).bind fun r =>
 (chk ((0 : Int) <= r)).bind fun u =>
 some (⟨(IntKind.u64.wrap (1 * 2 ^ (min (r : Int).toNat (IntKind.u64).bits)))⟩ : IK .u64)
def ydy (r : IK .u64) : Option ((IK .u64) × (IK .u64)) :=
 (chk ((0 : Int) <= 13)).bind fun u1 =>
 (chk ((0 : Int) <= 7)).bind fun u3 =>
 (chk ((0 : Int) <= 17)).bind fun u5 =>
 some ((⟨(IntKind.u64.wrap ((BitVec.ofInt (IntKind.u64).bits (IntKind.u64.wrap ((BitVec.ofInt (IntKind.u64).bits (IntKind.u64.wrap ((BitVec.ofInt (IntKind.u64).bits r.v ^^^ BitVec.ofInt (IntKind.u64).bits (IntKind.u64.wrap (r.v * 2 ^ (min (13 : Int).toNat (IntKind.u64).bits)))).toNat : Int)) ^^^ BitVec.ofInt (IntKind.u64).bits ((IntKind.u64.wrap ((BitVec.ofInt (IntKind.u64).bits r.v ^^^ BitVec.ofInt (IntKind.u64).bits (IntKind.u64.wrap (r.v * 2 ^ (min (13 : Int).toNat (IntKind.u64).bits)))).toNat : Int)).fdiv (2 ^ (min (7 : Int).toNat (IntKind.u64).bits)))).toNat : Int)) ^^^ BitVec.ofInt (IntKind.u64).bits (IntKind.u64.wrap ((IntKind.u64.wrap ((BitVec.ofInt (IntKind.u64).bits (IntKind.u64.wrap ((BitVec.ofInt (IntKind.u64).bits r.v ^^^ BitVec.ofInt (IntKind.u64).bits (IntKind.u64.wrap (r.v * 2 ^ (min (13 : Int).toNat (IntKind.u64).bits)))).toNat : Int)) ^^^ BitVec.ofInt (IntKind.u64).bits ((IntKind.u64.wrap ((BitVec.ofInt (IntKind.u64).bits r.v ^^^ BitVec.ofInt (IntKind.u64).bits (IntKind.u64.wrap (r.v * 2 ^ (min (13 : Int).toNat (IntKind.u64).bits)))).toNat : Int)).fdiv (2 ^ (min (7 : Int).toNat (IntKind.u64).bits)))).toNat : Int)) * 2 ^ (min (17 : Int).toNat (IntKind.u64).bits)))).toNat : Int))⟩ : IK .u64), (⟨(IntKind.u64.wrap ((BitVec.ofInt (IntKind.u64).bits (IntKind.u64.wrap ((BitVec.ofInt (IntKind.u64).bits (IntKind.u64.wrap ((BitVec.ofInt (IntKind.u64).bits r.v ^^^ BitVec.ofInt (IntKind.u64).bits (IntKind.u64.wrap (r.v * 2 ^ (min (13 : Int).toNat (IntKind.u64).bits)))).toNat : Int)) ^^^ BitVec.ofInt (IntKind.u64).bits ((IntKind.u64.wrap ((BitVec.ofInt (IntKind.u64).bits r.v ^^^ BitVec.ofInt (IntKind.u64).bits (IntKind.u64.wrap (r.v * 2 ^ (min (13 : Int).toNat (IntKind.u64).bits)))).toNat : Int)).fdiv (2 ^ (min (7 : Int).toNat (IntKind.u64).bits)))).toNat : Int)) ^^^ BitVec.ofInt (IntKind.u64).bits (IntKind.u64.wrap ((IntKind.u64.wrap ((BitVec.ofInt (IntKind.u64).bits (IntKind.u64.wrap ((BitVec.ofInt (IntKind.u64).bits r.v ^^^ BitVec.ofInt (IntKind.u64).bits (IntKind.u64.wrap (r.v * 2 ^ (min (13 : Int).toNat (IntKind.u64).bits)))).toNat : Int)) ^^^ BitVec.ofInt (IntKind.u64).bits ((IntKind.u64.wrap ((BitVec.ofInt (IntKind.u64).bits r.v ^^^ BitVec.ofInt (IntKind.u64).bits (IntKind.u64.wrap (r.v * 2 ^ (min (13 : Int).toNat (IntKind.u64).bits)))).toNat : Int)).fdiv (2 ^ (min (7 : Int).toNat (IntKind.u64).bits)))).toNat : Int)) * 2 ^ (min (17 : Int).toNat (IntKind.u64).bits)))).toNat : Int))⟩ : IK .u64))
def yit (a : Int) (b : Int) (r : (IK .u64)) : Int × (List Change) × Int -> Option (Lp (Int × (List Change) × Int) ((List Change)))
 | (v, data1, v1) =>
  (chk ((4 : Int) ≠ 0)).bind fun u1 =>
  if (decide (v <= (w64 ((w64 (a + (w64 ((w64 ((w64 (b - a)).tdiv 4)) * 2)))) + 1)))) = true then
   (ydy (⟨v1⟩ : IK .u64)).bind fun r1 =>
   (if (decide ((w64 (b - a)) <= (w64 ((IntKind.u64.wrap ((BitVec.ofInt (IntKind.u64).bits r1.1.v &&& BitVec.ofInt (IntKind.u64).bits (IntKind.u64.wrap (r.v - 1))).toNat : Int)))))) = true then
    some (w64 ((w64 ((IntKind.u64.wrap ((BitVec.ofInt (IntKind.u64).bits r1.1.v &&& BitVec.ofInt (IntKind.u64).bits (IntKind.u64.wrap (r.v - 1))).toNat : Int)))) - (w64 (b - a))))
   else
    some (w64 ((IntKind.u64.wrap ((BitVec.ofInt (IntKind.u64).bits r1.1.v &&& BitVec.ofInt (IntKind.u64).bits (IntKind.u64.wrap (r.v - 1))).toNat : Int))))).bind fun (v2 : Int) =>
   (idx data1 (w64 (a + v2))).bind fun e4 =>
   (idx data1 v).bind fun e5 =>
   (idx data1 v).bind fun e6 =>
   (idx (data1.set v.toNat e4) (w64 (a + v2))).bind fun e7 =>
   some (.nx ((w64 (v + 1)), ((data1.set v.toNat e4).set (w64 (a + v2)).toNat e5), r1.2.v))
  else
   some (.dn data1)
def zq90 (data : List Change) (a : Int) (b : Int) (cmp : Change -> Change -> Option (Int)) : Option ((List Change)) :=
 if (decide (8 <= (w64 (b - a)))) = true then
  (yd1 (w64 (b - a))).bind fun r =>
  (chk ((4 : Int) ≠ 0)).bind fun u =>
  iter (yit a b r) ((w64 ((w64 (a + (w64 ((w64 ((w64 (b - a)).tdiv 4)) * 2)))) - 1)), data, (IntKind.u64.wrap ((w64 (b - a)))))
 else
  some data
def zq91 (data : List Change) (a : Int) (b : Int) : Option ((List Change)) :=
 zq90 data a b (fun (z0 : Change) (z1 : Change) => zq13 z0 z1)
def yhg (rec_ : (List Change) -> Int -> Int -> Int -> Option ((List Change))) : Int × Int × Int × Bool × Bool × (List Change) -> Option (Lp (Int × Int × Int × Bool × Bool × (List Change)) ((List Change)))
 | (a1, b1, limit1, mid, mid1, data1) =>
  if (decide ((w64 (b1 - a1)) <= 12)) = true then
   (zq97 data1 a1 b1).bind fun r =>
   some (.dn r)
  else
   if (limit1 == 0) = true then
    (zq95 data1 a1 b1).bind fun r2 =>
    some (.dn r2)
   else
    (if (!mid) = true then
     (zq91 data1 a1 b1).bind fun r4 =>
     some ((w64 (limit1 - 1)), r4)
    else
     some (limit1, data1)).bind fun ((limit2, data2) : Int × (List Change)) =>
    (zq93 data2 a1 b1).bind fun r5 =>
    (if (r5.2 == 2) = true then
     (yo1 data2 a1 b1).bind fun r6 =>
     some ((w64 ((w64 (b1 - 1)) - (w64 (r5.1 - a1)))), (1 : Int), r6)
    else
     some (r5.1, r5.2, data2)).bind fun ((leftLen, rightLen, data3) : Int × Int × (List Change)) =>
    flb ((if mid = true then if mid1 = true then some (rightLen == 1) else some false else some false).bind fun (v : Bool) =>
    if v = true then
     (yo9 data3 a1 b1).bind fun r7 =>
     if r7.1 = true then
      some (.ret (.dn r7.2))
     else
      some (.go r7.2)
    else
     some (.go data3)) fun (data4 : List Change) =>
    (if (decide (0 < a1)) = true then (idx data4 (w64 (a1 - 1))).bind fun e6 =>
    (idx data4 leftLen).bind fun e7 =>
    (zq13 e6 e7).bind fun r11 =>
    some (!(decide (r11 < 0))) else some false).bind fun (v1 : Bool) =>
    if v1 = true then
     (yo4 data4 a1 b1 leftLen).bind fun r12 =>
     some (.nx (r12.1, b1, limit2, mid, mid1, r12.2))
    else
     (yo7 data4 a1 b1 leftLen).bind fun r13 =>
     (chk ((8 : Int) ≠ 0)).bind fun u =>
     if (decide ((w64 (r13.1 - a1)) < (w64 (b1 - r13.1)))) = true then
      (rec_ r13.2.2 a1 r13.1 limit2).bind fun r14 =>
      some (.nx ((w64 (r13.1 + 1)), b1, limit2, (decide ((w64 ((w64 (b1 - a1)).tdiv 8)) <= (w64 (r13.1 - a1)))), r13.2.1, r14))
     else
      (rec_ r13.2.2 (w64 (r13.1 + 1)) b1 limit2).bind fun r15 =>
      some (.nx (a1, r13.1, limit2, (decide ((w64 ((w64 (b1 - a1)).tdiv 8)) <= (w64 (b1 - r13.1)))), r13.2.1, r15))
def ybt (rec_ : (List Change) -> Int -> Int -> Int -> Option ((List Change))) (data : List Change) (a : Int) (b : Int) (limit : Int) : Option ((List Change)) :=
 iter (yhg rec_) (a, b, limit, true, true, data)
def ycf : Nat -> (List Change) -> Int -> Int -> Int -> Option ((List Change))
 | 0 => fun _ _ _ _ => none
 | n + 1 => ybt (ycf n)
def yl5 (data : List Change) (a : Int) (b : Int) (limit : Int) : Option ((List Change)) := ycf 4294967296 data a b limit
def zq89 (x : List Change) : Option ((List Change)) :=
 (zq30 (⟨(IntKind.u64.wrap ((x.length : Int)))⟩ : IK .u64)).bind fun r =>
 (yl5 x 0 (x.length : Int) r).bind fun r1 =>
 some r1
def yg6 (a : Timetable) (b : Timetable) : Int × (List Change) -> Option (Lp (Int × (List Change)) (Fl ((List Change) × Bool) ((List Change))))
 | (v1, x) =>
  if (decide (v1 < (a.Trips.length : Int))) = true then
   flb ((idx a.Trips v1).bind fun e =>
   (zq25 b e.Id).bind fun r8 =>
   if (decide (r8 < 0)) = true then
    (chk (x.length + ([(⟨2, e, 0⟩ : Change)] : List Change).length <= 4294967296)).bind fun u =>
    some (.go (x ++ ([(⟨2, e, 0⟩ : Change)] : List Change)))
   else
    (idx b.Trips r8).bind fun e2 =>
    if (e2.Line != e.Line) = true then
     some (.ret (.dn (.ret (([] : List Change), false))))
    else
     (idx b.Trips r8).bind fun e6 =>
     if (e6.Start != e.Start) = true then
      (idx b.Trips r8).bind fun e8 =>
      (chk (x.length + ([(⟨3, e, e8.Start⟩ : Change)] : List Change).length <= 4294967296)).bind fun u2 =>
      some (.go (x ++ ([(⟨3, e, e8.Start⟩ : Change)] : List Change)))
     else
      some (.go x)) fun (x1 : List Change) =>
   some (.nx ((w64 (v1 + 1)), x1))
  else
   some (.dn (.go x))
def yen (a : Timetable) (b : Timetable) : Int × (List Change) -> Option (Lp (Int × (List Change)) ((List Change)))
 | (v3, x3) =>
  if (decide (v3 < (b.Trips.length : Int))) = true then
   ((idx b.Trips v3).bind fun e9 =>
   (zq25 a e9.Id).bind fun r11 =>
   if (decide (r11 < 0)) = true then
    (chk (x3.length + ([(⟨1, e9, 0⟩ : Change)] : List Change).length <= 4294967296)).bind fun u3 =>
    some (x3 ++ ([(⟨1, e9, 0⟩ : Change)] : List Change))
   else
    some x3).bind fun (x4 : List Change) =>
   some (.nx ((w64 (v3 + 1)), x4))
  else
   some (.dn x3)
def zq3 (a : Timetable) (b : Timetable) : Option ((List Change) × Bool) :=
 (zq8 a).bind fun r4 =>
 (if (!r4) = true then some true else (zq8 b).bind fun r5 =>
 if (!r5) = true then some true else (zq18 a.Network).bind fun r6 =>
 (zq18 b.Network).bind fun r7 =>
 some (!(r6.toList == r7.toList))).bind fun (v : Bool) =>
 if v = true then
  some (([] : List Change), false)
 else
  flb (iter (yg6 a b) ((0 : Int), ([] : List Change))) fun (x2 : List Change) =>
  (iter (yen a b) ((0 : Int), x2)).bind fun (x5 : List Change) =>
  if (decide (24 < (x5.length : Int))) = true then
   some (([] : List Change), false)
  else
   (zq89 x5).bind fun r12 =>
   some (r12, true)
def yfk (n : Network) : ByteArray × Int -> Option (Lp (ByteArray × Int) (ByteArray))
 | (i, i1) =>
  if (decide (i1 < (n.Stops.length : Int))) = true then
   (chk (i.size + (str [115, 116, 111, 112, 32]).size <= 4294967296)).bind fun u =>
   (idx n.Stops i1).bind fun e =>
   (chk ((i ++ (str [115, 116, 111, 112, 32])).size + e.size <= 4294967296)).bind fun u1 =>
   (chk (((i ++ (str [115, 116, 111, 112, 32])) ++ e).size + (str [10]).size <= 4294967296)).bind fun u2 =>
   some (.nx ((((i ++ (str [115, 116, 111, 112, 32])) ++ e) ++ (str [10])), (w64 (i1 + 1))))
  else
   some (.dn i)
def yc6 (n : Network) (e1 : Line) : ByteArray × Int -> Option (Lp (ByteArray × Int) (ByteArray))
 | (i4, v) =>
  if (decide (v < (e1.Stops.length : Int))) = true then
   ((chk (i4.size + (str [32]).size <= 4294967296)).bind fun u7 =>
   (idx e1.Stops v).bind fun e4 =>
   (idx n.Stops e4).bind fun e5 =>
   (chk ((i4 ++ (str [32])).size + e5.size <= 4294967296)).bind fun u8 =>
   if (decide (v < (e1.Runs.length : Int))) = true then
    (chk (((i4 ++ (str [32])) ++ e5).size + (str [32]).size <= 4294967296)).bind fun u9 =>
    (idx e1.Runs v).bind fun e6 =>
    (zq53 e6).bind fun r =>
    (chk ((((i4 ++ (str [32])) ++ e5) ++ (str [32])).size + r.size <= 4294967296)).bind fun u10 =>
    some ((((i4 ++ (str [32])) ++ e5) ++ (str [32])) ++ r)
   else
    some ((i4 ++ (str [32])) ++ e5)).bind fun (i5 : ByteArray) =>
   some (.nx (i5, (w64 (v + 1))))
  else
   some (.dn i4)
def yfj (n : Network) : ByteArray × Int -> Option (Lp (ByteArray × Int) (ByteArray))
 | (i3, x) =>
  if (decide (x < (n.Lines.length : Int))) = true then
   (idx n.Lines x).bind fun e1 =>
   (chk (i3.size + (str [108, 105, 110, 101, 32]).size <= 4294967296)).bind fun u3 =>
   (chk ((i3 ++ (str [108, 105, 110, 101, 32])).size + e1.Name.size <= 4294967296)).bind fun u4 =>
   (iter (yc6 n e1) (((i3 ++ (str [108, 105, 110, 101, 32])) ++ e1.Name), (0 : Int))).bind fun (i6 : ByteArray) =>
   (chk (i6.size + (str [10]).size <= 4294967296)).bind fun u11 =>
   some (.nx ((i6 ++ (str [10])), (w64 (x + 1))))
  else
   some (.dn i3)
def zq78 (n : Network) : Option (ByteArray) :=
 (iter (yfk n) ((str []), (0 : Int))).bind fun (i2 : ByteArray) =>
 (iter (yfj n) (i2, (0 : Int))).bind fun (i7 : ByteArray) =>
 some i7
def ydn (a : Timetable) (b : Timetable) : Int × Int × (List Change) -> Option (Lp (Int × Int × (List Change)) (Fl ((List Change) × Bool) ((List Change))))
 | (v1, v2, k) =>
  (if (decide (v1 < (a.Trips.length : Int))) = true then some true else some (decide (v2 < (b.Trips.length : Int)))).bind fun (v3 : Bool) =>
  if v3 = true then
   (if (v2 == (b.Trips.length : Int)) = true then some true else if (decide (v1 < (a.Trips.length : Int))) = true then (idx a.Trips v1).bind fun e2 =>
   (idx b.Trips v2).bind fun e3 =>
   some (decide (e2.Id < e3.Id)) else some false).bind fun (v4 : Bool) =>
   if v4 = true then
    (idx a.Trips v1).bind fun e4 =>
    (chk (k.length + ([(⟨2, e4, 0⟩ : Change)] : List Change).length <= 4294967296)).bind fun u =>
    some (.nx ((w64 (v1 + 1)), v2, (k ++ ([(⟨2, e4, 0⟩ : Change)] : List Change))))
   else
    (if (v1 == (a.Trips.length : Int)) = true then some true else (idx b.Trips v2).bind fun e7 =>
    (idx a.Trips v1).bind fun e8 =>
    some (decide (e7.Id < e8.Id))).bind fun (v5 : Bool) =>
    if v5 = true then
     (idx b.Trips v2).bind fun e9 =>
     (chk (k.length + ([(⟨1, e9, 0⟩ : Change)] : List Change).length <= 4294967296)).bind fun u1 =>
     some (.nx (v1, (w64 (v2 + 1)), (k ++ ([(⟨1, e9, 0⟩ : Change)] : List Change))))
    else
     (idx a.Trips v1).bind fun e12 =>
     (idx b.Trips v2).bind fun e13 =>
     if (e12.Line != e13.Line) = true then
      some (.dn (.ret (([] : List Change), false)))
     else
      ((idx a.Trips v1).bind fun e17 =>
      (idx b.Trips v2).bind fun e18 =>
      if (e17.Start != e18.Start) = true then
       (idx a.Trips v1).bind fun e21 =>
       (idx b.Trips v2).bind fun e22 =>
       (chk (k.length + ([(⟨3, e21, e22.Start⟩ : Change)] : List Change).length <= 4294967296)).bind fun u3 =>
       some (k ++ ([(⟨3, e21, e22.Start⟩ : Change)] : List Change))
      else
       some k).bind fun (k1 : List Change) =>
      some (.nx ((w64 (v1 + 1)), (w64 (v2 + 1)), k1))
  else
   some (.dn (.go k))
def zq32 (a : Timetable) (b : Timetable) : Option ((List Change) × Bool) :=
 (zq72 a).bind fun r4 =>
 (if (!r4) = true then some true else (zq72 b).bind fun r5 =>
 if (!r5) = true then some true else (zq78 a.Network).bind fun r6 =>
 (zq78 b.Network).bind fun r7 =>
 some (!(r6.toList == r7.toList))).bind fun (v : Bool) =>
 if v = true then
  some (([] : List Change), false)
 else
  flb (iter (ydn a b) ((0 : Int), (0 : Int), ([] : List Change))) fun (k2 : List Change) =>
  if (decide (24 < (k2.length : Int))) = true then
   some (([] : List Change), false)
  else
   some (k2, true)
def ydx (a : List Change) (b : List Change) : Int -> Option (Lp (Int) (Fl (Bool) (Unit)))
 | v =>
  if (decide (v < (a.length : Int))) = true then
   (idx a v).bind fun e2 =>
   (idx b v).bind fun e3 =>
   if (!((e2.Kind == e3.Kind) && (((e2.Trip.Id == e3.Trip.Id) && ((e2.Trip.Line == e3.Trip.Line) && ((e2.Trip.Start == e3.Trip.Start) && true))) && ((e2.To == e3.To) && true)))) = true then
    some (.dn (.ret false))
   else
    some (.nx (w64 (v + 1)))
  else
   some (.dn (.go ()))
def yf1 (a : List Change) (b : List Change) : Option (Bool) :=
 if ((a.length : Int) != (b.length : Int)) = true then
  some false
 else
  flb (iter (ydx a b) (0 : Int)) fun (_ : Unit) =>
  some true
def zq81 (s : List ByteArray) : Option ((List ByteArray)) :=
 (chk (([] : List ByteArray).length + s.length <= 4294967296)).bind fun u =>
 some s
def zq80 (s : List Int) : Option ((List Int)) :=
 (chk (([] : List Int).length + s.length <= 4294967296)).bind fun u =>
 some s
def zq14 (l : Line) : Option (Line) :=
 (zq80 l.Stops).bind fun r2 =>
 (zq80 l.Runs).bind fun r3 =>
 some (⟨l.Name, r2, r3⟩ : Line)
def ydu (n : Network) : Int × (List Line) -> Option (Lp (Int × (List Line)) ((List Line)))
 | (v, v1) =>
  if (decide (v < (n.Lines.length : Int))) = true then
   (idx n.Lines v).bind fun e =>
   (zq14 e).bind fun r3 =>
   (idx v1 v).bind fun e2 =>
   some (.nx ((w64 (v + 1)), (v1.set v.toNat r3)))
  else
   some (.dn v1)
def zq15 (n : Network) : Option (Network) :=
 (zq81 n.Stops).bind fun r1 =>
 (chk ((0 : Int) <= (n.Lines.length : Int) /\ ((n.Lines.length : Int) : Int) <= 4294967296)).bind fun u1 =>
 (iter (ydu n) ((0 : Int), (List.replicate (n.Lines.length : Int).toNat ((⟨ByteArray.empty, ([] : List Int), ([] : List Int)⟩ : Line) : Line)))).bind fun (v2 : List Line) =>
 some (⟨r1, v2⟩ : Network)
def zq79 (s : List Trip) : Option ((List Trip)) :=
 (chk (([] : List Trip).length + s.length <= 4294967296)).bind fun u =>
 some s
def zq16 (t : Timetable) : Option (Timetable) :=
 (zq15 t.Network).bind fun r2 =>
 (zq79 t.Trips).bind fun r3 =>
 some (⟨(⟨r2.Stops, r2.Lines⟩ : Network), r3⟩ : Timetable)
def yc4 (s : List Trip) (v : Trip) : Int -> Option (Lp (Int) (Fl (Int) (Unit)))
 | v1 =>
  if (decide (v1 < (s.length : Int))) = true then
   (idx s v1).bind fun e1 =>
   if ((v.Id == e1.Id) && ((v.Line == e1.Line) && ((v.Start == e1.Start) && true))) = true then
    some (.dn (.ret v1))
   else
    some (.nx (w64 (v1 + 1)))
  else
   some (.dn (.go ()))
def zq85 (s : List Trip) (v : Trip) : Option (Int) :=
 flb (iter (yc4 s v) (0 : Int)) fun (_ : Unit) =>
 some (-1)
def zq88 (s : List Trip) (i : Int) (v : List Trip) : Option ((List Trip)) :=
 insM s i v
def ybb (t : Timetable) (x : Trip) : Int -> Option (Lp (Int) (Int))
 | v =>
  (if (decide (v < (t.Trips.length : Int))) = true then (idx t.Trips v).bind fun e1 =>
  some (decide (e1.Id < x.Id)) else some false).bind fun (v1 : Bool) =>
  if v1 = true then
   some (.nx (w64 (v + 1)))
  else
   some (.dn v)
def zq27 (t : Timetable) (x : Trip) : Option (Timetable) :=
 (iter (ybb t x) (0 : Int)).bind fun (v2 : Int) =>
 (zq16 t).bind fun r =>
 (zq88 r.Trips v2 ([x] : List Trip)).bind fun r1 =>
 some (⟨(⟨r.Network.Stops, r.Network.Lines⟩ : Network), r1⟩ : Timetable)
def zq82 (s : List Trip) (i : Int) (j : Int) : Option ((List Trip)) :=
 delM s i j
def zq29 (t : Timetable) (i : Int) : Option (Timetable) :=
 (zq16 t).bind fun r =>
 (zq82 r.Trips i (w64 (i + 1))).bind fun r1 =>
 some (⟨(⟨r.Network.Stops, r.Network.Lines⟩ : Network), r1⟩ : Timetable)
def zq12 (t : Timetable) : Option (Timetable × Bool) :=
 (zq8 t).bind fun r =>
 if (!r) = true then
  some ((⟨(⟨([] : List ByteArray), ([] : List Line)⟩ : Network), ([] : List Trip)⟩ : Timetable), false)
 else
  some (t, true)
def yef (list : List Change) : Int × Int × (List ByteArray) × (List Line) × (List Trip) -> Option (Lp (Int × Int × (List ByteArray) × (List Line) × (List Trip)) (Fl (Timetable × Bool) ((List ByteArray) × (List Line) × (List Trip))))
 | (c, v, v1, v2, v3) =>
  if (decide (v < (list.length : Int))) = true then
   flb ((idx list v).bind fun e =>
   if (decide (e.Trip.Id <= c)) = true then
    some (.ret (.dn (.ret ((⟨(⟨([] : List ByteArray), ([] : List Line)⟩ : Network), ([] : List Trip)⟩ : Timetable), false))))
   else
    (zq85 v3 e.Trip).bind fun r3 =>
    (if (e.Kind == 1) = true then if (e.To == 0) = true then (zq25 (⟨(⟨v1, v2⟩ : Network), v3⟩ : Timetable) e.Trip.Id).bind fun r4 =>
    some (decide (r4 < 0)) else some false else some false).bind fun (v7 : Bool) =>
    if v7 = true then
     (zq27 (⟨(⟨v1, v2⟩ : Network), v3⟩ : Timetable) e.Trip).bind fun r5 =>
     some (.go (e.Trip.Id, r5.Network.Stops, r5.Network.Lines, r5.Trips))
    else
     (if (e.Kind == 2) = true then if (e.To == 0) = true then some (decide (0 <= r3)) else some false else some false).bind fun (v8 : Bool) =>
     if v8 = true then
      (zq29 (⟨(⟨v1, v2⟩ : Network), v3⟩ : Timetable) r3).bind fun r6 =>
      some (.go (e.Trip.Id, r6.Network.Stops, r6.Network.Lines, r6.Trips))
     else
      (if (e.Kind == 3) = true then if (e.To != e.Trip.Start) = true then some (decide (0 <= r3)) else some false else some false).bind fun (v9 : Bool) =>
      if v9 = true then
       (idx v3 r3).bind fun e3 =>
       some (.go (e.Trip.Id, v1, v2, (v3.set r3.toNat (⟨e3.Id, e3.Line, e.To⟩ : Trip))))
      else
       some (.ret (.dn (.ret ((⟨(⟨([] : List ByteArray), ([] : List Line)⟩ : Network), ([] : List Trip)⟩ : Timetable), false))))) fun ((c1, v4, v5, v6) : Int × (List ByteArray) × (List Line) × (List Trip)) =>
   some (.nx (c1, (w64 (v + 1)), v4, v5, v6))
  else
   some (.dn (.go (v1, v2, v3)))
def zq9 (t : Timetable) (list : List Change) : Option (Timetable × Bool) :=
 if (decide (24 < (list.length : Int))) = true then
  some ((⟨(⟨([] : List ByteArray), ([] : List Line)⟩ : Network), ([] : List Trip)⟩ : Timetable), false)
 else
  (zq16 t).bind fun r =>
  flb (iter (yef list) ((0 : Int), (0 : Int), r.Network.Stops, r.Network.Lines, r.Trips)) fun ((v11, v12, v13) : (List ByteArray) × (List Line) × (List Trip)) =>
  (zq12 (⟨(⟨v11, v12⟩ : Network), v13⟩ : Timetable)).bind fun r9 =>
  some (r9.1, r9.2)
def zq2 (t : Timetable) (list : List Change) : Option (Timetable × Bool) :=
 (zq8 t).bind fun r =>
 if (!r) = true then
  some ((⟨(⟨([] : List ByteArray), ([] : List Line)⟩ : Network), ([] : List Trip)⟩ : Timetable), false)
 else
  (zq9 t list).bind fun r1 =>
  some (r1.1, r1.2)
def zq5 (t : Timetable) (list : List Change) : Option (Bool) :=
 (zq8 t).bind fun r =>
 if (!r) = true then
  some false
 else
  (zq9 t list).bind fun r1 =>
  some r1.2
def ygz (list : List Change) : Int × (List Change) -> Option (Lp (Int × (List Change)) ((List Change)))
 | (v, c) =>
  if (decide (v < (list.length : Int))) = true then
   (idx list v).bind fun e =>
   (if (e.Kind == 1) = true then
    some ((2 : Int), e.Trip.Start, e.To)
   else
    if (e.Kind == 2) = true then
     some ((1 : Int), e.Trip.Start, e.To)
    else
     some (e.Kind, e.To, e.Trip.Start)).bind fun ((v1, v2, v3) : Int × Int × Int) =>
   (chk (c.length + ([(⟨v1, (⟨e.Trip.Id, e.Trip.Line, v2⟩ : Trip), v3⟩ : Change)] : List Change).length <= 4294967296)).bind fun u =>
   some (.nx ((w64 (v + 1)), (c ++ ([(⟨v1, (⟨e.Trip.Id, e.Trip.Line, v2⟩ : Trip), v3⟩ : Change)] : List Change))))
  else
   some (.dn c)
def zq4 (t : Timetable) (list : List Change) : Option ((List Change) × Bool) :=
 (zq5 t list).bind fun r =>
 if (!r) = true then
  some (([] : List Change), false)
 else
  (iter (ygz list) ((0 : Int), ([] : List Change))).bind fun (c1 : List Change) =>
  some (c1, true)
def yb0 (a : List ByteArray) (b : List ByteArray) : Int -> Option (Lp (Int) (Fl (Bool) (Unit)))
 | v =>
  if (decide (v < (a.length : Int))) = true then
   (idx a v).bind fun e2 =>
   (idx b v).bind fun e3 =>
   if (!(e2.toList == e3.toList)) = true then
    some (.dn (.ret false))
   else
    some (.nx (w64 (v + 1)))
  else
   some (.dn (.go ()))
def yia (a : List ByteArray) (b : List ByteArray) : Option (Bool) :=
 if ((a.length : Int) != (b.length : Int)) = true then
  some false
 else
  flb (iter (yb0 a b) (0 : Int)) fun (_ : Unit) =>
  some true
def yb2 (a : List Int) (b : List Int) : Int -> Option (Lp (Int) (Fl (Bool) (Unit)))
 | v =>
  if (decide (v < (a.length : Int))) = true then
   (idx a v).bind fun e2 =>
   (idx b v).bind fun e3 =>
   if (e2 != e3) = true then
    some (.dn (.ret false))
   else
    some (.nx (w64 (v + 1)))
  else
   some (.dn (.go ()))
def yf0 (a : List Int) (b : List Int) : Option (Bool) :=
 if ((a.length : Int) != (b.length : Int)) = true then
  some false
 else
  flb (iter (yb2 a b) (0 : Int)) fun (_ : Unit) =>
  some true
def yb1 (a : Network) (b : Network) : Int -> Option (Lp (Int) (Fl (Bool) (Unit)))
 | v1 =>
  if (decide (v1 < (a.Lines.length : Int))) = true then
   (idx a.Lines v1).bind fun e6 =>
   (idx b.Lines v1).bind fun e7 =>
   (if (!(e6.Name.toList == e7.Name.toList)) = true then some true else (idx a.Lines v1).bind fun e8 =>
   (idx b.Lines v1).bind fun e9 =>
   (yf0 e8.Stops e9.Stops).bind fun r3 =>
   if (!r3) = true then some true else (idx a.Lines v1).bind fun e10 =>
   (idx b.Lines v1).bind fun e11 =>
   (yf0 e10.Runs e11.Runs).bind fun r4 =>
   some (!r4)).bind fun (v2 : Bool) =>
   if v2 = true then
    some (.dn (.ret false))
   else
    some (.nx (w64 (v1 + 1)))
  else
   some (.dn (.go ()))
def yib (a : Network) (b : Network) : Option (Bool) :=
 (yia a.Stops b.Stops).bind fun r =>
 (if (!r) = true then some true else some ((a.Lines.length : Int) != (b.Lines.length : Int))).bind fun (v : Bool) =>
 if v = true then
  some false
 else
  flb (iter (yb1 a b) (0 : Int)) fun (_ : Unit) =>
  some true
def ybz (a : Timetable) (b : Timetable) : Int -> Option (Lp (Int) (Fl (Bool) (Unit)))
 | v1 =>
  if (decide (v1 < (a.Trips.length : Int))) = true then
   (idx a.Trips v1).bind fun e2 =>
   (idx b.Trips v1).bind fun e3 =>
   if (!((e2.Id == e3.Id) && ((e2.Line == e3.Line) && ((e2.Start == e3.Start) && true)))) = true then
    some (.dn (.ret false))
   else
    some (.nx (w64 (v1 + 1)))
  else
   some (.dn (.go ()))
def yfz (a : Timetable) (b : Timetable) : Option (Bool) :=
 (yib a.Network b.Network).bind fun r =>
 (if (!r) = true then some true else some ((a.Trips.length : Int) != (b.Trips.length : Int))).bind fun (v : Bool) =>
 if v = true then
  some false
 else
  flb (iter (ybz a b) (0 : Int)) fun (_ : Unit) =>
  some true
def yao (code : List UInt8) : Option (Bool) :=
 (ykb code).bind fun r =>
 if r = true then
  some true
 else
  (zq33 code).bind fun r1 =>
  (zq3 r1.1 r1.2).bind fun r2 =>
  (zq32 r1.1 r1.2).bind fun r3 =>
  (if (!(r2.2 == r3.2)) = true then some true else (yf1 r2.1 r3.1).bind fun r4 =>
  some (!r4)).bind fun (v : Bool) =>
  if v = true then
   some false
  else
   if (!r2.2) = true then
    some ((r2.1.length : Int) == 0)
   else
    (zq2 r1.1 r2.1).bind fun r5 =>
    (zq4 r1.1 r2.1).bind fun r6 =>
    (zq2 r5.1 r6.1).bind fun r7 =>
    (zq4 r5.1 r6.1).bind fun r8 =>
    (if r5.2 = true then (yfz r5.1 r1.2).bind fun r9 =>
    if r9 = true then if r6.2 = true then if r7.2 = true then (yfz r7.1 r1.1).bind fun r10 =>
    if r10 = true then if r8.2 = true then (yf1 r8.1 r2.1).bind fun r11 =>
    if r11 = true then (zq5 r1.1 r2.1).bind fun r12 =>
    some r12 else some false else some false else some false else some false else some false else some false else some false).bind fun (a : Bool) =>
    some a
end
end Go.Proofs.YtdocbkbpjdjlpaaGreatDoor
