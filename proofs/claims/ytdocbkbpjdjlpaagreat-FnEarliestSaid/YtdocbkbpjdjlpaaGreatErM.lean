/- Models of the functions that the law reaches: plain Lean; none where the function would panic or not end. Made by program (dec.py). -/
import Derived.Test.YtdocbkbpjdjlpaaGreatAbC0
import Derived.Test.YtdocbkbpjdjlpaaGreatAbIns
import Derived.Test.YtdocbkbpjdjlpaaGreatAbCom
import Derived.Test.YtdocbkbpjdjlpaaGreatAbLate
namespace Go.Proofs.YtdocbkbpjdjlpaaGreat
open Go Go.Ab
set_option maxRecDepth 100000
set_option maxHeartbeats 4000000
set_option linter.unusedVariables false
set_option linter.unusedSimpArgs false
noncomputable section
structure l1Cur where
 code_ : List UInt8
 at_ : Int
 seed_ : IK .u64
instance enc_l1Cur : Enc l1Cur := ⟨3, fun x => .agg [Enc.e x.code_, .sc (.int .i64 x.at_), .sc (.int .u64 x.seed_.v)], fun a b h => by
 simp only [D.agg.injEq, List.cons.injEq, and_true] at h
 obtain ⟨a1, a2, a3⟩ := a
 obtain ⟨b1, b2, b3⟩ := b
 obtain ⟨h1, h2, h3⟩ := h
 have q1 := Enc.inj (α := List UInt8) a1 b1 h1
 have q2 := Enc.inj (α := Int) a2 b2 h2
 have q3 := Enc.inj (α := IK .u64) a3 b3 h3
 subst q1; subst q2; subst q3; rfl⟩
structure Line where
 Name : ByteArray
 Stops : List Int
 Runs : List Int
instance enc_Line : Enc Line := ⟨3, fun x => .agg [.sc (.string x.Name), Enc.e x.Stops, Enc.e x.Runs], fun a b h => by
 simp only [D.agg.injEq, List.cons.injEq, and_true] at h
 obtain ⟨a1, a2, a3⟩ := a
 obtain ⟨b1, b2, b3⟩ := b
 obtain ⟨h1, h2, h3⟩ := h
 have q1 := Enc.inj (α := ByteArray) a1 b1 h1
 have q2 := Enc.inj (α := List Int) a2 b2 h2
 have q3 := Enc.inj (α := List Int) a3 b3 h3
 subst q1; subst q2; subst q3; rfl⟩
structure Network where
 Stops : List ByteArray
 Lines : List Line
instance enc_Network : Enc Network := ⟨2, fun x => .agg [Enc.e x.Stops, Enc.e x.Lines], fun a b h => by
 simp only [D.agg.injEq, List.cons.injEq, and_true] at h
 obtain ⟨a1, a2⟩ := a
 obtain ⟨b1, b2⟩ := b
 obtain ⟨h1, h2⟩ := h
 have q1 := Enc.inj (α := List ByteArray) a1 b1 h1
 have q2 := Enc.inj (α := List Line) a2 b2 h2
 subst q1; subst q2; rfl⟩
structure Trip where
 Id : Int
 Line : Int
 Start : Int
instance enc_Trip : Enc Trip := ⟨3, fun x => .agg [.sc (.int .i64 x.Id), .sc (.int .i64 x.Line), .sc (.int .i64 x.Start)], fun a b h => by
 simp only [D.agg.injEq, List.cons.injEq, and_true] at h
 obtain ⟨a1, a2, a3⟩ := a
 obtain ⟨b1, b2, b3⟩ := b
 obtain ⟨h1, h2, h3⟩ := h
 have q1 := Enc.inj (α := Int) a1 b1 h1
 have q2 := Enc.inj (α := Int) a2 b2 h2
 have q3 := Enc.inj (α := Int) a3 b3 h3
 subst q1; subst q2; subst q3; rfl⟩
structure Timetable where
 Network : Network
 Trips : List Trip
instance enc_Timetable : Enc Timetable := ⟨3, fun x => .agg [Enc.e x.Network.Stops, Enc.e x.Network.Lines, Enc.e x.Trips], fun a b h => by
 simp only [D.agg.injEq, List.cons.injEq, and_true] at h
 obtain ⟨⟨a1, a2⟩, a3⟩ := a
 obtain ⟨⟨b1, b2⟩, b3⟩ := b
 obtain ⟨h1, h2, h3⟩ := h
 have q1 := Enc.inj (α := List ByteArray) a1 b1 h1
 have q2 := Enc.inj (α := List Line) a2 b2 h2
 have q3 := Enc.inj (α := List Trip) a3 b3 h3
 subst q1; subst q2; subst q3; rfl⟩
structure Leg where
 Trip : Int
 From : Int
 To : Int
 Depart : Int
 Arrive : Int
instance enc_Leg : Enc Leg := ⟨5, fun x => .agg [.sc (.int .i64 x.Trip), .sc (.int .i64 x.From), .sc (.int .i64 x.To), .sc (.int .i64 x.Depart), .sc (.int .i64 x.Arrive)], fun a b h => by
 simp only [D.agg.injEq, List.cons.injEq, and_true] at h
 obtain ⟨a1, a2, a3, a4, a5⟩ := a
 obtain ⟨b1, b2, b3, b4, b5⟩ := b
 obtain ⟨h1, h2, h3, h4, h5⟩ := h
 have q1 := Enc.inj (α := Int) a1 b1 h1
 have q2 := Enc.inj (α := Int) a2 b2 h2
 have q3 := Enc.inj (α := Int) a3 b3 h3
 have q4 := Enc.inj (α := Int) a4 b4 h4
 have q5 := Enc.inj (α := Int) a5 b5 h5
 subst q1; subst q2; subst q3; subst q4; subst q5; rfl⟩
structure l8Search where
 t_ : Timetable
 change_ : Int
 to_ : Int
 arrive_ : Int
instance enc_l8Search : Enc l8Search := ⟨6, fun x => .agg [Enc.e x.t_.Network.Stops, Enc.e x.t_.Network.Lines, Enc.e x.t_.Trips, .sc (.int .i64 x.change_), .sc (.int .i64 x.to_), .sc (.int .i64 x.arrive_)], fun a b h => by
 simp only [D.agg.injEq, List.cons.injEq, and_true] at h
 obtain ⟨⟨⟨a1, a2⟩, a3⟩, a4, a5, a6⟩ := a
 obtain ⟨⟨⟨b1, b2⟩, b3⟩, b4, b5, b6⟩ := b
 obtain ⟨h1, h2, h3, h4, h5, h6⟩ := h
 have q1 := Enc.inj (α := List ByteArray) a1 b1 h1
 have q2 := Enc.inj (α := List Line) a2 b2 h2
 have q3 := Enc.inj (α := List Trip) a3 b3 h3
 have q4 := Enc.inj (α := Int) a4 b4 h4
 have q5 := Enc.inj (α := Int) a5 b5 h5
 have q6 := Enc.inj (α := Int) a6 b6 h6
 subst q1; subst q2; subst q3; subst q4; subst q5; subst q6; rfl⟩
instance : BxE l1Cur := ⟨fun x y h => Enc.inj x y (congrArg D.agg h)⟩
instance : BxE Line := ⟨fun x y h => Enc.inj x y (congrArg D.agg h)⟩
instance : BxE Network := ⟨fun x y h => Enc.inj x y (congrArg D.agg h)⟩
instance : BxE Trip := ⟨fun x y h => Enc.inj x y (congrArg D.agg h)⟩
instance : BxE Timetable := ⟨fun x y h => Enc.inj x y (congrArg D.agg h)⟩
instance : BxE Leg := ⟨fun x y h => Enc.inj x y (congrArg D.agg h)⟩
instance : BxE l8Search := ⟨fun x y h => Enc.inj x y (congrArg D.agg h)⟩
instance : FlatEnc Trip := ⟨fun _ => jd2 rfl⟩
instance : FlatEnc Leg := ⟨fun _ => jd2 rfl⟩
def ylb (code : List UInt8) : Option (Bool) :=
 some (decide (65536 < (code.length : Int)))
def zq49 (c : l1Cur) : Option (Int × l1Cur) :=
 (if (decide (c.at_ < (c.code_.length : Int))) = true then
  (idx c.code_ c.at_).bind fun e1 =>
  some (w64 ((e1.toNat : Int)))
 else
  some (0 : Int)).bind fun (v : Int) =>
 if (decide ((w64 (c.at_ + 1)) <= (c.code_.length : Int))) = true then
  some (v, (⟨c.code_, (w64 (c.at_ + 1)), (⟨(IntKind.u64.wrap ((IntKind.u64.wrap ((IntKind.u64.wrap (c.seed_.v * 6364136223846793005)) + (IntKind.u64.wrap (v)))) + 900900))⟩ : IK .u64)⟩ : l1Cur))
 else
  (chk ((0 : Int) <= 40)).bind fun u =>
  some ((w64 ((IntKind.u64.wrap ((BitVec.ofInt (IntKind.u64).bits ((IntKind.u64.wrap ((IntKind.u64.wrap ((IntKind.u64.wrap (c.seed_.v * 6364136223846793005)) + (IntKind.u64.wrap (v)))) + 900900)).fdiv (2 ^ (min (40 : Int).toNat (IntKind.u64).bits))) &&& BitVec.ofInt (IntKind.u64).bits 255).toNat : Int)))), (⟨c.code_, (w64 (c.at_ + 1)), (⟨(IntKind.u64.wrap ((IntKind.u64.wrap ((IntKind.u64.wrap (c.seed_.v * 6364136223846793005)) + (IntKind.u64.wrap (v)))) + 900900))⟩ : IK .u64)⟩ : l1Cur))
def zq53 (c : l1Cur) (n : Int) : Option (Int × l1Cur) :=
 if (decide (n <= 1)) = true then
  some (0, c)
 else
  (zq49 c).bind fun r =>
  (if (decide (200 < n)) = true then
   (zq49 r.2).bind fun r1 =>
   some ((w64 ((w64 (r.1 * 256)) + r1.1)), r1.2.code_, r1.2.at_, r1.2.seed_.v)
  else
   some (r.1, r.2.code_, r.2.at_, r.2.seed_.v)).bind fun ((v, v1, v2, v3) : Int × (List UInt8) × Int × Int) =>
  (chk ((n : Int) ≠ 0)).bind fun u =>
  some ((v.tmod n), (⟨v1, v2, (⟨v3⟩ : IK .u64)⟩ : l1Cur))
def zq52 (c : l1Cur) (n : Int) : Option (Bool × l1Cur) :=
 (zq53 c n).bind fun r =>
 some ((r.1 == 0), r.2)
def ydo (rec_ : Int -> Option (ByteArray)) (n : Int) : Option (ByteArray) :=
 if (decide (n < 0)) = true then
  (rec_ (w64 (0 - n))).bind fun r =>
  (chk ((str [45]).size + r.size <= 4294967296)).bind fun u =>
  some ((str [45]) ++ r)
 else
  if (decide (n < 10)) = true then
   (chk ((0 : Int) <= n /\ (n : Int) <= (w64 (n + 1)) /\ (w64 (n + 1)) <= ((str [48, 49, 50, 51, 52, 53, 54, 55, 56, 57]).size : Int))).bind fun u1 =>
   some ((str [48, 49, 50, 51, 52, 53, 54, 55, 56, 57]).extract n.toNat (w64 (n + 1)).toNat)
  else
   (chk ((10 : Int) ≠ 0)).bind fun u7 =>
   (rec_ (w64 (n.tdiv 10))).bind fun r2 =>
   (chk ((10 : Int) ≠ 0)).bind fun u8 =>
   (chk ((10 : Int) ≠ 0)).bind fun u9 =>
   (chk ((0 : Int) <= (n.tmod 10) /\ ((n.tmod 10) : Int) <= (w64 ((n.tmod 10) + 1)) /\ (w64 ((n.tmod 10) + 1)) <= ((str [48, 49, 50, 51, 52, 53, 54, 55, 56, 57]).size : Int))).bind fun u10 =>
   (chk (r2.size + ((str [48, 49, 50, 51, 52, 53, 54, 55, 56, 57]).extract (n.tmod 10).toNat (w64 ((n.tmod 10) + 1)).toNat).size <= 4294967296)).bind fun u11 =>
   some (r2 ++ ((str [48, 49, 50, 51, 52, 53, 54, 55, 56, 57]).extract (n.tmod 10).toNat (w64 ((n.tmod 10) + 1)).toNat))
def yie : Nat -> Int -> Option (ByteArray)
 | 0 => fun _ => none
 | n + 1 => ydo (yie n)
def zq60 (n : Int) : Option (ByteArray) := yie 4294967296 n
def yev (x : Line) (stop : Int) : Int -> Option (Lp (Int) (Fl (Int) (Unit)))
 | v =>
  if (decide (v < (x.Stops.length : Int))) = true then
   (idx x.Stops v).bind fun e =>
   if (e == stop) = true then
    some (.dn (.ret v))
   else
    some (.nx (w64 (v + 1)))
  else
   some (.dn (.go ()))
def zq72 (x : Line) (stop : Int) : Option (Int) :=
 flb (iter (yev x stop) (0 : Int)) fun (_ : Unit) =>
 some (-1)
def ye6 (name : ByteArray) (stops : Int) : Int × Int × (List UInt8) × Int × Int × (List Int) -> Option (Lp (Int × Int × (List UInt8) × Int × Int × (List Int)) ((List UInt8) × Int × Int × (List Int)))
 | (v, v1, v2, v3, v4, v5) =>
  if (decide (0 < v1)) = true then
   ((zq72 (⟨name, v5, ([] : List Int)⟩ : Line) v).bind fun r2 =>
   if (decide (r2 < 0)) = true then
    (chk (v5.length + ([v] : List Int).length <= 4294967296)).bind fun u =>
    some (v5 ++ ([v] : List Int))
   else
    some v5).bind fun (v6 : List Int) =>
   (zq53 (⟨v2, v3, (⟨v4⟩ : IK .u64)⟩ : l1Cur) 2).bind fun r3 =>
   (chk ((stops : Int) ≠ 0)).bind fun u1 =>
   some (.nx (((w64 ((w64 (v + 1)) + r3.1)).tmod stops), (w64 (v1 - 1)), r3.2.code_, r3.2.at_, r3.2.seed_.v, v6))
  else
   some (.dn (v2, v3, v4, v5))
def ye5 (v11 : List Int) : Int × (List UInt8) × Int × Int × (List Int) -> Option (Lp (Int × (List UInt8) × Int × Int × (List Int)) ((List UInt8) × Int × Int × (List Int)))
 | (v12, v13, v14, v15, v16) =>
  if (decide (v12 < (v11.length : Int))) = true then
   (zq53 (⟨v13, v14, (⟨v15⟩ : IK .u64)⟩ : l1Cur) 12).bind fun r5 =>
   (chk (v16.length + ([(w64 (3 + r5.1))] : List Int).length <= 4294967296)).bind fun u7 =>
   some (.nx ((w64 (v12 + 1)), r5.2.code_, r5.2.at_, r5.2.seed_.v, (v16 ++ ([(w64 (3 + r5.1))] : List Int))))
  else
   some (.dn (v13, v14, v15, v16))
def zq45 (c : l1Cur) (name : ByteArray) (stops : Int) : Option (Line × l1Cur) :=
 (zq53 c stops).bind fun r =>
 (zq53 r.2 3).bind fun r1 =>
 (iter (ye6 name stops) (r.1, (w64 (2 + r1.1)), r1.2.code_, r1.2.at_, r1.2.seed_.v, ([] : List Int))).bind fun ((v7, v8, v9, v10) : (List UInt8) × Int × Int × (List Int)) =>
 (if (decide ((v10.length : Int) < 2)) = true then
  (idx v10 0).bind fun e1 =>
  (chk ((stops : Int) ≠ 0)).bind fun u4 =>
  (chk (v10.length + ([((w64 (e1 + 1)).tmod stops)] : List Int).length <= 4294967296)).bind fun u5 =>
  some (v10 ++ ([((w64 (e1 + 1)).tmod stops)] : List Int))
 else
  some v10).bind fun (v11 : List Int) =>
 (iter (ye5 v11) ((1 : Int), v7, v8, v9, ([] : List Int))).bind fun ((v17, v18, v19, v20) : (List UInt8) × Int × Int × (List Int)) =>
 some ((⟨name, v11, v20⟩ : Line), (⟨v17, v18, (⟨v19⟩ : IK .u64)⟩ : l1Cur))
def ykp (name : ByteArray) (stops : Int) : Int × Int × (List UInt8) × Int × Int × (List Int) -> Option (Lp (Int × Int × (List UInt8) × Int × Int × (List Int)) ((List UInt8) × Int × Int × (List Int)))
 | (v, v1, v2, v3, v4, v5) =>
  if (decide (0 < v1)) = true then
   ((zq72 (⟨name, v5, ([] : List Int)⟩ : Line) v).bind fun r2 =>
   if (decide (r2 < 0)) = true then
    (chk (v5.length + ([v] : List Int).length <= 4294967296)).bind fun u =>
    some (v5 ++ ([v] : List Int))
   else
    some v5).bind fun (v6 : List Int) =>
   (zq53 (⟨v2, v3, (⟨v4⟩ : IK .u64)⟩ : l1Cur) 2).bind fun r3 =>
   (chk ((stops : Int) ≠ 0)).bind fun u1 =>
   some (.nx (((w64 ((w64 (v + 1)) + r3.1)).tmod stops), (w64 (v1 - 1)), r3.2.code_, r3.2.at_, r3.2.seed_.v, v6))
  else
   some (.dn (v2, v3, v4, v5))
def yko (v11 : List Int) : Int × (List UInt8) × Int × Int × (List Int) -> Option (Lp (Int × (List UInt8) × Int × Int × (List Int)) ((List UInt8) × Int × Int × (List Int)))
 | (v12, v13, v14, v15, v16) =>
  if (decide (v12 < (v11.length : Int))) = true then
   (zq53 (⟨v13, v14, (⟨v15⟩ : IK .u64)⟩ : l1Cur) 12).bind fun r5 =>
   (chk (v16.length + ([(w64 (3 + r5.1))] : List Int).length <= 4294967296)).bind fun u7 =>
   some (.nx ((w64 (v12 + 1)), r5.2.code_, r5.2.at_, r5.2.seed_.v, (v16 ++ ([(w64 (3 + r5.1))] : List Int))))
  else
   some (.dn (v13, v14, v15, v16))
def zq46 (c : l1Cur) (name : ByteArray) (stops : Int) : Option (Line × l1Cur) :=
 (zq53 c stops).bind fun r =>
 (zq53 r.2 3).bind fun r1 =>
 (iter (ykp name stops) (r.1, (w64 (2 + r1.1)), r1.2.code_, r1.2.at_, r1.2.seed_.v, ([] : List Int))).bind fun ((v7, v8, v9, v10) : (List UInt8) × Int × Int × (List Int)) =>
 (if (decide ((v10.length : Int) < 2)) = true then
  (idx v10 0).bind fun e1 =>
  (chk ((stops : Int) ≠ 0)).bind fun u4 =>
  (chk (v10.length + ([((w64 (e1 + 1)).tmod stops)] : List Int).length <= 4294967296)).bind fun u5 =>
  some (v10 ++ ([((w64 (e1 + 1)).tmod stops)] : List Int))
 else
  some v10).bind fun (v11 : List Int) =>
 (iter (yko v11) ((1 : Int), v7, v8, v9, ([] : List Int))).bind fun ((v17, v18, v19, v20) : (List UInt8) × Int × Int × (List Int)) =>
 some ((⟨name, v11, v20⟩ : Line), (⟨v17, v18, (⟨v19⟩ : IK .u64)⟩ : l1Cur))
def ye3 (list : List Int) : Int × (List Int) -> Option (Lp (Int × (List Int)) ((List Int)))
 | (v, i) =>
  if (decide (0 <= v)) = true then
   (idx list v).bind fun e =>
   (chk (i.length + ([e] : List Int).length <= 4294967296)).bind fun u =>
   some (.nx ((w64 (v - 1)), (i ++ ([e] : List Int))))
  else
   some (.dn i)
def zq63 (list : List Int) : Option ((List Int)) :=
 (iter (ye3 list) ((w64 ((list.length : Int) - 1)), ([] : List Int))).bind fun (i1 : List Int) =>
 some i1
def yke (list : List Int) : Int × (List Int) -> Option (Lp (Int × (List Int)) ((List Int)))
 | (v, i) =>
  if (decide (0 <= v)) = true then
   (idx list v).bind fun e =>
   (chk (i.length + ([e] : List Int).length <= 4294967296)).bind fun u =>
   some (.nx ((w64 (v - 1)), (i ++ ([e] : List Int))))
  else
   some (.dn i)
def zq64 (list : List Int) : Option ((List Int)) :=
 (iter (yke list) ((w64 ((list.length : Int) - 1)), ([] : List Int))).bind fun (i1 : List Int) =>
 some i1
def zq61 (l : List Int) : Option ((List Int)) :=
 (chk (([] : List Int).length + l.length <= 4294967296)).bind fun u =>
 some (([] : List Int) ++ l)
def zq62 (l : List Int) : Option ((List Int)) :=
 (chk (([] : List Int).length + l.length <= 4294967296)).bind fun u =>
 some (([] : List Int) ++ l)
def yew (n : Network) : Int × (List Line) -> Option (Lp (Int × (List Line)) ((List Line)))
 | (v, v1) =>
  if (decide (v < (n.Lines.length : Int))) = true then
   (idx n.Lines v).bind fun e3 =>
   (idx n.Lines v).bind fun e4 =>
   (zq62 e4.Stops).bind fun r2 =>
   (idx n.Lines v).bind fun e5 =>
   (zq62 e5.Runs).bind fun r3 =>
   (chk (v1.length + ([(⟨e3.Name, r2, r3⟩ : Line)] : List Line).length <= 4294967296)).bind fun u2 =>
   some (.nx ((w64 (v + 1)), (v1 ++ ([(⟨e3.Name, r2, r3⟩ : Line)] : List Line))))
  else
   some (.dn v1)
def zq70 (n : Network) : Option (Network) :=
 (chk (([] : List ByteArray).length + n.Stops.length <= 4294967296)).bind fun u =>
 (iter (yew n) ((0 : Int), ([] : List Line))).bind fun (v2 : List Line) =>
 some (⟨(([] : List ByteArray) ++ n.Stops), v2⟩ : Network)
def ykm (r : Int × l1Cur) : Int × (List UInt8) × Int × Int × (List Line) -> Option (Lp (Int × (List UInt8) × Int × Int × (List Line)) ((List UInt8) × Int × Int × (List Line)))
 | (x, v, v1, v2, v3) =>
  if (decide (0 < x)) = true then
   (zq60 x).bind fun r4 =>
   (chk ((str [108]).size + r4.size <= 4294967296)).bind fun u3 =>
   (zq46 (⟨v, v1, (⟨v2⟩ : IK .u64)⟩ : l1Cur) ((str [108]) ++ r4) (w64 (2 + r.1))).bind fun r5 =>
   (chk (v3.length + ([r5.1] : List Line).length <= 4294967296)).bind fun u4 =>
   some (.nx ((w64 (x - 1)), r5.2.code_, r5.2.at_, r5.2.seed_.v, (v3 ++ ([r5.1] : List Line))))
  else
   some (.dn (v, v1, v2, v3))
def zq47 (c : l1Cur) : Option (Network × l1Cur) :=
 (zq53 c 5).bind fun r =>
 (chk ((0 : Int) <= 0 /\ (0 : Int) <= (w64 (2 + r.1)) /\ (w64 (2 + r.1)) <= (([(str [112, 111, 114, 116]), (str [109, 105, 108, 108]), (str [112, 97, 114, 107]), (str [104, 97, 108, 108]), (str [100, 111, 99, 107]), (str [102, 97, 105, 114])] : List ByteArray).length : Int))).bind fun u =>
 (zq53 r.2 3).bind fun r1 =>
 (iter (ykm r) ((w64 (1 + r1.1)), r1.2.code_, r1.2.at_, r1.2.seed_.v, ([] : List Line))).bind fun ((v4, v5, v6, v7) : (List UInt8) × Int × Int × (List Line)) =>
 ((zq52 (⟨v4, v5, (⟨v6⟩ : IK .u64)⟩ : l1Cur) 2).bind fun r6 =>
 if r6.1 = true then
  (idx v7 0).bind fun e =>
  (zq64 e.Stops).bind fun r9 =>
  (zq64 e.Runs).bind fun r10 =>
  (chk (v7.length + ([(⟨(str [114, 49]), r9, r10⟩ : Line)] : List Line).length <= 4294967296)).bind fun u6 =>
  some (r6.2.code_, r6.2.at_, r6.2.seed_.v, (v7 ++ ([(⟨(str [114, 49]), r9, r10⟩ : Line)] : List Line)))
 else
  some (r6.2.code_, r6.2.at_, r6.2.seed_.v, v7)).bind fun ((v8, v9, v10, v11) : (List UInt8) × Int × Int × (List Line)) =>
 (zq70 (⟨((([(str [112, 111, 114, 116]), (str [109, 105, 108, 108]), (str [112, 97, 114, 107]), (str [104, 97, 108, 108]), (str [100, 111, 99, 107]), (str [102, 97, 105, 114])] : List ByteArray).take (w64 (2 + r.1)).toNat).drop (0 : Int).toNat), v11⟩ : Network)).bind fun r11 =>
 some ((⟨r11.Stops, r11.Lines⟩ : Network), (⟨v8, v9, (⟨v10⟩ : IK .u64)⟩ : l1Cur))
def ygv (r : Network × l1Cur) : Int × Int × (List UInt8) × Int × Int × (List Trip) -> Option (Lp (Int × Int × (List UInt8) × Int × Int × (List Trip)) ((List UInt8) × Int × Int × (List Trip)))
 | (n, v, v1, v2, v3, v4) =>
  if (decide (0 < v)) = true then
   (zq53 (⟨v1, v2, (⟨v3⟩ : IK .u64)⟩ : l1Cur) 3).bind fun r2 =>
   (zq53 r2.2 (r.1.Lines.length : Int)).bind fun r5 =>
   (zq53 r5.2 24).bind fun r6 =>
   (chk (v4.length + ([(⟨(w64 ((w64 (n + 1)) + r2.1)), r5.1, (w64 (360 + (w64 (5 * r6.1))))⟩ : Trip)] : List Trip).length <= 4294967296)).bind fun u1 =>
   some (.nx ((w64 ((w64 (n + 1)) + r2.1)), (w64 (v - 1)), r6.2.code_, r6.2.at_, r6.2.seed_.v, (v4 ++ ([(⟨(w64 ((w64 (n + 1)) + r2.1)), r5.1, (w64 (360 + (w64 (5 * r6.1))))⟩ : Trip)] : List Trip))))
  else
   some (.dn (v1, v2, v3, v4))
def zq56 (c : l1Cur) : Option (Timetable × l1Cur) :=
 (zq47 c).bind fun r =>
 (zq53 r.2 8).bind fun r1 =>
 (iter (ygv r) ((0 : Int), r1.1, r1.2.code_, r1.2.at_, r1.2.seed_.v, ([] : List Trip))).bind fun ((v5, v6, v7, v8) : (List UInt8) × Int × Int × (List Trip)) =>
 some ((⟨(⟨r.1.Stops, r.1.Lines⟩ : Network), v8⟩ : Timetable), (⟨v5, v6, (⟨v7⟩ : IK .u64)⟩ : l1Cur))
def zq40 (c : l1Cur) (list : List Int) : Option (Int × l1Cur) :=
 (zq53 c (list.length : Int)).bind fun r =>
 (idx list r.1).bind fun e =>
 some (e, r.2)
def zq50 (c : l1Cur) (list : List ByteArray) : Option (ByteArray × l1Cur) :=
 (zq53 c (list.length : Int)).bind fun r =>
 (idx list r.1).bind fun e =>
 some (e, r.2)
def zq51 (c : l1Cur) (list : List ByteArray) : Option (ByteArray × l1Cur) :=
 (zq53 c (list.length : Int)).bind fun r =>
 (idx list r.1).bind fun e =>
 some (e, r.2)
def yj7 (n : Network) : Int × (List Line) -> Option (Lp (Int × (List Line)) ((List Line)))
 | (v, v1) =>
  if (decide (v < (n.Lines.length : Int))) = true then
   (idx n.Lines v).bind fun e3 =>
   (idx n.Lines v).bind fun e4 =>
   (zq61 e4.Stops).bind fun r2 =>
   (idx n.Lines v).bind fun e5 =>
   (zq61 e5.Runs).bind fun r3 =>
   (chk (v1.length + ([(⟨e3.Name, r2, r3⟩ : Line)] : List Line).length <= 4294967296)).bind fun u2 =>
   some (.nx ((w64 (v + 1)), (v1 ++ ([(⟨e3.Name, r2, r3⟩ : Line)] : List Line))))
  else
   some (.dn v1)
def zq71 (n : Network) : Option (Network) :=
 (chk (([] : List ByteArray).length + n.Stops.length <= 4294967296)).bind fun u =>
 (iter (yj7 n) ((0 : Int), ([] : List Line))).bind fun (v2 : List Line) =>
 some (⟨(([] : List ByteArray) ++ n.Stops), v2⟩ : Network)
def ye4 (r : Int × l1Cur) : Int × (List UInt8) × Int × Int × (List Line) -> Option (Lp (Int × (List UInt8) × Int × Int × (List Line)) ((List UInt8) × Int × Int × (List Line)))
 | (x, v, v1, v2, v3) =>
  if (decide (0 < x)) = true then
   (zq60 x).bind fun r4 =>
   (chk ((str [108]).size + r4.size <= 4294967296)).bind fun u3 =>
   (zq46 (⟨v, v1, (⟨v2⟩ : IK .u64)⟩ : l1Cur) ((str [108]) ++ r4) (w64 (2 + r.1))).bind fun r5 =>
   (chk (v3.length + ([r5.1] : List Line).length <= 4294967296)).bind fun u4 =>
   some (.nx ((w64 (x - 1)), r5.2.code_, r5.2.at_, r5.2.seed_.v, (v3 ++ ([r5.1] : List Line))))
  else
   some (.dn (v, v1, v2, v3))
def zq48 (c : l1Cur) : Option (Network × l1Cur) :=
 (zq53 c 5).bind fun r =>
 (chk ((0 : Int) <= 0 /\ (0 : Int) <= (w64 (2 + r.1)) /\ (w64 (2 + r.1)) <= (([(str [112, 111, 114, 116]), (str [109, 105, 108, 108]), (str [112, 97, 114, 107]), (str [104, 97, 108, 108]), (str [100, 111, 99, 107]), (str [102, 97, 105, 114])] : List ByteArray).length : Int))).bind fun u =>
 (zq53 r.2 3).bind fun r1 =>
 (iter (ye4 r) ((w64 (1 + r1.1)), r1.2.code_, r1.2.at_, r1.2.seed_.v, ([] : List Line))).bind fun ((v4, v5, v6, v7) : (List UInt8) × Int × Int × (List Line)) =>
 ((zq52 (⟨v4, v5, (⟨v6⟩ : IK .u64)⟩ : l1Cur) 2).bind fun r6 =>
 if r6.1 = true then
  (idx v7 0).bind fun e =>
  (zq64 e.Stops).bind fun r9 =>
  (zq64 e.Runs).bind fun r10 =>
  (chk (v7.length + ([(⟨(str [114, 49]), r9, r10⟩ : Line)] : List Line).length <= 4294967296)).bind fun u6 =>
  some (r6.2.code_, r6.2.at_, r6.2.seed_.v, (v7 ++ ([(⟨(str [114, 49]), r9, r10⟩ : Line)] : List Line)))
 else
  some (r6.2.code_, r6.2.at_, r6.2.seed_.v, v7)).bind fun ((v8, v9, v10, v11) : (List UInt8) × Int × Int × (List Line)) =>
 (zq71 (⟨((([(str [112, 111, 114, 116]), (str [109, 105, 108, 108]), (str [112, 97, 114, 107]), (str [104, 97, 108, 108]), (str [100, 111, 99, 107]), (str [102, 97, 105, 114])] : List ByteArray).take (w64 (2 + r.1)).toNat).drop (0 : Int).toNat), v11⟩ : Network)).bind fun r11 =>
 some ((⟨r11.Stops, r11.Lines⟩ : Network), (⟨v8, v9, (⟨v10⟩ : IK .u64)⟩ : l1Cur))
def zq41 (c : l1Cur) (list : List Int) : Option (Int × l1Cur) :=
 (zq53 c (list.length : Int)).bind fun r =>
 (idx list r.1).bind fun e =>
 some (e, r.2)
def ye7 (r : Network × l1Cur) : Int × (List UInt8) × Int × Int × (List Line) -> Option (Lp (Int × (List UInt8) × Int × Int × (List Line)) ((List UInt8) × Int × Int × (List Line)))
 | (v7, v8, v9, v10, v11) =>
  (zq53 (⟨v8, v9, (⟨v10⟩ : IK .u64)⟩ : l1Cur) 2).bind fun r16 =>
  (if (decide ((v11.length : Int) < (w64 (5 + r16.1)))) = true then some (decide (v7 < 7)) else some false).bind fun (v12 : Bool) =>
  if v12 = true then
   (zq60 v7).bind fun r19 =>
   (chk ((str [120]).size + r19.size <= 4294967296)).bind fun u3 =>
   (zq45 r16.2 ((str [120]) ++ r19) (r.1.Stops.length : Int)).bind fun r20 =>
   (chk (v11.length + ([(⟨r20.1.Name, r20.1.Stops, r20.1.Runs⟩ : Line)] : List Line).length <= 4294967296)).bind fun u4 =>
   some (.nx ((w64 (v7 + 1)), r20.2.code_, r20.2.at_, r20.2.seed_.v, (v11 ++ ([(⟨r20.1.Name, r20.1.Stops, r20.1.Runs⟩ : Line)] : List Line))))
  else
   some (.dn (r16.2.code_, r16.2.at_, r16.2.seed_.v, v11))
def zq42 (c : l1Cur) : Option (Network × l1Cur) :=
 (zq48 c).bind fun r =>
 (zq53 r.2 (r.1.Lines.length : Int)).bind fun r1 =>
 (idx r.1.Lines r1.1).bind fun e =>
 flb ((zq53 r1.2 24).bind fun r2 =>
 if (r2.1 == 0) = true then
  (zq51 r2.2 ([(str [109, 105, 108, 108]), (str []), (str [65]), (str [97, 98, 99, 100, 101, 102, 103, 104]), (str [97, 98, 99, 100, 101, 102, 103, 104, 105])] : List ByteArray)).bind fun r4 =>
  (idx r.1.Stops 0).bind fun e2 =>
  some (.go (r4.2.code_, r4.2.at_, r4.2.seed_.v, e.Name, (r.1.Stops.set (0 : Int).toNat r4.1), r.1.Lines, e.Runs))
 else
  if (r2.1 == 1) = true then
   (zq51 r2.2 ([(str [114, 49]), (str [108, 49]), (str []), (str [88])] : List ByteArray)).bind fun r5 =>
   some (.go (r5.2.code_, r5.2.at_, r5.2.seed_.v, r5.1, r.1.Stops, r.1.Lines, e.Runs))
  else
   if (r2.1 == 2) = true then
    (zq53 r2.2 (e.Stops.length : Int)).bind fun r8 =>
    (zq53 r8.2 10).bind fun r9 =>
    (idx e.Stops r8.1).bind fun e4 =>
    some (.go (r9.2.code_, r9.2.at_, r9.2.seed_.v, e.Name, r.1.Stops, (r.1.Lines.set r1.1.toNat (⟨e.Name, (e.Stops.set r8.1.toNat (w64 (r9.1 - 1))), e.Runs⟩ : Line)), ((⟨e.Name, (e.Stops.set r8.1.toNat (w64 (r9.1 - 1))), e.Runs⟩ : Line).Runs)))
   else
    if (r2.1 == 3) = true then
     (zq53 r2.2 (e.Runs.length : Int)).bind fun r12 =>
     (zq41 r12.2 ([0, 60, 61, (-1)] : List Int)).bind fun r13 =>
     (idx e.Runs r12.1).bind fun e6 =>
     some (.go (r13.2.code_, r13.2.at_, r13.2.seed_.v, e.Name, r.1.Stops, (r.1.Lines.set r1.1.toNat (⟨e.Name, e.Stops, (e.Runs.set r12.1.toNat r13.1)⟩ : Line)), ((⟨e.Name, e.Stops, (e.Runs.set r12.1.toNat r13.1)⟩ : Line).Runs)))
    else
     if (r2.1 == 4) = true then
      (chk (e.Runs.length + ([3] : List Int).length <= 4294967296)).bind fun u =>
      some (.go (r2.2.code_, r2.2.at_, r2.2.seed_.v, e.Name, r.1.Stops, r.1.Lines, (e.Runs ++ ([3] : List Int))))
     else
      if (r2.1 == 5) = true then
       some (.ret ((⟨r.1.Stops, ([] : List Line)⟩ : Network), r2.2))
      else
       if (r2.1 == 6) = true then
        (iter (ye7 r) ((0 : Int), r2.2.code_, r2.2.at_, r2.2.seed_.v, r.1.Lines)).bind fun ((v13, v14, v15, v16) : (List UInt8) × Int × Int × (List Line)) =>
        some (.ret ((⟨r.1.Stops, v16⟩ : Network), (⟨v13, v14, (⟨v15⟩ : IK .u64)⟩ : l1Cur)))
       else
        some (.go (r2.2.code_, r2.2.at_, r2.2.seed_.v, e.Name, r.1.Stops, r.1.Lines, e.Runs))) fun ((v, v1, v2, v3, v4, v5, v6) : (List UInt8) × Int × Int × ByteArray × (List ByteArray) × (List Line) × (List Int)) =>
 (idx v5 r1.1).bind fun e9 =>
 some ((⟨v4, (v5.set r1.1.toNat (⟨v3, e9.Stops, v6⟩ : Line))⟩ : Network), (⟨v, v1, (⟨v2⟩ : IK .u64)⟩ : l1Cur))
def ygw : Int × (List UInt8) × Int × Int × (List Trip) -> Option (Lp (Int × (List UInt8) × Int × Int × (List Trip)) ((List UInt8) × Int × Int × (List Trip)))
 | (v8, v9, v10, v11, v12) =>
  (zq53 (⟨v9, v10, (⟨v11⟩ : IK .u64)⟩ : l1Cur) 2).bind fun r8 =>
  (if (decide ((v12.length : Int) < (w64 (12 + r8.1)))) = true then some (decide (v8 < 14)) else some false).bind fun (v13 : Bool) =>
  if v13 = true then
   (chk (v12.length + ([(⟨(w64 (100 + v8)), 0, (w64 (400 + v8))⟩ : Trip)] : List Trip).length <= 4294967296)).bind fun u =>
   some (.nx ((w64 (v8 + 1)), r8.2.code_, r8.2.at_, r8.2.seed_.v, (v12 ++ ([(⟨(w64 (100 + v8)), 0, (w64 (400 + v8))⟩ : Trip)] : List Trip))))
  else
   some (.dn (r8.2.code_, r8.2.at_, r8.2.seed_.v, v12))
def zq43 (c : l1Cur) : Option (Timetable × l1Cur) :=
 (zq56 c).bind fun r =>
 if ((r.1.Trips.length : Int) == 0) = true then
  some ((⟨(⟨r.1.Network.Stops, r.1.Network.Lines⟩ : Network), r.1.Trips⟩ : Timetable), r.2)
 else
  (zq53 r.2 (r.1.Trips.length : Int)).bind fun r1 =>
  (idx r.1.Trips r1.1).bind fun e =>
  flb ((zq53 r1.2 24).bind fun r2 =>
  if (r2.1 == 0) = true then
   (zq40 r2.2 ([0, 999, 1000, 2] : List Int)).bind fun r3 =>
   some (.go (r3.2.code_, r3.2.at_, r3.2.seed_.v, r.1.Network.Lines, r3.1, e.Line, e.Start, r.1.Network.Stops))
  else
   if (r2.1 == 1) = true then
    (zq53 r2.2 7).bind fun r4 =>
    some (.go (r4.2.code_, r4.2.at_, r4.2.seed_.v, r.1.Network.Lines, e.Id, (w64 (r4.1 - 1)), e.Start, r.1.Network.Stops))
   else
    if (r2.1 == 2) = true then
     (zq40 r2.2 ([(-1), 0, 1799, 1798, 1800] : List Int)).bind fun r5 =>
     some (.go (r5.2.code_, r5.2.at_, r5.2.seed_.v, r.1.Network.Lines, e.Id, e.Line, r5.1, r.1.Network.Stops))
    else
     if (r2.1 == 3) = true then
      (zq42 r2.2).bind fun r6 =>
      some (.go (r6.2.code_, r6.2.at_, r6.2.seed_.v, r6.1.Lines, e.Id, e.Line, e.Start, r6.1.Stops))
     else
      if (r2.1 == 4) = true then
       (iter (ygw) ((0 : Int), r2.2.code_, r2.2.at_, r2.2.seed_.v, r.1.Trips)).bind fun ((v14, v15, v16, v17) : (List UInt8) × Int × Int × (List Trip)) =>
       some (.ret ((⟨(⟨r.1.Network.Stops, r.1.Network.Lines⟩ : Network), v17⟩ : Timetable), (⟨v14, v15, (⟨v16⟩ : IK .u64)⟩ : l1Cur)))
      else
       some (.go (r2.2.code_, r2.2.at_, r2.2.seed_.v, r.1.Network.Lines, e.Id, e.Line, e.Start, r.1.Network.Stops))) fun ((v, v1, v2, v3, v4, v5, v6, v7) : (List UInt8) × Int × Int × (List Line) × Int × Int × Int × (List ByteArray)) =>
  (idx r.1.Trips r1.1).bind fun e2 =>
  some ((⟨(⟨v7, v3⟩ : Network), (r.1.Trips.set r1.1.toNat (⟨v4, v5, v6⟩ : Trip))⟩ : Timetable), (⟨v, v1, (⟨v2⟩ : IK .u64)⟩ : l1Cur))
def zq59 (a : Int) (b : Int) : Option (Int) :=
 if (decide (b < a)) = true then
  some a
 else
  some b
def ygu (r2 : Network × l1Cur) : Int × (List UInt8) × Int × Int × (List Trip) -> Option (Lp (Int × (List UInt8) × Int × Int × (List Trip)) ((List UInt8) × Int × Int × (List Trip)))
 | (i, v, v1, v2, v3) =>
  if (decide (0 < i)) = true then
   (zq53 (⟨v, v1, (⟨v2⟩ : IK .u64)⟩ : l1Cur) 2).bind fun r7 =>
   (zq53 r7.2 (r2.1.Lines.length : Int)).bind fun r8 =>
   (zq53 r8.2 16).bind fun r9 =>
   (chk (v3.length + ([(⟨(w64 ((w64 ((v3.length : Int) + 1)) + (w64 ((w64 (2 * (v3.length : Int))) * r7.1)))), r8.1, (w64 (360 + (w64 (5 * r9.1))))⟩ : Trip)] : List Trip).length <= 4294967296)).bind fun u1 =>
   some (.nx ((w64 (i - 1)), r9.2.code_, r9.2.at_, r9.2.seed_.v, (v3 ++ ([(⟨(w64 ((w64 ((v3.length : Int) + 1)) + (w64 ((w64 (2 * (v3.length : Int))) * r7.1)))), r8.1, (w64 (360 + (w64 (5 * r9.1))))⟩ : Trip)] : List Trip))))
  else
   some (.dn (v, v1, v2, v3))
def ygt : Int × (List Trip) -> Option (Lp (Int × (List Trip)) ((List Trip)))
 | (x, v8) =>
  if (decide (x < (v8.length : Int))) = true then
   (idx v8 x).bind fun e =>
   (idx v8 (w64 (x - 1))).bind fun e2 =>
   (zq59 e.Id (w64 (e2.Id + 1))).bind fun r11 =>
   (idx v8 x).bind fun e3 =>
   some (.nx ((w64 (x + 1)), (v8.set x.toNat (⟨r11, e.Line, e.Start⟩ : Trip))))
  else
   some (.dn v8)
def zq57 (c : l1Cur) : Option (Timetable × l1Cur) :=
 (zq52 c 16).bind fun r =>
 if r.1 = true then
  (zq43 r.2).bind fun r1 =>
  some ((⟨(⟨r1.1.Network.Stops, r1.1.Network.Lines⟩ : Network), r1.1.Trips⟩ : Timetable), r1.2)
 else
  (zq47 r.2).bind fun r2 =>
  (zq53 r2.2 6).bind fun r3 =>
  (iter (ygu r2) ((w64 (3 + r3.1)), r3.2.code_, r3.2.at_, r3.2.seed_.v, ([] : List Trip))).bind fun ((v4, v5, v6, v7) : (List UInt8) × Int × Int × (List Trip)) =>
  (iter (ygt) ((1 : Int), v7)).bind fun (v9 : List Trip) =>
  some ((⟨(⟨r2.1.Stops, r2.1.Lines⟩ : Network), v9⟩ : Timetable), (⟨v4, v5, (⟨v6⟩ : IK .u64)⟩ : l1Cur))
def zq44 (c : l1Cur) : Option (Int × l1Cur) :=
 (zq40 c ([0, 3, 5, 2, 10, 0, 30, 31, (-1)] : List Int)).bind fun r =>
 some (r.1, r.2)
def zq55 (c : l1Cur) : Option (Int × l1Cur) :=
 (zq52 c 16).bind fun r =>
 if r.1 = true then
  (zq40 r.2 ([0, 1799, 1800, (-1), 1440, 1439] : List Int)).bind fun r1 =>
  some (r1.1, r1.2)
 else
  (zq53 r.2 240).bind fun r2 =>
  some ((w64 (360 + r2.1)), r2.2)
def zq54 (c : l1Cur) : Option (Timetable × Int × Int × Int × Int × l1Cur) :=
 (zq57 c).bind fun r =>
 (if (decide ((r.1.Network.Stops.length : Int) < 2)) = true then some (true, r.2.code_, r.2.at_, r.2.seed_.v) else (zq52 r.2 10).bind fun r1 =>
 some (r1.1, r1.2.code_, r1.2.at_, r1.2.seed_.v)).bind fun ((v, v1, v2, v3) : Bool × (List UInt8) × Int × Int) =>
 if v = true then
  (zq44 (⟨v1, v2, (⟨v3⟩ : IK .u64)⟩ : l1Cur)).bind fun r6 =>
  (zq53 r6.2 8).bind fun r7 =>
  (zq53 r7.2 8).bind fun r8 =>
  (zq55 r8.2).bind fun r9 =>
  some ((⟨(⟨r.1.Network.Stops, r.1.Network.Lines⟩ : Network), r.1.Trips⟩ : Timetable), r6.1, (w64 (r7.1 - 1)), (w64 (r8.1 - 1)), r9.1, r9.2)
 else
  (zq53 (⟨v1, v2, (⟨v3⟩ : IK .u64)⟩ : l1Cur) (r.1.Network.Stops.length : Int)).bind fun r10 =>
  (zq44 r10.2).bind fun r14 =>
  (zq53 r14.2 (w64 ((r.1.Network.Stops.length : Int) - 1))).bind fun r15 =>
  (chk (((r.1.Network.Stops.length : Int) : Int) ≠ 0)).bind fun u1 =>
  (zq53 r15.2 12).bind fun r16 =>
  some ((⟨(⟨r.1.Network.Stops, r.1.Network.Lines⟩ : Network), r.1.Trips⟩ : Timetable), r14.1, r10.1, ((w64 ((w64 (r10.1 + 1)) + r15.1)).tmod (r.1.Network.Stops.length : Int)), (w64 (360 + (w64 (5 * r16.1)))), r16.2)
def zq38 (code : List UInt8) : Option (Timetable × Int × Int × Int × Int) :=
 (zq54 (⟨code, 0, (⟨0⟩ : IK .u64)⟩ : l1Cur)).bind fun r =>
 some ((⟨(⟨r.1.Network.Stops, r.1.Network.Lines⟩ : Network), r.1.Trips⟩ : Timetable), r.2.1, r.2.2.1, r.2.2.2.1, r.2.2.2.2.1)
def zq35 (n : Int) (lo : Int) (hi : Int) : Option (Bool) :=
 (if (decide (lo <= n)) = true then some (decide (n <= hi)) else some false).bind fun (v : Bool) =>
 some v
def ydr (s : ByteArray) : Int -> Option (Lp (Int) (Fl (Bool) (Unit)))
 | v1 =>
  if (decide (v1 < (s.size : Int))) = true then
   (chk ((0 : Int) <= v1 /\ v1 < (s.size : Int))).bind fun u =>
   (if (decide (97 <= ((s.data.toList.getD v1.toNat 0).toNat : Int))) = true then (chk ((0 : Int) <= v1 /\ v1 < (s.size : Int))).bind fun u1 =>
   some (decide (((s.data.toList.getD v1.toNat 0).toNat : Int) <= 122)) else some false).bind fun (v2 : Bool) =>
   (if (!v2) = true then if (v1 == 0) = true then some true else (chk ((0 : Int) <= v1 /\ v1 < (s.size : Int))).bind fun u2 =>
   if (decide (((s.data.toList.getD v1.toNat 0).toNat : Int) < 48)) = true then some true else (chk ((0 : Int) <= v1 /\ v1 < (s.size : Int))).bind fun u3 =>
   some (decide (57 < ((s.data.toList.getD v1.toNat 0).toNat : Int))) else some false).bind fun (v3 : Bool) =>
   if v3 = true then
    some (.dn (.ret false))
   else
    some (.nx (w64 (v1 + 1)))
  else
   some (.dn (.go ()))
def zq24 (s : ByteArray) : Option (Bool) :=
 (if (decide ((s.size : Int) < 1)) = true then some true else some (decide (8 < (s.size : Int)))).bind fun (v : Bool) =>
 if v = true then
  some false
 else
  flb (iter (ydr s) (0 : Int)) fun (_ : Unit) =>
  some true
def yem (s : List ByteArray) (v : ByteArray) : Int -> Option (Lp (Int) (Fl (Int) (Unit)))
 | v1 =>
  if (decide (v1 < (s.length : Int))) = true then
   (idx s v1).bind fun e =>
   if (v.toList == e.toList) = true then
    some (.dn (.ret v1))
   else
    some (.nx (w64 (v1 + 1)))
  else
   some (.dn (.go ()))
def zq97 (s : List ByteArray) (v : ByteArray) : Option (Int) :=
 flb (iter (yem s v) (0 : Int)) fun (_ : Unit) =>
 some (-1)
def yfn (names : List ByteArray) : Int -> Option (Lp (Int) (Fl (Bool) (Unit)))
 | v =>
  if (decide (v < (names.length : Int))) = true then
   (idx names v).bind fun e =>
   (zq24 e).bind fun r =>
   (if (!r) = true then some true else (zq97 names e).bind fun r1 =>
   some (r1 != v)).bind fun (v1 : Bool) =>
   if v1 = true then
    some (.dn (.ret false))
   else
    some (.nx (w64 (v + 1)))
  else
   some (.dn (.go ()))
def zq10 (names : List ByteArray) : Option (Bool) :=
 flb (iter (yfn names) (0 : Int)) fun (_ : Unit) =>
 some true
def yfe (n : Network) : Int × (List ByteArray) -> Option (Lp (Int × (List ByteArray)) ((List ByteArray)))
 | (v, i) =>
  if (decide (v < (n.Lines.length : Int))) = true then
   (idx n.Lines v).bind fun e =>
   (idx i v).bind fun e1 =>
   some (.nx ((w64 (v + 1)), (i.set v.toNat e.Name)))
  else
   some (.dn i)
def zq27 (n : Network) : Option ((List ByteArray)) :=
 (chk ((0 : Int) <= (n.Lines.length : Int) /\ ((n.Lines.length : Int) : Int) <= 4294967296)).bind fun u =>
 (iter (yfe n) ((0 : Int), (List.replicate (n.Lines.length : Int).toNat (ByteArray.empty : ByteArray)))).bind fun (i1 : List ByteArray) =>
 some i1
def zq25 (n : Network) (stop : Int) : Option (Bool) :=
 (if (decide (0 <= stop)) = true then some (decide (stop < (n.Stops.length : Int))) else some false).bind fun (v : Bool) =>
 some v
def yen (s : List Int) (v : Int) : Int -> Option (Lp (Int) (Fl (Int) (Unit)))
 | v1 =>
  if (decide (v1 < (s.length : Int))) = true then
   (idx s v1).bind fun e =>
   if (v == e) = true then
    some (.dn (.ret v1))
   else
    some (.nx (w64 (v1 + 1)))
  else
   some (.dn (.go ()))
def zq96 (s : List Int) (v : Int) : Option (Int) :=
 flb (iter (yen s v) (0 : Int)) fun (_ : Unit) =>
 some (-1)
def yfg (n : Network) (l : Line) : Int -> Option (Lp (Int) (Fl (Bool) (Unit)))
 | v1 =>
  if (decide (v1 < (l.Stops.length : Int))) = true then
   (idx l.Stops v1).bind fun e =>
   (zq25 n e).bind fun r1 =>
   (if (!r1) = true then some true else (zq96 l.Stops e).bind fun r2 =>
   some (r2 != v1)).bind fun (v2 : Bool) =>
   if v2 = true then
    some (.dn (.ret false))
   else
    some (.nx (w64 (v1 + 1)))
  else
   some (.dn (.go ()))
def yff (l : Line) : Int -> Option (Lp (Int) (Fl (Bool) (Unit)))
 | v3 =>
  if (decide (v3 < (l.Runs.length : Int))) = true then
   (idx l.Runs v3).bind fun e2 =>
   (zq35 e2 1 60).bind fun r4 =>
   if (!r4) = true then
    some (.dn (.ret false))
   else
    some (.nx (w64 (v3 + 1)))
  else
   some (.dn (.go ()))
def zq26 (n : Network) (l : Line) : Option (Bool) :=
 (zq35 (l.Stops.length : Int) 2 6).bind fun r =>
 (if (!r) = true then some true else some ((l.Runs.length : Int) != (w64 ((l.Stops.length : Int) - 1)))).bind fun (v : Bool) =>
 if v = true then
  some false
 else
  flb (iter (yfg n l) (0 : Int)) fun (_ : Unit) =>
  flb (iter (yff l) (0 : Int)) fun (_ : Unit) =>
  some true
def yig (n : Network) : Int -> Option (Lp (Int) (Fl (Bool) (Unit)))
 | v1 =>
  if (decide (v1 < (n.Lines.length : Int))) = true then
   (idx n.Lines v1).bind fun e =>
   (zq26 n e).bind fun r5 =>
   if (!r5) = true then
    some (.dn (.ret false))
   else
    some (.nx (w64 (v1 + 1)))
  else
   some (.dn (.go ()))
def zq5 (n : Network) : Option (Bool) :=
 (zq35 (n.Stops.length : Int) 2 8).bind fun r =>
 (if (!r) = true then some true else (zq35 (n.Lines.length : Int) 1 5).bind fun r1 =>
 if (!r1) = true then some true else (zq10 n.Stops).bind fun r2 =>
 if (!r2) = true then some true else (zq27 n).bind fun r3 =>
 (zq10 r3).bind fun r4 =>
 some (!r4)).bind fun (v : Bool) =>
 if v = true then
  some false
 else
  flb (iter (yig n) (0 : Int)) fun (_ : Unit) =>
  some true
def zq23 (n : Network) (line : Int) : Option (Bool) :=
 (if (decide (0 <= line)) = true then some (decide (line < (n.Lines.length : Int))) else some false).bind fun (v : Bool) =>
 some v
def zq6 (t : Int) : Option (Bool) :=
 (zq35 t 0 1799).bind fun r =>
 some r
def ye8 (list : List Int) : Int × Int -> Option (Lp (Int × Int) (Int))
 | (v, v1) =>
  if (decide (v1 < (list.length : Int))) = true then
   (idx list v1).bind fun e =>
   some (.nx ((w64 (v + e)), (w64 (v1 + 1))))
  else
   some (.dn v)
def zq32 (list : List Int) : Option (Int) :=
 (iter (ye8 list) ((0 : Int), (0 : Int))).bind fun (v2 : Int) =>
 some v2
def zq15 (t : Timetable) (x : Trip) : Option (Int) :=
 (idx t.Network.Lines x.Line).bind fun e1 =>
 (zq32 e1.Runs).bind fun r1 =>
 some (w64 (x.Start + r1))
def yha (t : Timetable) : Int × Int -> Option (Lp (Int × Int) (Fl (Bool) (Unit)))
 | (v, v1) =>
  if (decide (v1 < (t.Trips.length : Int))) = true then
   (idx t.Trips v1).bind fun e =>
   (if (decide (e.Id <= v)) = true then some true else if (decide (999 < e.Id)) = true then some true else (zq23 t.Network e.Line).bind fun r =>
   if (!r) = true then some true else (zq6 e.Start).bind fun r1 =>
   if (!r1) = true then some true else (zq15 t e).bind fun r2 =>
   (zq6 r2).bind fun r3 =>
   some (!r3)).bind fun (v2 : Bool) =>
   if v2 = true then
    some (.dn (.ret false))
   else
    some (.nx (e.Id, (w64 (v1 + 1))))
  else
   some (.dn (.go ()))
def zq11 (t : Timetable) : Option (Bool) :=
 if (decide (12 < (t.Trips.length : Int))) = true then
  some false
 else
  flb (iter (yha t) ((0 : Int), (0 : Int))) fun (_ : Unit) =>
  some true
def zq7 (t : Timetable) : Option (Bool) :=
 (zq5 t.Network).bind fun r =>
 (if r = true then (zq11 t).bind fun r1 =>
 some r1 else some false).bind fun (v : Bool) =>
 some v
def zq19 (change : Int) : Option (Bool) :=
 (zq35 change 0 30).bind fun r =>
 some r
def zq20 (t : Timetable) (change : Int) (from_ : Int) (at_ : Int) : Option (Bool) :=
 (zq7 t).bind fun r =>
 (if r = true then (zq19 change).bind fun r1 =>
 if r1 = true then (zq25 t.Network from_).bind fun r2 =>
 if r2 = true then (zq6 at_).bind fun r3 =>
 some r3 else some false else some false else some false).bind fun (v : Bool) =>
 some v
def yfc (t : Timetable) : Int × (List Int) -> Option (Lp (Int × (List Int)) ((List Int)))
 | (v, v1) =>
  if (decide (v < ((List.replicate (t.Network.Stops.length : Int).toNat (0 : Int)).length : Int))) = true then
   (idx v1 v).bind fun e =>
   some (.nx ((w64 (v + 1)), (v1.set v.toNat 1073741824)))
  else
   some (.dn v1)
def zq29 (t : Timetable) (stop : Int) (at_ : Int) : Option ((List Int)) :=
 (chk ((0 : Int) <= (t.Network.Stops.length : Int) /\ ((t.Network.Stops.length : Int) : Int) <= 4294967296)).bind fun u =>
 (iter (yfc t) ((0 : Int), (List.replicate (t.Network.Stops.length : Int).toNat (0 : Int)))).bind fun (v2 : List Int) =>
 (idx v2 stop).bind fun e1 =>
 some (v2.set stop.toNat at_)
def zq28 (t : Timetable) (x : Trip) : Option (Line) :=
 (idx t.Network.Lines x.Line).bind fun e =>
 some e
def ygz (r : Line) : Int × (List Int) -> Option (Lp (Int × (List Int)) ((List Int)))
 | (v, r1) =>
  if (decide (v < (r.Runs.length : Int))) = true then
   (idx r.Runs v).bind fun e =>
   (idx r1 v).bind fun e1 =>
   (chk (r1.length + ([(w64 (e1 + e))] : List Int).length <= 4294967296)).bind fun u =>
   some (.nx ((w64 (v + 1)), (r1 ++ ([(w64 (e1 + e))] : List Int))))
  else
   some (.dn r1)
def zq31 (t : Timetable) (x : Trip) : Option ((List Int)) :=
 (zq28 t x).bind fun r =>
 (iter (ygz r) ((0 : Int), ([x.Start] : List Int))).bind fun (r2 : List Int) =>
 some r2
def yfa (ready : List Int) : Int × (List Int) -> Option (Lp (Int × (List Int)) ((List Int)))
 | (v, v1) =>
  if (decide (v < ((List.replicate (ready.length : Int).toNat (0 : Int)).length : Int))) = true then
   (idx v1 v).bind fun e =>
   some (.nx ((w64 (v + 1)), (v1.set v.toNat 1073741824)))
  else
   some (.dn v1)
def ye9 (ready : List Int) (r : (List Int)) (r1 : Line) : Bool × Int × (List Int) -> Option (Lp (Bool × Int × (List Int)) ((List Int)))
 | (s1, v5, v6) =>
  if (decide (v5 < (r1.Stops.length : Int))) = true then
   (idx r1.Stops v5).bind fun e2 =>
   (if s1 = true then
    (idx v6 e2).bind fun e6 =>
    (idx r v5).bind fun e7 =>
    (idx v6 e2).bind fun e8 =>
    some (v6.set e2.toNat (if e7 < e6 then e7 else e6))
   else
    some v6).bind fun (v7 : List Int) =>
   if s1 = true then some (.nx (true, (w64 (v5 + 1)), v7)) else (idx ready e2).bind fun e11 =>
   (idx r v5).bind fun e12 =>
   some (.nx ((decide (e11 <= e12)), (w64 (v5 + 1)), v7))
  else
   some (.dn v6)
def yg0 (t : Timetable) (ready : List Int) : Int × (List Int) -> Option (Lp (Int × (List Int)) ((List Int)))
 | (v3, v4) =>
  if (decide (v3 < (t.Trips.length : Int))) = true then
   (idx t.Trips v3).bind fun e1 =>
   (zq31 t e1).bind fun r =>
   (zq28 t e1).bind fun r1 =>
   (iter (ye9 ready r r1) (false, (0 : Int), v4)).bind fun (v8 : List Int) =>
   some (.nx ((w64 (v3 + 1)), v8))
  else
   some (.dn v4)
def zq30 (t : Timetable) (ready : List Int) : Option ((List Int)) :=
 (chk ((0 : Int) <= (ready.length : Int) /\ ((ready.length : Int) : Int) <= 4294967296)).bind fun u =>
 (iter (yfa ready) ((0 : Int), (List.replicate (ready.length : Int).toNat (0 : Int)))).bind fun (v2 : List Int) =>
 (iter (yg0 t ready) ((0 : Int), v2)).bind fun (v9 : List Int) =>
 some v9
def yfk (ready : List Int) : Int × (List Int) -> Option (Lp (Int × (List Int)) ((List Int)))
 | (v, a) =>
  if (decide (v < ((List.replicate (ready.length : Int).toNat (0 : Int)).length : Int))) = true then
   (idx a v).bind fun e =>
   some (.nx ((w64 (v + 1)), (a.set v.toNat 1073741824)))
  else
   some (.dn a)
def yg9 (change : Int) (r : (List Int)) : Int × (List Int) × (List Int) -> Option (Lp (Int × (List Int) × (List Int)) ((List Int) × (List Int)))
 | (v2, ready2, a3) =>
  if (decide (v2 < (r.length : Int))) = true then
   ((idx r v2).bind fun e1 =>
   (idx ready2 v2).bind fun e2 =>
   (idx a3 v2).bind fun e3 =>
   if (decide (e1 < e3)) = true then
    (idx a3 v2).bind fun e4 =>
    (idx (ready2.set v2.toNat 1073741824) v2).bind fun e5 =>
    some (((ready2.set v2.toNat 1073741824).set v2.toNat (w64 (e1 + change))), (a3.set v2.toNat e1))
   else
    some ((ready2.set v2.toNat 1073741824), a3)).bind fun ((ready3, a4) : (List Int) × (List Int)) =>
   some (.nx ((w64 (v2 + 1)), ready3, a4))
  else
   some (.dn (ready2, a3))
def yg8 (t : Timetable) (change : Int) (legs : Int) : (List Int) × Int × (List Int) -> Option (Lp ((List Int) × Int × (List Int)) ((List Int)))
 | (ready1, v1, a2) =>
  if (decide (v1 < legs)) = true then
   (zq30 t ready1).bind fun r =>
   (chk ((0 : Int) <= (a2.length : Int) /\ ((a2.length : Int) : Int) <= 4294967296)).bind fun u1 =>
   (iter (yg9 change r) ((0 : Int), (List.replicate (a2.length : Int).toNat (0 : Int)), a2)).bind fun ((ready4, a5) : (List Int) × (List Int)) =>
   some (.nx (ready4, (w64 (v1 + 1)), a5))
  else
   some (.dn a2)
def zq12 (t : Timetable) (change : Int) (ready : List Int) (legs : Int) : Option ((List Int)) :=
 (chk ((0 : Int) <= (ready.length : Int) /\ ((ready.length : Int) : Int) <= 4294967296)).bind fun u =>
 (iter (yfk ready) ((0 : Int), (List.replicate (ready.length : Int).toNat (0 : Int)))).bind fun (a1 : List Int) =>
 (iter (yg8 t change legs) (ready, (0 : Int), a1)).bind fun (a6 : List Int) =>
 some a6
def zq16 (t : Timetable) (x : Trip) (from_ : Int) (to_ : Int) : Option (Leg × Bool) :=
 (zq28 t x).bind fun r =>
 (zq96 r.Stops from_).bind fun r1 =>
 (zq96 r.Stops to_).bind fun r2 =>
 (if (decide (r1 < 0)) = true then some true else some (decide (r2 <= r1))).bind fun (v : Bool) =>
 if v = true then
  some ((⟨0, 0, 0, 0, 0⟩ : Leg), false)
 else
  (zq31 t x).bind fun r3 =>
  (idx r3 r1).bind fun e2 =>
  (idx r3 r2).bind fun e3 =>
  some ((⟨x.Id, from_, to_, e2, e3⟩ : Leg), true)
def yg3 (t : Timetable) (change : Int) (stop : Int) (to_ : Int) (ready : Int) (by_ : Int) (legs : Int) (e : Trip) : Int -> Option (Lp (Int) (Fl (Lp (Int) (Fl (Leg) (Unit))) (Unit)))
 | v1 =>
  if (decide (v1 < (t.Network.Stops.length : Int))) = true then
   flb ((zq16 t e stop v1).bind fun r =>
   (if (!r.2) = true then some true else some (decide (r.1.Depart < ready))).bind fun (v2 : Bool) =>
   if v2 = true then
    some (.go ())
   else
    (if (legs == 1) = true then if (v1 == to_) = true then some (decide (r.1.Arrive <= by_)) else some false else some false).bind fun (v3 : Bool) =>
    if v3 = true then
     some (.ret (.dn (.ret (.dn (.ret r.1)))))
    else
     (if (decide (1 < legs)) = true then (zq29 t v1 (w64 (r.1.Arrive + change))).bind fun r6 =>
     (zq12 t change r6 (w64 (legs - 1))).bind fun r7 =>
     (idx r7 to_).bind fun e5 =>
     some (decide (e5 <= by_)) else some false).bind fun (v4 : Bool) =>
     if v4 = true then
      some (.ret (.dn (.ret (.dn (.ret r.1)))))
     else
      some (.go ())) fun (_ : Unit) =>
   some (.nx (w64 (v1 + 1)))
  else
   some (.dn (.go ()))
def yg2 (t : Timetable) (change : Int) (stop : Int) (to_ : Int) (ready : Int) (by_ : Int) (legs : Int) : Int -> Option (Lp (Int) (Fl (Leg) (Unit)))
 | v =>
  if (decide (v < (t.Trips.length : Int))) = true then
   (idx t.Trips v).bind fun e =>
   flb (iter (yg3 t change stop to_ ready by_ legs e) (0 : Int)) fun (_ : Unit) =>
   some (.nx (w64 (v + 1)))
  else
   some (.dn (.go ()))
def zq18 (t : Timetable) (change : Int) (stop : Int) (to_ : Int) (ready : Int) (by_ : Int) (legs : Int) : Option (Leg) :=
 flb (iter (yg2 t change stop to_ ready by_ legs) (0 : Int)) fun (_ : Unit) =>
 some (⟨0, 0, 0, 0, 0⟩ : Leg)
def yg5 (t : Timetable) (change : Int) (from_ : Int) (to_ : Int) (at_ : Int) (e1 : Int) : Int -> Option (Lp (Int) (Int))
 | v =>
  (zq29 t from_ at_).bind fun r6 =>
  (zq12 t change r6 v).bind fun r7 =>
  (idx r7 to_).bind fun e3 =>
  if (decide (e1 < e3)) = true then
   some (.nx (w64 (v + 1)))
  else
   some (.dn v)
def yg4 (t : Timetable) (change : Int) (to_ : Int) (e1 : Int) : Int × Int × Int × (List Leg) -> Option (Lp (Int × Int × Int × (List Leg)) ((List Leg)))
 | (v2, v3, v4, v5) =>
  if (decide (0 < v2)) = true then
   (zq18 t change v3 to_ v4 e1 v2).bind fun r8 =>
   (chk (v5.length + ([r8] : List Leg).length <= 4294967296)).bind fun u =>
   some (.nx ((w64 (v2 - 1)), r8.To, (w64 (r8.Arrive + change)), (v5 ++ ([r8] : List Leg))))
  else
   some (.dn v5)
def zq17 (t : Timetable) (change : Int) (from_ : Int) (to_ : Int) (at_ : Int) (most : Int) : Option ((Nl Leg)) :=
 (zq29 t from_ at_).bind fun r2 =>
 (zq12 t change r2 most).bind fun r3 =>
 (idx r3 to_).bind fun e1 =>
 if (e1 == 1073741824) = true then
  some (⟨[]⟩ : Nl Leg)
 else
  (iter (yg5 t change from_ to_ at_ e1) (1 : Int)).bind fun (v1 : Int) =>
  (iter (yg4 t change to_ e1) (v1, from_, at_, ([] : List Leg))).bind fun (v6 : List Leg) =>
  (chk (v6.length ≠ 0)).bind fun u1 =>
  some (⟨v6⟩ : Nl Leg)
def zq3 (t : Timetable) (change : Int) (from_ : Int) (to_ : Int) (at_ : Int) : Option ((List Leg) × Bool) :=
 (zq20 t change from_ at_).bind fun r =>
 (if (!r) = true then some true else (zq25 t.Network to_).bind fun r1 =>
 if (!r1) = true then some true else some (from_ == to_)).bind fun (v : Bool) =>
 if v = true then
  some (([] : List Leg), false)
 else
  (zq17 t change from_ to_ at_ 4).bind fun r2 =>
  (nlsp r2 (some (([] : List Leg), false)) (fun a l => some ((a :: l), true))).bind fun ((v1, v2) : (List Leg) × Bool) =>
  some (v1, v2)
def zq58 (x : Int) (a : Int) (b : Int) : Option (Bool) :=
 (if (decide (a <= x)) = true then some (decide (x <= b)) else some false).bind fun (v : Bool) =>
 some v
def ydn (s : ByteArray) : Int -> Option (Lp (Int) (Fl (Bool) (Unit)))
 | v1 =>
  if (decide (v1 < (s.size : Int))) = true then
   (chk ((0 : Int) <= v1 /\ v1 < (s.size : Int))).bind fun u2 =>
   (if (decide (((s.data.toList.getD v1.toNat 0).toNat : Int) < 97)) = true then (chk ((0 : Int) <= v1 /\ v1 < (s.size : Int))).bind fun u3 =>
   if (decide (((s.data.toList.getD v1.toNat 0).toNat : Int) < 48)) = true then some true else (chk ((0 : Int) <= v1 /\ v1 < (s.size : Int))).bind fun u4 =>
   some (decide (57 < ((s.data.toList.getD v1.toNat 0).toNat : Int))) else (chk ((0 : Int) <= v1 /\ v1 < (s.size : Int))).bind fun u5 =>
   if (decide (122 < ((s.data.toList.getD v1.toNat 0).toNat : Int))) = true then (chk ((0 : Int) <= v1 /\ v1 < (s.size : Int))).bind fun u6 =>
   if (decide (((s.data.toList.getD v1.toNat 0).toNat : Int) < 48)) = true then some true else (chk ((0 : Int) <= v1 /\ v1 < (s.size : Int))).bind fun u7 =>
   some (decide (57 < ((s.data.toList.getD v1.toNat 0).toNat : Int))) else some false).bind fun (v2 : Bool) =>
   if v2 = true then
    some (.dn (.ret false))
   else
    some (.nx (w64 (v1 + 1)))
  else
   some (.dn (.go ()))
def zq69 (s : ByteArray) : Option (Bool) :=
 (zq58 (s.size : Int) 1 8).bind fun r =>
 (if (!r) = true then some true else (chk ((0 : Int) <= 0 /\ 0 < (s.size : Int))).bind fun u =>
 if (decide (((s.data.toList.getD (0 : Int).toNat 0).toNat : Int) < 97)) = true then some true else (chk ((0 : Int) <= 0 /\ 0 < (s.size : Int))).bind fun u1 =>
 some (decide (122 < ((s.data.toList.getD (0 : Int).toNat 0).toNat : Int)))).bind fun (v : Bool) =>
 if v = true then
  some false
 else
  flb (iter (ydn s) (0 : Int)) fun (_ : Unit) =>
  some true
def ye2 (list : List ByteArray) (name : ByteArray) : Int -> Option (Lp (Int) (Fl (Int) (Unit)))
 | v =>
  if (decide (v < (list.length : Int))) = true then
   (idx list v).bind fun e =>
   if (e.toList == name.toList) = true then
    some (.dn (.ret v))
   else
    some (.nx (w64 (v + 1)))
  else
   some (.dn (.go ()))
def zq65 (list : List ByteArray) (name : ByteArray) : Option (Int) :=
 flb (iter (ye2 list name) (0 : Int)) fun (_ : Unit) =>
 some (-1)
def yez (x : Line) (stops : Int) : Int -> Option (Lp (Int) (Fl (Bool) (Unit)))
 | v1 =>
  if (decide (v1 < (x.Stops.length : Int))) = true then
   (idx x.Stops v1).bind fun e2 =>
   (zq58 e2 0 (w64 (stops - 1))).bind fun r4 =>
   (if (!r4) = true then some true else (idx x.Stops v1).bind fun e3 =>
   (zq72 x e3).bind fun r5 =>
   some (r5 != v1)).bind fun (v2 : Bool) =>
   if v2 = true then
    some (.dn (.ret false))
   else
    some (.nx (w64 (v1 + 1)))
  else
   some (.dn (.go ()))
def yey (x : Line) : Int -> Option (Lp (Int) (Fl (Bool) (Unit)))
 | v3 =>
  if (decide (v3 < (x.Runs.length : Int))) = true then
   (idx x.Runs v3).bind fun e5 =>
   (zq58 e5 1 60).bind fun r7 =>
   if (!r7) = true then
    some (.dn (.ret false))
   else
    some (.nx (w64 (v3 + 1)))
  else
   some (.dn (.go ()))
def zq67 (x : Line) (stops : Int) : Option (Bool) :=
 (zq69 x.Name).bind fun r =>
 (if (!r) = true then some true else (zq58 (x.Stops.length : Int) 2 6).bind fun r1 =>
 if (!r1) = true then some true else some ((x.Runs.length : Int) != (w64 ((x.Stops.length : Int) - 1)))).bind fun (v : Bool) =>
 if v = true then
  some false
 else
  flb (iter (yez x stops) (0 : Int)) fun (_ : Unit) =>
  flb (iter (yey x) (0 : Int)) fun (_ : Unit) =>
  some true
def yex (n : Network) (name : ByteArray) : Int -> Option (Lp (Int) (Fl (Int) (Unit)))
 | v =>
  if (decide (v < (n.Lines.length : Int))) = true then
   (idx n.Lines v).bind fun e =>
   if (e.Name.toList == name.toList) = true then
    some (.dn (.ret v))
   else
    some (.nx (w64 (v + 1)))
  else
   some (.dn (.go ()))
def zq68 (n : Network) (name : ByteArray) : Option (Int) :=
 flb (iter (yex n name) (0 : Int)) fun (_ : Unit) =>
 some (-1)
def ye1 (n : Network) : Int -> Option (Lp (Int) (Fl (Bool) (Unit)))
 | i =>
  if (decide (i < (n.Stops.length : Int))) = true then
   (idx n.Stops i).bind fun e2 =>
   (zq69 e2).bind fun r4 =>
   (if (!r4) = true then some true else (idx n.Stops i).bind fun e3 =>
   (zq65 n.Stops e3).bind fun r5 =>
   some (r5 != i)).bind fun (v1 : Bool) =>
   if v1 = true then
    some (.dn (.ret false))
   else
    some (.nx (w64 (i + 1)))
  else
   some (.dn (.go ()))
def ye0 (n : Network) : Int -> Option (Lp (Int) (Fl (Bool) (Unit)))
 | v2 =>
  if (decide (v2 < (n.Lines.length : Int))) = true then
   (idx n.Lines v2).bind fun e7 =>
   (zq67 e7 (n.Stops.length : Int)).bind fun r9 =>
   (if (!r9) = true then some true else (idx n.Lines v2).bind fun e8 =>
   (zq68 n e8.Name).bind fun r10 =>
   some (r10 != v2)).bind fun (v3 : Bool) =>
   if v3 = true then
    some (.dn (.ret false))
   else
    some (.nx (w64 (v2 + 1)))
  else
   some (.dn (.go ()))
def zq66 (n : Network) : Option (Bool) :=
 (zq58 (n.Stops.length : Int) 2 8).bind fun r =>
 (if (!r) = true then some true else (zq58 (n.Lines.length : Int) 1 5).bind fun r1 =>
 some (!r1)).bind fun (v : Bool) =>
 if v = true then
  some false
 else
  flb (iter (ye1 n) (0 : Int)) fun (_ : Unit) =>
  flb (iter (ye0 n) (0 : Int)) fun (_ : Unit) =>
  some true
def zq74 (t : Int) : Option (Bool) :=
 (zq58 t 0 1799).bind fun r =>
 some r
def zq78 (t : Timetable) (i : Int) : Option (Line) :=
 (idx t.Trips i).bind fun e2 =>
 (idx t.Network.Lines e2.Line).bind fun e3 =>
 some e3
def zq79 (t : Timetable) (i : Int) : Option ((List Int)) :=
 (zq78 t i).bind fun r =>
 some r.Stops
def ygr (x : Line) (to_ : Int) : Int × Int -> Option (Lp (Int × Int) (Int))
 | (v, v1) =>
  if (decide (v1 < to_)) = true then
   (idx x.Runs v1).bind fun e =>
   some (.nx ((w64 (v + e)), (w64 (v1 + 1))))
  else
   some (.dn v)
def zq73 (x : Line) (from_ : Int) (to_ : Int) : Option (Int) :=
 (iter (ygr x to_) ((0 : Int), from_)).bind fun (v2 : Int) =>
 some v2
def zq75 (t : Timetable) (i : Int) (k : Int) : Option (Int) :=
 (idx t.Trips i).bind fun e1 =>
 (zq78 t i).bind fun r2 =>
 (zq73 r2 0 k).bind fun r3 =>
 some (w64 (e1.Start + r3))
def zq76 (t : Timetable) (i : Int) : Option (Int) :=
 (zq79 t i).bind fun r2 =>
 (zq75 t i (w64 ((r2.length : Int) - 1))).bind fun r3 =>
 some r3
def ygq (t : Timetable) : Int -> Option (Lp (Int) (Fl (Bool) (Unit)))
 | x =>
  if (decide (x < (t.Trips.length : Int))) = true then
   (idx t.Trips x).bind fun e =>
   (zq58 e.Id 1 999).bind fun r6 =>
   (if (!r6) = true then some true else (zq58 e.Line 0 (w64 ((t.Network.Lines.length : Int) - 1))).bind fun r7 =>
   if (!r7) = true then some true else (zq74 e.Start).bind fun r8 =>
   if (!r8) = true then some true else (zq76 t x).bind fun r9 =>
   (zq74 r9).bind fun r10 =>
   if (!r10) = true then some true else if (decide (0 < x)) = true then (idx t.Trips (w64 (x - 1))).bind fun e2 =>
   some (decide (e.Id <= e2.Id)) else some false).bind fun (v1 : Bool) =>
   if v1 = true then
    some (.dn (.ret false))
   else
    some (.nx (w64 (x + 1)))
  else
   some (.dn (.go ()))
def zq77 (t : Timetable) : Option (Bool) :=
 (zq66 t.Network).bind fun r =>
 (if (!r) = true then some true else some (decide (12 < (t.Trips.length : Int)))).bind fun (v : Bool) =>
 if v = true then
  some false
 else
  flb (iter (ygq t) (0 : Int)) fun (_ : Unit) =>
  some true
def zq81 (t : Timetable) (change : Int) : Option (Bool) :=
 (zq77 t).bind fun r =>
 (if r = true then (zq58 change 0 30).bind fun r1 =>
 some r1 else some false).bind fun (v : Bool) =>
 some v
def zq84 (t : Timetable) (change : Int) (from_ : Int) (at_ : Int) : Option (Bool) :=
 (zq81 t change).bind fun r =>
 (if r = true then (zq58 from_ 0 (w64 ((t.Network.Stops.length : Int) - 1))).bind fun r1 =>
 if r1 = true then (zq74 at_).bind fun r2 =>
 some r2 else some false else some false).bind fun (v : Bool) =>
 some v
def zq86 (t : Timetable) (change : Int) (from_ : Int) (to_ : Int) (at_ : Int) : Option (Bool) :=
 (zq84 t change from_ at_).bind fun r =>
 (if r = true then (zq58 to_ 0 (w64 ((t.Network.Stops.length : Int) - 1))).bind fun r1 =>
 if r1 = true then some (from_ != to_) else some false else some false).bind fun (v : Bool) =>
 some v
def yer : Int × (List Int) -> Option (Lp (Int × (List Int)) ((List Int)))
 | (on_, i) =>
  if (decide (on_ < (i.length : Int))) = true then
   (idx i on_).bind fun e =>
   some (.nx ((w64 (on_ + 1)), (i.set on_.toNat (-1))))
  else
   some (.dn i)
def yeq (t : Timetable) (from_ : Int) (at_ : Int) (i2 : List Int) (s1 : Int) (time : Int) (r : (List Int)) : Bool × Int × (List Int) -> Option (Lp (Bool × Int × (List Int)) ((List Int)))
 | (ready, v, k1) =>
  if (decide (v < (r.length : Int))) = true then
   (idx r v).bind fun e3 =>
   (zq75 t time v).bind fun r2 =>
   ((if ready = true then (idx k1 e3).bind fun e4 =>
   if (decide (e4 < 0)) = true then some true else (idx k1 e3).bind fun e5 =>
   some (decide (r2 < e5)) else some false).bind fun (v1 : Bool) =>
   if v1 = true then
    (idx k1 e3).bind fun e6 =>
    some (k1.set e3.toNat r2)
   else
    some k1).bind fun (k2 : List Int) =>
   (idx i2 e3).bind fun e7 =>
   (if (e3 == from_) = true then
    some at_
   else
    some (w64 (e7 + s1))).bind fun (v2 : Int) =>
   if ready = true then some (.nx (true, (w64 (v + 1)), k2)) else (idx i2 e3).bind fun e8 =>
   if (decide (0 <= e8)) = true then some (.nx ((decide (v2 <= r2)), (w64 (v + 1)), k2)) else some (.nx (false, (w64 (v + 1)), k2))
  else
   some (.dn k1)
def ygp (t : Timetable) (from_ : Int) (at_ : Int) (i2 : List Int) (s1 : Int) : Int × (List Int) -> Option (Lp (Int × (List Int)) ((List Int)))
 | (time, k) =>
  if (decide (time < (t.Trips.length : Int))) = true then
   (zq79 t time).bind fun r =>
   (iter (yeq t from_ at_ i2 s1 time r) (false, (0 : Int), k)).bind fun (k3 : List Int) =>
   some (.nx ((w64 (time + 1)), k3))
  else
   some (.dn k)
def ygo (t : Timetable) (change : Int) (from_ : Int) (at_ : Int) (legs : Int) : Int × (List Int) -> Option (Lp (Int × (List Int)) ((List Int)))
 | (stops, i2) =>
  if (decide (stops < legs)) = true then
   (chk (([] : List Int).length + i2.length <= 4294967296)).bind fun u1 =>
   (if (stops == 0) = true then
    some (0 : Int)
   else
    some change).bind fun (s1 : Int) =>
   (iter (ygp t from_ at_ i2 s1) ((0 : Int), (([] : List Int) ++ i2))).bind fun (k4 : List Int) =>
   some (.nx ((w64 (stops + 1)), k4))
  else
   some (.dn i2)
def zq80 (t : Timetable) (change : Int) (from_ : Int) (at_ : Int) (legs : Int) : Option ((List Int)) :=
 (chk ((0 : Int) <= (t.Network.Stops.length : Int) /\ ((t.Network.Stops.length : Int) : Int) <= 4294967296)).bind fun u =>
 (iter (yer) ((0 : Int), (List.replicate (t.Network.Stops.length : Int).toNat (0 : Int)))).bind fun (i1 : List Int) =>
 (idx i1 from_).bind fun e1 =>
 (iter (ygo t change from_ at_ legs) ((0 : Int), (i1.set from_.toNat at_))).bind fun (i3 : List Int) =>
 some i3
def zq85 (t : Timetable) (i : Int) (a : Int) (b : Int) : Option (Leg) :=
 (zq79 t i).bind fun r =>
 (idx t.Trips i).bind fun e3 =>
 (idx r a).bind fun e4 =>
 (idx r b).bind fun e5 =>
 (zq75 t i a).bind fun r3 =>
 (zq75 t i b).bind fun r4 =>
 some (⟨e3.Id, e4, e5, r3, r4⟩ : Leg)
def ygm (x : l8Search) (legs : List Leg) (s : Int) : Bool × Int -> Option (Lp (Bool × Int) (Bool))
 | (b, leg) =>
  if (decide (leg < (legs.length : Int))) = true then
   if b = true then some (.nx (true, (w64 (leg + 1)))) else (idx legs leg).bind fun e2 =>
   (idx x.t_.Trips s).bind fun e3 =>
   some (.nx ((e2.Trip == e3.Id), (w64 (leg + 1))))
  else
   some (.dn b)
def ygl (rec_ : l8Search -> (List Leg) -> Int -> Int -> Int -> Option ((List Leg))) (x : l8Search) (legs : List Leg) (more : Int) (s : Int) (r1 : Int) (r3 : (List Int)) : Int -> Option (Lp (Int) (Fl (Fl (Lp (Int) (Fl ((List Leg)) (Unit))) (Unit)) (Unit)))
 | v1 =>
  if (decide (v1 < (x.t_.Network.Stops.length : Int))) = true then
   flb ((zq78 x.t_ s).bind fun r4 =>
   (zq72 r4 v1).bind fun r5 =>
   (if (decide (r5 <= r1)) = true then some true else if (decide ((r3.length : Int) <= r5)) = true then some true else (zq75 x.t_ s r5).bind fun r7 =>
   some (decide (x.arrive_ < r7))).bind fun (v2 : Bool) =>
   if v2 = true then
    some (.go ())
   else
    (zq85 x.t_ s r1 r5).bind fun r8 =>
    (chk (([] : List Leg).length + legs.length <= 4294967296)).bind fun u2 =>
    (chk ((([] : List Leg) ++ legs).length + ([r8] : List Leg).length <= 4294967296)).bind fun u3 =>
    if (more == 1) = true then
     (if (v1 == x.to_) = true then some (r8.Arrive == x.arrive_) else some false).bind fun (v3 : Bool) =>
     if v3 = true then
      some (.ret (.dn (.ret (.ret (.dn (.ret ((([] : List Leg) ++ legs) ++ ([r8] : List Leg))))))))
     else
      some (.go ())
    else
     (rec_ x ((([] : List Leg) ++ legs) ++ ([r8] : List Leg)) v1 (w64 (r8.Arrive + x.change_)) (w64 (more - 1))).bind fun r14 =>
     if (decide (0 < (r14.length : Int))) = true then
      some (.ret (.dn (.ret (.ret (.dn (.ret r14))))))
     else
      some (.go ())) fun (_ : Unit) =>
   some (.nx (w64 (v1 + 1)))
  else
   some (.dn (.go ()))
def ygk (rec_ : l8Search -> (List Leg) -> Int -> Int -> Int -> Option ((List Leg))) (x : l8Search) (legs : List Leg) (stop : Int) (at_ : Int) (more : Int) : Int -> Option (Lp (Int) (Fl ((List Leg)) (Unit)))
 | s =>
  if (decide (s < (x.t_.Trips.length : Int))) = true then
   flb ((iter (ygm x legs s) (false, (0 : Int))).bind fun (b1 : Bool) =>
   (zq78 x.t_ s).bind fun r =>
   (zq72 r stop).bind fun r1 =>
   (if b1 = true then some true else if (decide (r1 < 0)) = true then some true else (zq75 x.t_ s r1).bind fun r2 =>
   some (decide (r2 < at_))).bind fun (v : Bool) =>
   if v = true then
    some (.go ())
   else
    (zq79 x.t_ s).bind fun r3 =>
    flb (iter (ygl rec_ x legs more s r1 r3) (0 : Int)) fun (_ : Unit) =>
    some (.go ())) fun (_ : Unit) =>
   some (.nx (w64 (s + 1)))
  else
   some (.dn (.go ()))
def ydh (rec_ : l8Search -> (List Leg) -> Int -> Int -> Int -> Option ((List Leg))) (x : l8Search) (legs : List Leg) (stop : Int) (at_ : Int) (more : Int) : Option ((List Leg)) :=
 flb (iter (ygk rec_ x legs stop at_ more) (0 : Int)) fun (_ : Unit) =>
 some ([] : List Leg)
def yb9 : Nat -> l8Search -> (List Leg) -> Int -> Int -> Int -> Option ((List Leg))
 | 0 => fun _ _ _ _ _ => none
 | n + 1 => ydh (yb9 n)
def zq88 (x : l8Search) (legs : List Leg) (stop : Int) (at_ : Int) (more : Int) : Option ((List Leg)) := yb9 4294967296 x legs stop at_ more
def yj0 (x : l8Search) (legs : List Leg) (s : Int) : Bool × Int -> Option (Lp (Bool × Int) (Bool))
 | (b, leg) =>
  if (decide (leg < (legs.length : Int))) = true then
   if b = true then some (.nx (true, (w64 (leg + 1)))) else (idx legs leg).bind fun e2 =>
   (idx x.t_.Trips s).bind fun e3 =>
   some (.nx ((e2.Trip == e3.Id), (w64 (leg + 1))))
  else
   some (.dn b)
def yjz (x : l8Search) (legs : List Leg) (more : Int) (s : Int) (r1 : Int) (r3 : (List Int)) : Int -> Option (Lp (Int) (Fl (Fl (Lp (Int) (Fl ((List Leg)) (Unit))) (Unit)) (Unit)))
 | v1 =>
  if (decide (v1 < (x.t_.Network.Stops.length : Int))) = true then
   flb ((zq78 x.t_ s).bind fun r4 =>
   (zq72 r4 v1).bind fun r5 =>
   (if (decide (r5 <= r1)) = true then some true else if (decide ((r3.length : Int) <= r5)) = true then some true else (zq75 x.t_ s r5).bind fun r7 =>
   some (decide (x.arrive_ < r7))).bind fun (v2 : Bool) =>
   if v2 = true then
    some (.go ())
   else
    (zq85 x.t_ s r1 r5).bind fun r8 =>
    (chk (([] : List Leg).length + legs.length <= 4294967296)).bind fun u2 =>
    (chk ((([] : List Leg) ++ legs).length + ([r8] : List Leg).length <= 4294967296)).bind fun u3 =>
    if (more == 1) = true then
     (if (v1 == x.to_) = true then some (r8.Arrive == x.arrive_) else some false).bind fun (v3 : Bool) =>
     if v3 = true then
      some (.ret (.dn (.ret (.ret (.dn (.ret ((([] : List Leg) ++ legs) ++ ([r8] : List Leg))))))))
     else
      some (.go ())
    else
     (zq88 x ((([] : List Leg) ++ legs) ++ ([r8] : List Leg)) v1 (w64 (r8.Arrive + x.change_)) (w64 (more - 1))).bind fun r14 =>
     if (decide (0 < (r14.length : Int))) = true then
      some (.ret (.dn (.ret (.ret (.dn (.ret r14))))))
     else
      some (.go ())) fun (_ : Unit) =>
   some (.nx (w64 (v1 + 1)))
  else
   some (.dn (.go ()))
def yjy (x : l8Search) (legs : List Leg) (stop : Int) (at_ : Int) (more : Int) : Int -> Option (Lp (Int) (Fl ((List Leg)) (Unit)))
 | s =>
  if (decide (s < (x.t_.Trips.length : Int))) = true then
   flb ((iter (yj0 x legs s) (false, (0 : Int))).bind fun (b1 : Bool) =>
   (zq78 x.t_ s).bind fun r =>
   (zq72 r stop).bind fun r1 =>
   (if b1 = true then some true else if (decide (r1 < 0)) = true then some true else (zq75 x.t_ s r1).bind fun r2 =>
   some (decide (r2 < at_))).bind fun (v : Bool) =>
   if v = true then
    some (.go ())
   else
    (zq79 x.t_ s).bind fun r3 =>
    flb (iter (yjz x legs more s r1 r3) (0 : Int)) fun (_ : Unit) =>
    some (.go ())) fun (_ : Unit) =>
   some (.nx (w64 (s + 1)))
  else
   some (.dn (.go ()))
def zq87 (x : l8Search) (legs : List Leg) (stop : Int) (at_ : Int) (more : Int) : Option ((List Leg)) :=
 flb (iter (yjy x legs stop at_ more) (0 : Int)) fun (_ : Unit) =>
 some ([] : List Leg)
def zq83 (t : Timetable) (change : Int) (from_ : Int) (to_ : Int) (at_ : Int) (arrive : Int) (legs : Int) : Option ((List Leg)) :=
 (zq87 (⟨t, change, to_, arrive⟩ : l8Search) ([] : List Leg) from_ at_ legs).bind fun r =>
 some r
def ygn (t : Timetable) (change : Int) (from_ : Int) (to_ : Int) (at_ : Int) (e : Int) : Int -> Option (Lp (Int) (Fl ((List Leg)) (Unit)))
 | v =>
  if (decide (v <= 4)) = true then
   (zq80 t change from_ at_ v).bind fun r1 =>
   (idx r1 to_).bind fun e1 =>
   if (e1 == e) = true then
    (zq83 t change from_ to_ at_ e v).bind fun r2 =>
    some (.dn (.ret r2))
   else
    some (.nx (w64 (v + 1)))
  else
   some (.dn (.go ()))
def zq82 (t : Timetable) (change : Int) (from_ : Int) (to_ : Int) (at_ : Int) : Option ((List Leg)) :=
 (zq80 t change from_ at_ 4).bind fun r =>
 (idx r to_).bind fun e =>
 if (decide (e < 0)) = true then
  some ([] : List Leg)
 else
  flb (iter (ygn t change from_ to_ at_ e) (1 : Int)) fun (_ : Unit) =>
  some ([] : List Leg)
def zq39 (t : Timetable) (change : Int) (from_ : Int) (to_ : Int) (at_ : Int) : Option ((List Leg) × Bool) :=
 (zq86 t change from_ to_ at_).bind fun r =>
 if (!r) = true then
  some (([] : List Leg), false)
 else
  (zq82 t change from_ to_ at_).bind fun r1 =>
  some (r1, (decide (0 < (r1.length : Int))))
def yfl (a : List Leg) (b : List Leg) : Int -> Option (Lp (Int) (Fl (Bool) (Unit)))
 | v =>
  if (decide (v < (a.length : Int))) = true then
   (idx a v).bind fun e2 =>
   (idx b v).bind fun e3 =>
   if (!((e2.Trip == e3.Trip) && ((e2.From == e3.From) && ((e2.To == e3.To) && ((e2.Depart == e3.Depart) && ((e2.Arrive == e3.Arrive) && true)))))) = true then
    some (.dn (.ret false))
   else
    some (.nx (w64 (v + 1)))
  else
   some (.dn (.go ()))
def yja (a : List Leg) (b : List Leg) : Option (Bool) :=
 if ((a.length : Int) != (b.length : Int)) = true then
  some false
 else
  flb (iter (yfl a b) (0 : Int)) fun (_ : Unit) =>
  some true
def yg6 (r3 : (List Int)) : Int × (List Int) -> Option (Lp (Int × (List Int)) ((List Int)))
 | (v, v1) =>
  if (decide (v < (r3.length : Int))) = true then
   ((idx v1 v).bind fun e =>
   if (e == 1073741824) = true then
    (idx v1 v).bind fun e1 =>
    some (v1.set v.toNat (-1))
   else
    some v1).bind fun (v2 : List Int) =>
   some (.nx ((w64 (v + 1)), v2))
  else
   some (.dn v1)
def zq14 (t : Timetable) (change : Int) (from_ : Int) (at_ : Int) : Option ((List Int)) :=
 (zq29 t from_ at_).bind fun r2 =>
 (zq12 t change r2 4).bind fun r3 =>
 (iter (yg6 r3) ((0 : Int), r3)).bind fun (v3 : List Int) =>
 (idx v3 from_).bind fun e2 =>
 some (v3.set from_.toNat at_)
def zq2 (t : Timetable) (change : Int) (from_ : Int) (at_ : Int) : Option ((List Int) × Bool) :=
 (zq20 t change from_ at_).bind fun r =>
 if (!r) = true then
  some (([] : List Int), false)
 else
  (zq14 t change from_ at_).bind fun r1 =>
  some (r1, true)
def zq34 (x : Trip) (c1 : Int) : Option (Bool) :=
 some (x.Id == c1)
def yeo (s : List Trip) (f : Trip -> Option (Bool)) : Int -> Option (Lp (Int) (Fl (Int) (Unit)))
 | v =>
  if (decide (v < (s.length : Int))) = true then
   (idx s v).bind fun e =>
   (f e).bind fun r =>
   if r = true then
    some (.dn (.ret v))
   else
    some (.nx (w64 (v + 1)))
  else
   some (.dn (.go ()))
def zq94 (s : List Trip) (f : Trip -> Option (Bool)) : Option (Int) :=
 flb (iter (yeo s f) (0 : Int)) fun (_ : Unit) =>
 some (-1)
def zq95 (s : List Trip) (c1 : Int) : Option (Int) :=
 zq94 s (fun (z0 : Trip) => zq34 z0 c1)
def zq33 (t : Timetable) (id : Int) : Option (Int) :=
 (zq95 t.Trips id).bind fun r =>
 some r
def zq22 (b : Leg) (c1 : Leg) : Option (Bool) :=
 some (b.Trip == c1.Trip)
def yep (s : List Leg) (f : Leg -> Option (Bool)) : Int -> Option (Lp (Int) (Fl (Int) (Unit)))
 | v =>
  if (decide (v < (s.length : Int))) = true then
   (idx s v).bind fun e =>
   (f e).bind fun r =>
   if r = true then
    some (.dn (.ret v))
   else
    some (.nx (w64 (v + 1)))
  else
   some (.dn (.go ()))
def zq92 (s : List Leg) (f : Leg -> Option (Bool)) : Option (Int) :=
 flb (iter (yep s f) (0 : Int)) fun (_ : Unit) =>
 some (-1)
def zq93 (s : List Leg) (c1 : Leg) : Option (Int) :=
 zq92 s (fun (z0 : Leg) => zq22 z0 c1)
def zq90 (s : List Leg) (f : Leg -> Option (Bool)) : Option (Bool) :=
 (zq92 s f).bind fun r =>
 some (decide (0 <= r))
def zq91 (s : List Leg) (c1 : Leg) : Option (Bool) :=
 zq90 s (fun (z0 : Leg) => zq22 z0 c1)
def yds (t : Timetable) (change : Int) (legs : List Leg) : Int -> Option (Lp (Int) (Fl (Bool) (Unit)))
 | v =>
  if (decide (v < (legs.length : Int))) = true then
   flb ((idx legs v).bind fun e =>
   (zq33 t e.Trip).bind fun r1 =>
   if (decide (r1 < 0)) = true then
    some (.ret (.dn (.ret false)))
   else
    (idx t.Trips r1).bind fun e4 =>
    (zq16 t e4 e.From e.To).bind fun r5 =>
    (if (!r5.2) = true then some true else some (!((r5.1.Trip == e.Trip) && ((r5.1.From == e.From) && ((r5.1.To == e.To) && ((r5.1.Depart == e.Depart) && ((r5.1.Arrive == e.Arrive) && true))))))).bind fun (v1 : Bool) =>
    if v1 = true then
     some (.ret (.dn (.ret false)))
    else
     if (v == 0) = true then
      some (.go ())
     else
      (idx legs (w64 (v - 1))).bind fun e9 =>
      (if (e.From != e9.To) = true then some true else (idx legs (w64 (v - 1))).bind fun e10 =>
      some (decide (e.Depart < (w64 (e10.Arrive + change))))).bind fun (v2 : Bool) =>
      if v2 = true then
       some (.ret (.dn (.ret false)))
      else
       (chk ((0 : Int) <= 0 /\ (0 : Int) <= v /\ v <= (legs.length : Int))).bind fun u =>
       (zq91 ((legs.take v.toNat).drop (0 : Int).toNat) e).bind fun r10 =>
       if r10 = true then
        some (.ret (.dn (.ret false)))
       else
        some (.go ())) fun (_ : Unit) =>
   some (.nx (w64 (v + 1)))
  else
   some (.dn (.go ()))
def zq21 (t : Timetable) (change : Int) (legs : List Leg) : Option (Bool) :=
 (zq35 (legs.length : Int) 1 4).bind fun r =>
 if (!r) = true then
  some false
 else
  flb (iter (yds t change legs) (0 : Int)) fun (_ : Unit) =>
  some true
def zq4 (t : Timetable) (change : Int) (legs : List Leg) : Option (Bool) :=
 (zq7 t).bind fun r =>
 (if r = true then (zq19 change).bind fun r1 =>
 if r1 = true then (zq21 t change legs).bind fun r2 =>
 some r2 else some false else some false).bind fun (v : Bool) =>
 some v
def zq37 (x : IK .u64) : Option (Int) :=
 (if (decide (4294967296 <= x.v)) = true then
  (chk ((0 : Int) <= 32)).bind fun u =>
  some ((x.v.fdiv (2 ^ (min (32 : Int).toNat (IntKind.u64).bits))), (32 : Int))
 else
  some (x.v, (0 : Int))).bind fun ((x1, v) : Int × Int) =>
 (if (decide (65536 <= x1)) = true then
  (chk ((0 : Int) <= 16)).bind fun u1 =>
  some ((x1.fdiv (2 ^ (min (16 : Int).toNat (IntKind.u64).bits))), (w64 (v + 16)))
 else
  some (x1, v)).bind fun ((x2, v1) : Int × Int) =>
 (if (decide (256 <= x2)) = true then
  (chk ((0 : Int) <= 8)).bind fun u2 =>
  some ((x2.fdiv (2 ^ (min (8 : Int).toNat (IntKind.u64).bits))), (w64 (v1 + 8)))
 else
  some (x2, v1)).bind fun ((x3, v2) : Int × Int) =>
 (chk ((0 : Int) <= (IntKind.u8.wrap (x3)) /\ (IntKind.u8.wrap (x3)) < ((str [0, 1, 2, 2, 3, 3, 3, 3, 4, 4, 4, 4, 4, 4, 4, 4, 5, 5, 5, 5, 5, 5, 5, 5, 5, 5, 5, 5, 5, 5, 5, 5, 6, 6, 6, 6, 6, 6, 6, 6, 6, 6, 6, 6, 6, 6, 6, 6, 6, 6, 6, 6, 6, 6, 6, 6, 6, 6, 6, 6, 6, 6, 6, 6, 7, 7, 7, 7, 7, 7, 7, 7, 7, 7, 7, 7, 7, 7, 7, 7, 7, 7, 7, 7, 7, 7, 7, 7, 7, 7, 7, 7, 7, 7, 7, 7, 7, 7, 7, 7, 7, 7, 7, 7, 7, 7, 7, 7, 7, 7, 7, 7, 7, 7, 7, 7, 7, 7, 7, 7, 7, 7, 7, 7, 7, 7, 7, 7, 8, 8, 8, 8, 8, 8, 8, 8, 8, 8, 8, 8, 8, 8, 8, 8, 8, 8, 8, 8, 8, 8, 8, 8, 8, 8, 8, 8, 8, 8, 8, 8, 8, 8, 8, 8, 8, 8, 8, 8, 8, 8, 8, 8, 8, 8, 8, 8, 8, 8, 8, 8, 8, 8, 8, 8, 8, 8, 8, 8, 8, 8, 8, 8, 8, 8, 8, 8, 8, 8, 8, 8, 8, 8, 8, 8, 8, 8, 8, 8, 8, 8, 8, 8, 8, 8, 8, 8, 8, 8, 8, 8, 8, 8, 8, 8, 8, 8, 8, 8, 8, 8, 8, 8, 8, 8, 8, 8, 8, 8, 8, 8, 8, 8, 8, 8, 8, 8, 8, 8, 8, 8, 8, 8, 8, 8, 8, 8]).size : Int))).bind fun u3 =>
 some (w64 (v2 + (w64 ((((str [0, 1, 2, 2, 3, 3, 3, 3, 4, 4, 4, 4, 4, 4, 4, 4, 5, 5, 5, 5, 5, 5, 5, 5, 5, 5, 5, 5, 5, 5, 5, 5, 6, 6, 6, 6, 6, 6, 6, 6, 6, 6, 6, 6, 6, 6, 6, 6, 6, 6, 6, 6, 6, 6, 6, 6, 6, 6, 6, 6, 6, 6, 6, 6, 7, 7, 7, 7, 7, 7, 7, 7, 7, 7, 7, 7, 7, 7, 7, 7, 7, 7, 7, 7, 7, 7, 7, 7, 7, 7, 7, 7, 7, 7, 7, 7, 7, 7, 7, 7, 7, 7, 7, 7, 7, 7, 7, 7, 7, 7, 7, 7, 7, 7, 7, 7, 7, 7, 7, 7, 7, 7, 7, 7, 7, 7, 7, 7, 8, 8, 8, 8, 8, 8, 8, 8, 8, 8, 8, 8, 8, 8, 8, 8, 8, 8, 8, 8, 8, 8, 8, 8, 8, 8, 8, 8, 8, 8, 8, 8, 8, 8, 8, 8, 8, 8, 8, 8, 8, 8, 8, 8, 8, 8, 8, 8, 8, 8, 8, 8, 8, 8, 8, 8, 8, 8, 8, 8, 8, 8, 8, 8, 8, 8, 8, 8, 8, 8, 8, 8, 8, 8, 8, 8, 8, 8, 8, 8, 8, 8, 8, 8, 8, 8, 8, 8, 8, 8, 8, 8, 8, 8, 8, 8, 8, 8, 8, 8, 8, 8, 8, 8, 8, 8, 8, 8, 8, 8, 8, 8, 8, 8, 8, 8, 8, 8, 8, 8, 8, 8, 8, 8, 8, 8, 8, 8]).data.toList.getD (IntKind.u8.wrap (x3)).toNat 0).toNat : Int)))))
def zq36 (x : IK .u64) : Option (Int) :=
 (zq37 x).bind fun r =>
 some r
def zq1 (x : Int) : Option (Bool) :=
 some (x != x)
def zq0 (x : Int) (y_ : Int) : Option (Bool) :=
 (zq1 x).bind fun r =>
 (if r = true then (zq1 y_).bind fun r1 =>
 if (!r1) = true then some true else some (decide (x < y_)) else some (decide (x < y_))).bind fun (v : Bool) =>
 some v
def yde (a : Int) : Int × (List Int) -> Option (Lp (Int × (List Int)) ((List Int)))
 | (v1, data2) =>
  (if (decide (a < v1)) = true then (idx data2 v1).bind fun e2 =>
  (idx data2 (w64 (v1 - 1))).bind fun e3 =>
  (zq0 e2 e3).bind fun r1 =>
  some r1 else some false).bind fun (v2 : Bool) =>
  if v2 = true then
   (idx data2 (w64 (v1 - 1))).bind fun e8 =>
   (idx data2 v1).bind fun e9 =>
   (idx data2 v1).bind fun e10 =>
   (idx (data2.set v1.toNat e8) (w64 (v1 - 1))).bind fun e11 =>
   some (.nx ((w64 (v1 - 1)), ((data2.set v1.toNat e8).set (w64 (v1 - 1)).toNat e9)))
  else
   some (.dn data2)
def ydd (a : Int) (b : Int) : Int × (List Int) -> Option (Lp (Int × (List Int)) ((List Int)))
 | (v, data1) =>
  if (decide (v < b)) = true then
   (iter (yde a) (v, data1)).bind fun (data3 : List Int) =>
   some (.nx ((w64 (v + 1)), data3))
  else
   some (.dn data1)
def yjg (data : List Int) (a : Int) (b : Int) : Option ((List Int)) :=
 iter (ydd a b) ((w64 (a + 1)), data)
def ycy (hi : Int) (first : Int) : Int × (List Int) -> Option (Lp (Int × (List Int)) ((List Int)))
 | (v, data1) =>
  if (decide (hi <= (w64 ((w64 (2 * v)) + 1)))) = true then
   some (.dn data1)
  else
   ((if (decide ((w64 ((w64 ((w64 (2 * v)) + 1)) + 1)) < hi)) = true then (idx data1 (w64 (first + (w64 ((w64 (2 * v)) + 1))))).bind fun e3 =>
   (idx data1 (w64 ((w64 (first + (w64 ((w64 (2 * v)) + 1)))) + 1))).bind fun e4 =>
   (zq0 e3 e4).bind fun r2 =>
   some r2 else some false).bind fun (v2 : Bool) =>
   if v2 = true then
    some (w64 ((w64 ((w64 (2 * v)) + 1)) + 1))
   else
    some (w64 ((w64 (2 * v)) + 1))).bind fun (v1 : Int) =>
   (idx data1 (w64 (first + v))).bind fun e7 =>
   (idx data1 (w64 (first + v1))).bind fun e8 =>
   (zq0 e7 e8).bind fun r4 =>
   if (!r4) = true then
    some (.dn data1)
   else
    (idx data1 (w64 (first + v1))).bind fun e14 =>
    (idx data1 (w64 (first + v))).bind fun e15 =>
    (idx data1 (w64 (first + v))).bind fun e16 =>
    (idx (data1.set (w64 (first + v)).toNat e14) (w64 (first + v1))).bind fun e17 =>
    some (.nx (v1, ((data1.set (w64 (first + v)).toNat e14).set (w64 (first + v1)).toNat e15)))
def yhf (data : List Int) (lo : Int) (hi : Int) (first : Int) : Option ((List Int)) :=
 iter (ycy hi first) (lo, data)
def ydg (a : Int) (b : Int) : Int × (List Int) -> Option (Lp (Int × (List Int)) ((List Int)))
 | (v, data1) =>
  if (decide (0 <= v)) = true then
   (yhf data1 v (w64 (b - a)) a).bind fun r =>
   some (.nx ((w64 (v - 1)), r))
  else
   some (.dn data1)
def ydf (a : Int) : Int × (List Int) -> Option (Lp (Int × (List Int)) ((List Int)))
 | (v1, data3) =>
  if (decide (0 <= v1)) = true then
   (idx data3 (w64 (a + v1))).bind fun e4 =>
   (idx data3 a).bind fun e5 =>
   (idx data3 a).bind fun e6 =>
   (idx (data3.set a.toNat e4) (w64 (a + v1))).bind fun e7 =>
   (yhf ((data3.set a.toNat e4).set (w64 (a + v1)).toNat e5) 0 v1 a).bind fun r1 =>
   some (.nx ((w64 (v1 - 1)), r1))
  else
   some (.dn data3)
def yjh (data : List Int) (a : Int) (b : Int) : Option ((List Int)) :=
 (chk ((2 : Int) ≠ 0)).bind fun u =>
 (iter (ydg a b) ((w64 ((w64 ((w64 (b - a)) - 1)).tdiv 2)), data)).bind fun (data2 : List Int) =>
 iter (ydf a) ((w64 ((w64 (b - a)) - 1)), data2)
def yf4 (data : List Int) (a : Int) (b : Int) (swaps : Int) : Option (Int × Int × Int) :=
 (idx data b).bind fun e2 =>
 (idx data a).bind fun e3 =>
 (zq0 e2 e3).bind fun r1 =>
 if r1 = true then
  some (b, a, (w64 (swaps + 1)))
 else
  some (a, b, swaps)
def yhm (data : List Int) (a : Int) (b : Int) (c : Int) (swaps : Int) : Option (Int × Int) :=
 (yf4 data a b swaps).bind fun r =>
 (yf4 data r.2.1 c r.2.2).bind fun r1 =>
 (yf4 data r.1 r1.1 r1.2.2).bind fun r2 =>
 some (r2.2.1, r2.2.2)
def yf5 (data : List Int) (a : Int) (swaps : Int) : Option (Int × Int) :=
 (yhm data (w64 (a - 1)) a (w64 (a + 1)) swaps).bind fun r =>
 some (r.1, r.2)
def yji (data : List Int) (a : Int) (b : Int) : Option (Int × Int) :=
 (chk ((4 : Int) ≠ 0)).bind fun u =>
 (chk ((4 : Int) ≠ 0)).bind fun u1 =>
 (chk ((4 : Int) ≠ 0)).bind fun u2 =>
 (if (decide (8 <= (w64 (b - a)))) = true then
  (if (decide (50 <= (w64 (b - a)))) = true then
   (yf5 data (w64 (a + (w64 ((w64 ((w64 (b - a)).tdiv 4)) * 1)))) 0).bind fun r =>
   (yf5 data (w64 (a + (w64 ((w64 ((w64 (b - a)).tdiv 4)) * 2)))) r.2).bind fun r1 =>
   (yf5 data (w64 (a + (w64 ((w64 ((w64 (b - a)).tdiv 4)) * 3)))) r1.2).bind fun r2 =>
   some (r.1, r1.1, r2.1, r2.2)
  else
   some ((w64 (a + (w64 ((w64 ((w64 (b - a)).tdiv 4)) * 1)))), (w64 (a + (w64 ((w64 ((w64 (b - a)).tdiv 4)) * 2)))), (w64 (a + (w64 ((w64 ((w64 (b - a)).tdiv 4)) * 3)))), (0 : Int))).bind fun ((v2, v3, v4, v5) : Int × Int × Int × Int) =>
  (yhm data v2 v3 v4 v5).bind fun r3 =>
  some (r3.1, r3.2)
 else
  some ((w64 (a + (w64 ((w64 ((w64 (b - a)).tdiv 4)) * 2)))), (0 : Int))).bind fun ((v, v1) : Int × Int) =>
 if (v1 == 0) = true then
  some (v, 1)
 else
  if (v1 == 12) = true then
   some (v, 2)
  else
   some (v, 0)
def ycz : Int × Int × (List Int) -> Option (Lp (Int × Int × (List Int)) ((List Int)))
 | (v, v1, data1) =>
  if (decide (v < v1)) = true then
   (idx data1 v1).bind fun e4 =>
   (idx data1 v).bind fun e5 =>
   (idx data1 v).bind fun e6 =>
   (idx (data1.set v.toNat e4) v1).bind fun e7 =>
   some (.nx ((w64 (v + 1)), (w64 (v1 - 1)), ((data1.set v.toNat e4).set v1.toNat e5)))
  else
   some (.dn data1)
def yjc (data : List Int) (a : Int) (b : Int) : Option ((List Int)) :=
 iter (ycz) (a, (w64 (b - 1)), data)
def ydc (b : Int) (data1 : List Int) : Int -> Option (Lp (Int) (Int))
 | j2 =>
  (if (decide (j2 < b)) = true then (idx data1 j2).bind fun e2 =>
  (idx data1 (w64 (j2 - 1))).bind fun e3 =>
  (zq0 e2 e3).bind fun r1 =>
  some (!r1) else some false).bind fun (v1 : Bool) =>
  if v1 = true then
   some (.nx (w64 (j2 + 1)))
  else
   some (.dn j2)
def ydb : Int × (List Int) -> Option (Lp (Int × (List Int)) ((List Int)))
 | (v2, data4) =>
  if (decide (1 <= v2)) = true then
   (idx data4 v2).bind fun e18 =>
   (idx data4 (w64 (v2 - 1))).bind fun e19 =>
   (zq0 e18 e19).bind fun r7 =>
   if (!r7) = true then
    some (.dn data4)
   else
    (idx data4 (w64 (v2 - 1))).bind fun e24 =>
    (idx data4 v2).bind fun e25 =>
    (idx data4 v2).bind fun e26 =>
    (idx (data4.set v2.toNat e24) (w64 (v2 - 1))).bind fun e27 =>
    some (.nx ((w64 (v2 - 1)), ((data4.set v2.toNat e24).set (w64 (v2 - 1)).toNat e25)))
  else
   some (.dn data4)
def yda (b : Int) : Int × (List Int) -> Option (Lp (Int × (List Int)) ((List Int)))
 | (v3, data6) =>
  if (decide (v3 < b)) = true then
   (idx data6 v3).bind fun e30 =>
   (idx data6 (w64 (v3 - 1))).bind fun e31 =>
   (zq0 e30 e31).bind fun r9 =>
   if (!r9) = true then
    some (.dn data6)
   else
    (idx data6 (w64 (v3 - 1))).bind fun e36 =>
    (idx data6 v3).bind fun e37 =>
    (idx data6 v3).bind fun e38 =>
    (idx (data6.set v3.toNat e36) (w64 (v3 - 1))).bind fun e39 =>
    some (.nx ((w64 (v3 + 1)), ((data6.set v3.toNat e36).set (w64 (v3 - 1)).toNat e37)))
  else
   some (.dn data6)
def yc9 (a : Int) (b : Int) : Int × Int × (List Int) -> Option (Lp (Int × Int × (List Int)) (Fl (Bool × (List Int)) ((List Int))))
 | (j, v, data1) =>
  if (decide (v < 5)) = true then
   flb ((iter (ydc b data1) j).bind fun (j3 : Int) =>
   if (j3 == b) = true then
    some (.ret (.dn (.ret (true, data1))))
   else
    if (decide ((w64 (b - a)) < 50)) = true then
     some (.ret (.dn (.ret (false, data1))))
    else
     (idx data1 (w64 (j3 - 1))).bind fun e12 =>
     (idx data1 j3).bind fun e13 =>
     (idx data1 j3).bind fun e14 =>
     (idx (data1.set j3.toNat e12) (w64 (j3 - 1))).bind fun e15 =>
     (if (decide (2 <= (w64 (j3 - a)))) = true then
      (iter (ydb) ((w64 (j3 - 1)), ((data1.set j3.toNat e12).set (w64 (j3 - 1)).toNat e13))).bind fun (data5 : List Int) =>
      some data5
     else
      some ((data1.set j3.toNat e12).set (w64 (j3 - 1)).toNat e13)).bind fun (data3 : List Int) =>
     if (decide (2 <= (w64 (b - j3)))) = true then
      (iter (yda b) ((w64 (j3 + 1)), data3)).bind fun (data7 : List Int) =>
      some (.go (j3, data7))
     else
      some (.go (j3, data3))) fun ((j1, data2) : Int × (List Int)) =>
   some (.nx (j1, (w64 (v + 1)), data2))
  else
   some (.dn (.go data1))
def yjf (data : List Int) (a : Int) (b : Int) : Option (Bool × (List Int)) :=
 flb (iter (yc9 a b) ((w64 (a + 1)), (0 : Int), data)) fun (data8 : List Int) =>
 some (false, data8)
def yc8 (a : Int) (v1 : Int) (data1 : List Int) : Int -> Option (Lp (Int) (Int))
 | v2 =>
  (if (decide (v2 <= v1)) = true then (idx data1 a).bind fun e10 =>
  (idx data1 v2).bind fun e11 =>
  (zq0 e10 e11).bind fun r1 =>
  some (!r1) else some false).bind fun (v3 : Bool) =>
  if v3 = true then
   some (.nx (w64 (v2 + 1)))
  else
   some (.dn v2)
def yc7 (a : Int) (data1 : List Int) (v4 : Int) : Int -> Option (Lp (Int) (Int))
 | v5 =>
  (if (decide (v4 <= v5)) = true then (idx data1 a).bind fun e14 =>
  (idx data1 v5).bind fun e15 =>
  (zq0 e14 e15).bind fun r3 =>
  some r3 else some false).bind fun (v6 : Bool) =>
  if v6 = true then
   some (.nx (w64 (v5 - 1)))
  else
   some (.dn v5)
def yc6 (a : Int) : Int × Int × (List Int) -> Option (Lp (Int × Int × (List Int)) (Int × (List Int)))
 | (v, v1, data1) =>
  (iter (yc8 a v1 data1) v).bind fun (v4 : Int) =>
  (iter (yc7 a data1 v4) v1).bind fun (v7 : Int) =>
  if (decide (v7 < v4)) = true then
   some (.dn (v4, data1))
  else
   (idx data1 v7).bind fun e20 =>
   (idx data1 v4).bind fun e21 =>
   (idx data1 v4).bind fun e22 =>
   (idx (data1.set v4.toNat e20) v7).bind fun e23 =>
   some (.nx ((w64 (v4 + 1)), (w64 (v7 - 1)), ((data1.set v4.toNat e20).set v7.toNat e21)))
def yje (data : List Int) (a : Int) (b : Int) (pivot : Int) : Option (Int × (List Int)) :=
 (idx data pivot).bind fun e4 =>
 (idx data a).bind fun e5 =>
 (idx data a).bind fun e6 =>
 (idx (data.set a.toNat e4) pivot).bind fun e7 =>
 (iter (yc6 a) ((w64 (a + 1)), (w64 (b - 1)), ((data.set a.toNat e4).set pivot.toNat e5))).bind fun ((v8, data2) : Int × (List Int)) =>
 some (v8, data2)
def yc5 (data : List Int) (a : Int) (b : Int) (pivot : Int) (e4 : Int) (e5 : Int) : Int -> Option (Lp (Int) (Int))
 | v =>
  (if (decide (v <= (w64 (b - 1)))) = true then (idx ((data.set a.toNat e4).set pivot.toNat e5) v).bind fun e10 =>
  (idx ((data.set a.toNat e4).set pivot.toNat e5) a).bind fun e11 =>
  (zq0 e10 e11).bind fun r1 =>
  some r1 else some false).bind fun (v1 : Bool) =>
  if v1 = true then
   some (.nx (w64 (v + 1)))
  else
   some (.dn v)
def yc4 (data : List Int) (a : Int) (pivot : Int) (e4 : Int) (e5 : Int) (v2 : Int) : Int -> Option (Lp (Int) (Int))
 | v3 =>
  (if (decide (v2 <= v3)) = true then (idx ((data.set a.toNat e4).set pivot.toNat e5) v3).bind fun e14 =>
  (idx ((data.set a.toNat e4).set pivot.toNat e5) a).bind fun e15 =>
  (zq0 e14 e15).bind fun r3 =>
  some (!r3) else some false).bind fun (v4 : Bool) =>
  if v4 = true then
   some (.nx (w64 (v3 - 1)))
  else
   some (.dn v3)
def yc3 (a : Int) (v7 : Int) (data1 : List Int) : Int -> Option (Lp (Int) (Int))
 | v8 =>
  (if (decide (v8 <= v7)) = true then (idx data1 v8).bind fun e34 =>
  (idx data1 a).bind fun e35 =>
  (zq0 e34 e35).bind fun r5 =>
  some r5 else some false).bind fun (v9 : Bool) =>
  if v9 = true then
   some (.nx (w64 (v8 + 1)))
  else
   some (.dn v8)
def yc2 (a : Int) (data1 : List Int) (v10 : Int) : Int -> Option (Lp (Int) (Int))
 | v11 =>
  (if (decide (v10 <= v11)) = true then (idx data1 v11).bind fun e38 =>
  (idx data1 a).bind fun e39 =>
  (zq0 e38 e39).bind fun r7 =>
  some (!r7) else some false).bind fun (v12 : Bool) =>
  if v12 = true then
   some (.nx (w64 (v11 - 1)))
  else
   some (.dn v11)
def yc1 (a : Int) : Int × Int × (List Int) -> Option (Lp (Int × Int × (List Int)) (Int × (List Int)))
 | (v6, v7, data1) =>
  (iter (yc3 a v7 data1) v6).bind fun (v10 : Int) =>
  (iter (yc2 a data1 v10) v7).bind fun (v13 : Int) =>
  if (decide (v13 < v10)) = true then
   some (.dn (v13, data1))
  else
   (idx data1 v13).bind fun e44 =>
   (idx data1 v10).bind fun e45 =>
   (idx data1 v10).bind fun e46 =>
   (idx (data1.set v10.toNat e44) v13).bind fun e47 =>
   some (.nx ((w64 (v10 + 1)), (w64 (v13 - 1)), ((data1.set v10.toNat e44).set v13.toNat e45)))
def yjd (data : List Int) (a : Int) (b : Int) (pivot : Int) : Option (Int × Bool × (List Int)) :=
 (idx data pivot).bind fun e4 =>
 (idx data a).bind fun e5 =>
 (idx data a).bind fun e6 =>
 (idx (data.set a.toNat e4) pivot).bind fun e7 =>
 (iter (yc5 data a b pivot e4 e5) (w64 (a + 1))).bind fun (v2 : Int) =>
 (iter (yc4 data a pivot e4 e5 v2) (w64 (b - 1))).bind fun (v5 : Int) =>
 if (decide (v5 < v2)) = true then
  (idx ((data.set a.toNat e4).set pivot.toNat e5) a).bind fun e20 =>
  (idx ((data.set a.toNat e4).set pivot.toNat e5) v5).bind fun e21 =>
  (idx ((data.set a.toNat e4).set pivot.toNat e5) v5).bind fun e22 =>
  (idx (((data.set a.toNat e4).set pivot.toNat e5).set v5.toNat e20) a).bind fun e23 =>
  some (v5, true, ((((data.set a.toNat e4).set pivot.toNat e5).set v5.toNat e20).set a.toNat e21))
 else
  (idx ((data.set a.toNat e4).set pivot.toNat e5) v5).bind fun e28 =>
  (idx ((data.set a.toNat e4).set pivot.toNat e5) v2).bind fun e29 =>
  (idx ((data.set a.toNat e4).set pivot.toNat e5) v2).bind fun e30 =>
  (idx (((data.set a.toNat e4).set pivot.toNat e5).set v2.toNat e28) v5).bind fun e31 =>
  (iter (yc1 a) ((w64 (v2 + 1)), (w64 (v5 - 1)), ((((data.set a.toNat e4).set pivot.toNat e5).set v2.toNat e28).set v5.toNat e29))).bind fun ((v14, data2) : Int × (List Int)) =>
  (idx data2 a).bind fun e52 =>
  (idx data2 v14).bind fun e53 =>
  (idx data2 v14).bind fun e54 =>
  (idx (data2.set v14.toNat e52) a).bind fun e55 =>
  some (v14, false, ((data2.set v14.toNat e52).set a.toNat e53))
def ycu (length : Int) : Option ((IK .u64)) :=
 (zq36 (⟨(IntKind.u64.wrap (length))⟩ : IK .u64)).bind fun r =>
 (chk ((0 : Int) <= r)).bind fun u =>
 some (⟨(IntKind.u64.wrap (1 * 2 ^ (min (r : Int).toNat (IntKind.u64).bits)))⟩ : IK .u64)
def ycj (r : IK .u64) : Option ((IK .u64) × (IK .u64)) :=
 (chk ((0 : Int) <= 13)).bind fun u1 =>
 (chk ((0 : Int) <= 7)).bind fun u3 =>
 (chk ((0 : Int) <= 17)).bind fun u5 =>
 some ((⟨(IntKind.u64.wrap ((BitVec.ofInt (IntKind.u64).bits (IntKind.u64.wrap ((BitVec.ofInt (IntKind.u64).bits (IntKind.u64.wrap ((BitVec.ofInt (IntKind.u64).bits r.v ^^^ BitVec.ofInt (IntKind.u64).bits (IntKind.u64.wrap (r.v * 2 ^ (min (13 : Int).toNat (IntKind.u64).bits)))).toNat : Int)) ^^^ BitVec.ofInt (IntKind.u64).bits ((IntKind.u64.wrap ((BitVec.ofInt (IntKind.u64).bits r.v ^^^ BitVec.ofInt (IntKind.u64).bits (IntKind.u64.wrap (r.v * 2 ^ (min (13 : Int).toNat (IntKind.u64).bits)))).toNat : Int)).fdiv (2 ^ (min (7 : Int).toNat (IntKind.u64).bits)))).toNat : Int)) ^^^ BitVec.ofInt (IntKind.u64).bits (IntKind.u64.wrap ((IntKind.u64.wrap ((BitVec.ofInt (IntKind.u64).bits (IntKind.u64.wrap ((BitVec.ofInt (IntKind.u64).bits r.v ^^^ BitVec.ofInt (IntKind.u64).bits (IntKind.u64.wrap (r.v * 2 ^ (min (13 : Int).toNat (IntKind.u64).bits)))).toNat : Int)) ^^^ BitVec.ofInt (IntKind.u64).bits ((IntKind.u64.wrap ((BitVec.ofInt (IntKind.u64).bits r.v ^^^ BitVec.ofInt (IntKind.u64).bits (IntKind.u64.wrap (r.v * 2 ^ (min (13 : Int).toNat (IntKind.u64).bits)))).toNat : Int)).fdiv (2 ^ (min (7 : Int).toNat (IntKind.u64).bits)))).toNat : Int)) * 2 ^ (min (17 : Int).toNat (IntKind.u64).bits)))).toNat : Int))⟩ : IK .u64), (⟨(IntKind.u64.wrap ((BitVec.ofInt (IntKind.u64).bits (IntKind.u64.wrap ((BitVec.ofInt (IntKind.u64).bits (IntKind.u64.wrap ((BitVec.ofInt (IntKind.u64).bits r.v ^^^ BitVec.ofInt (IntKind.u64).bits (IntKind.u64.wrap (r.v * 2 ^ (min (13 : Int).toNat (IntKind.u64).bits)))).toNat : Int)) ^^^ BitVec.ofInt (IntKind.u64).bits ((IntKind.u64.wrap ((BitVec.ofInt (IntKind.u64).bits r.v ^^^ BitVec.ofInt (IntKind.u64).bits (IntKind.u64.wrap (r.v * 2 ^ (min (13 : Int).toNat (IntKind.u64).bits)))).toNat : Int)).fdiv (2 ^ (min (7 : Int).toNat (IntKind.u64).bits)))).toNat : Int)) ^^^ BitVec.ofInt (IntKind.u64).bits (IntKind.u64.wrap ((IntKind.u64.wrap ((BitVec.ofInt (IntKind.u64).bits (IntKind.u64.wrap ((BitVec.ofInt (IntKind.u64).bits r.v ^^^ BitVec.ofInt (IntKind.u64).bits (IntKind.u64.wrap (r.v * 2 ^ (min (13 : Int).toNat (IntKind.u64).bits)))).toNat : Int)) ^^^ BitVec.ofInt (IntKind.u64).bits ((IntKind.u64.wrap ((BitVec.ofInt (IntKind.u64).bits r.v ^^^ BitVec.ofInt (IntKind.u64).bits (IntKind.u64.wrap (r.v * 2 ^ (min (13 : Int).toNat (IntKind.u64).bits)))).toNat : Int)).fdiv (2 ^ (min (7 : Int).toNat (IntKind.u64).bits)))).toNat : Int)) * 2 ^ (min (17 : Int).toNat (IntKind.u64).bits)))).toNat : Int))⟩ : IK .u64))
def yel (a : Int) (b : Int) (r : (IK .u64)) : Int × (List Int) × Int -> Option (Lp (Int × (List Int) × Int) ((List Int)))
 | (v, data1, v1) =>
  (chk ((4 : Int) ≠ 0)).bind fun u1 =>
  if (decide (v <= (w64 ((w64 (a + (w64 ((w64 ((w64 (b - a)).tdiv 4)) * 2)))) + 1)))) = true then
   (ycj (⟨v1⟩ : IK .u64)).bind fun r1 =>
   (if (decide ((w64 (b - a)) <= (w64 ((IntKind.u64.wrap ((BitVec.ofInt (IntKind.u64).bits r1.1.v &&& BitVec.ofInt (IntKind.u64).bits (IntKind.u64.wrap (r.v - 1))).toNat : Int)))))) = true then
    some (w64 ((w64 ((IntKind.u64.wrap ((BitVec.ofInt (IntKind.u64).bits r1.1.v &&& BitVec.ofInt (IntKind.u64).bits (IntKind.u64.wrap (r.v - 1))).toNat : Int)))) - (w64 (b - a))))
   else
    some (w64 ((IntKind.u64.wrap ((BitVec.ofInt (IntKind.u64).bits r1.1.v &&& BitVec.ofInt (IntKind.u64).bits (IntKind.u64.wrap (r.v - 1))).toNat : Int))))).bind fun (v2 : Int) =>
   (idx data1 (w64 (a + v2))).bind fun e4 =>
   (idx data1 v).bind fun e5 =>
   (idx data1 v).bind fun e6 =>
   (idx (data1.set v.toNat e4) (w64 (a + v2))).bind fun e7 =>
   some (.nx ((w64 (v + 1)), ((data1.set v.toNat e4).set (w64 (a + v2)).toNat e5), r1.2.v))
  else
   some (.dn data1)
def zq99 (data : List Int) (a : Int) (b : Int) : Option ((List Int)) :=
 if (decide (8 <= (w64 (b - a)))) = true then
  (ycu (w64 (b - a))).bind fun r =>
  (chk ((4 : Int) ≠ 0)).bind fun u =>
  iter (yel a b r) ((w64 ((w64 (a + (w64 ((w64 ((w64 (b - a)).tdiv 4)) * 2)))) - 1)), data, (IntKind.u64.wrap ((w64 (b - a)))))
 else
  some data
def yc0 (rec_ : (List Int) -> Int -> Int -> Int -> Option ((List Int))) : Int × Int × Int × Bool × Bool × (List Int) -> Option (Lp (Int × Int × Int × Bool × Bool × (List Int)) ((List Int)))
 | (a1, b1, limit1, hint, mid, data1) =>
  if (decide ((w64 (b1 - a1)) <= 12)) = true then
   (yjg data1 a1 b1).bind fun r =>
   some (.dn r)
  else
   if (limit1 == 0) = true then
    (yjh data1 a1 b1).bind fun r2 =>
    some (.dn r2)
   else
    (if (!hint) = true then
     (zq99 data1 a1 b1).bind fun r4 =>
     some ((w64 (limit1 - 1)), r4)
    else
     some (limit1, data1)).bind fun ((limit2, data2) : Int × (List Int)) =>
    (yji data2 a1 b1).bind fun r5 =>
    (if (r5.2 == 2) = true then
     (yjc data2 a1 b1).bind fun r6 =>
     some ((w64 ((w64 (b1 - 1)) - (w64 (r5.1 - a1)))), (1 : Int), r6)
    else
     some (r5.1, r5.2, data2)).bind fun ((alreadyPartitioned, leftLen, data3) : Int × Int × (List Int)) =>
    flb ((if hint = true then if mid = true then some (leftLen == 1) else some false else some false).bind fun (v : Bool) =>
    if v = true then
     (yjf data3 a1 b1).bind fun r7 =>
     if r7.1 = true then
      some (.ret (.dn r7.2))
     else
      some (.go r7.2)
    else
     some (.go data3)) fun (data4 : List Int) =>
    (if (decide (0 < a1)) = true then (idx data4 (w64 (a1 - 1))).bind fun e6 =>
    (idx data4 alreadyPartitioned).bind fun e7 =>
    (zq0 e6 e7).bind fun r11 =>
    some (!r11) else some false).bind fun (v1 : Bool) =>
    if v1 = true then
     (yje data4 a1 b1 alreadyPartitioned).bind fun r12 =>
     some (.nx (r12.1, b1, limit2, hint, mid, r12.2))
    else
     (yjd data4 a1 b1 alreadyPartitioned).bind fun r13 =>
     (chk ((8 : Int) ≠ 0)).bind fun u =>
     if (decide ((w64 (r13.1 - a1)) < (w64 (b1 - r13.1)))) = true then
      (rec_ r13.2.2 a1 r13.1 limit2).bind fun r14 =>
      some (.nx ((w64 (r13.1 + 1)), b1, limit2, (decide ((w64 ((w64 (b1 - a1)).tdiv 8)) <= (w64 (r13.1 - a1)))), r13.2.1, r14))
     else
      (rec_ r13.2.2 (w64 (r13.1 + 1)) b1 limit2).bind fun r15 =>
      some (.nx (a1, r13.1, limit2, (decide ((w64 ((w64 (b1 - a1)).tdiv 8)) <= (w64 (b1 - r13.1)))), r13.2.1, r15))
def ybt (rec_ : (List Int) -> Int -> Int -> Int -> Option ((List Int))) (data : List Int) (a : Int) (b : Int) (limit : Int) : Option ((List Int)) :=
 iter (yc0 rec_) (a, b, limit, true, true, data)
def ydu : Nat -> (List Int) -> Int -> Int -> Int -> Option ((List Int))
 | 0 => fun _ _ _ _ => none
 | n + 1 => ybt (ydu n)
def ymj (data : List Int) (a : Int) (b : Int) (limit : Int) : Option ((List Int)) := ydu 4294967296 data a b limit
def zq98 (x : List Int) : Option ((List Int)) :=
 (zq36 (⟨(IntKind.u64.wrap ((x.length : Int)))⟩ : IK .u64)).bind fun r =>
 (ymj x 0 (x.length : Int) r).bind fun r1 =>
 some r1
def zq89 (s : List Int) : Option ((List Int)) :=
 comM s
def yg7 (t : Timetable) (stop : Int) : Int × (List Int) -> Option (Lp (Int × (List Int)) ((List Int)))
 | (v, x) =>
  if (decide (v < (t.Trips.length : Int))) = true then
   ((idx t.Trips v).bind fun e =>
   (zq28 t e).bind fun r2 =>
   (zq31 t e).bind fun r3 =>
   (zq96 r2.Stops stop).bind fun r4 =>
   (if (decide (0 <= r4)) = true then some (decide (r4 < (w64 ((r2.Stops.length : Int) - 1)))) else some false).bind fun (v1 : Bool) =>
   if v1 = true then
    (idx r3 r4).bind fun e1 =>
    (chk (x.length + ([e1] : List Int).length <= 4294967296)).bind fun u =>
    some (x ++ ([e1] : List Int))
   else
    some x).bind fun (x1 : List Int) =>
   some (.nx ((w64 (v + 1)), x1))
  else
   some (.dn x)
def zq13 (t : Timetable) (stop : Int) : Option ((List Int)) :=
 (iter (yg7 t stop) ((0 : Int), ([] : List Int))).bind fun (x2 : List Int) =>
 (zq98 x2).bind fun r5 =>
 (zq89 r5).bind fun r6 =>
 some r6
def zq8 (t : Timetable) (change : Int) (from_ : Int) (to_ : Int) (by_ : Int) : Option (Int × Bool) :=
 jsa (zq20 t change from_ by_) (zq25 t.Network to_) from_ to_ (zq13 t from_) (fun q => (zq29 t from_ q).bind fun r => (zq12 t change r 4).bind fun l => idx l to_) by_
def yjq (by_ : Int) (r2 : (List Int)) : Int × (List Int) -> Option (Lp (Int × (List Int)) ((List Int)))
 | (v1, v2) =>
  if (decide (v1 < (r2.length : Int))) = true then
   ((idx r2 v1).bind fun e =>
   (if (decide (0 <= e)) = true then some (decide (e <= by_)) else some false).bind fun (v4 : Bool) =>
   if v4 = true then
    (chk (v2.length + ([v1] : List Int).length <= 4294967296)).bind fun u =>
    some (v2 ++ ([v1] : List Int))
   else
    some v2).bind fun (v3 : List Int) =>
   some (.nx ((w64 (v1 + 1)), v3))
  else
   some (.dn v2)
def zq9 (t : Timetable) (change : Int) (from_ : Int) (at_ : Int) (by_ : Int) : Option ((List Int) × Bool) :=
 (zq20 t change from_ at_).bind fun r =>
 (if (!r) = true then some true else (zq6 by_).bind fun r1 =>
 some (!r1)).bind fun (v : Bool) =>
 if v = true then
  some (([] : List Int), false)
 else
  (zq14 t change from_ at_).bind fun r2 =>
  (iter (yjq by_ r2) ((0 : Int), ([] : List Int))).bind fun (v5 : List Int) =>
  some (v5, true)
def ycx (l : List Int) (x : Int) : Int -> Option (Lp (Int) (Fl (Bool) (Unit)))
 | v =>
  if (decide (v < (l.length : Int))) = true then
   (idx l v).bind fun e =>
   if (e == x) = true then
    some (.dn (.ret true))
   else
    some (.nx (w64 (v + 1)))
  else
   some (.dn (.go ()))
def yjb (l : List Int) (x : Int) : Option (Bool) :=
 flb (iter (ycx l x) (0 : Int)) fun (_ : Unit) =>
 some false
def ybf (code : List UInt8) : Option (Bool) :=
 (ylb code).bind fun r =>
 if r = true then
  some true
 else
  (zq38 code).bind fun r1 =>
  (zq3 r1.1 r1.2.1 r1.2.2.1 r1.2.2.2.1 r1.2.2.2.2).bind fun r2 =>
  (zq39 r1.1 r1.2.1 r1.2.2.1 r1.2.2.2.1 r1.2.2.2.2).bind fun r3 =>
  (if (!(r2.2 == r3.2)) = true then some true else (yja r2.1 r3.1).bind fun r4 =>
  some (!r4)).bind fun (v : Bool) =>
  if v = true then
   some false
  else
   if (!r2.2) = true then
    some ((r2.1.length : Int) == 0)
   else
    (zq2 r1.1 r1.2.1 r1.2.2.1 r1.2.2.2.2).bind fun r5 =>
    (if (!r5.2) = true then some true else if ((r5.1.length : Int) != (r1.1.Network.Stops.length : Int)) = true then some true else (zq4 r1.1 r1.2.1 r2.1).bind fun r6 =>
    if (!r6) = true then some true else some ((r2.1.length : Int) == 0)).bind fun (v1 : Bool) =>
    if v1 = true then
     some false
    else
     (idx r2.1 (w64 ((r2.1.length : Int) - 1))).bind fun e =>
     (zq8 r1.1 r1.2.1 r1.2.2.1 r1.2.2.2.1 e.Arrive).bind fun r7 =>
     (zq9 r1.1 r1.2.1 r1.2.2.1 r1.2.2.2.2 e.Arrive).bind fun r8 =>
     (idx r2.1 0).bind fun e1 =>
     (if (e1.From == r1.2.2.1) = true then (idx r2.1 (w64 ((r2.1.length : Int) - 1))).bind fun e2 =>
     if (e2.To == r1.2.2.2.1) = true then (idx r2.1 0).bind fun e3 =>
     if (decide (r1.2.2.2.2 <= e3.Depart)) = true then (idx r5.1 r1.2.2.2.1).bind fun e4 =>
     if (e4 == e.Arrive) = true then if r7.2 = true then (idx r2.1 0).bind fun e5 =>
     if (decide (e5.Depart <= r7.1)) = true then if r8.2 = true then (yjb r8.1 r1.2.2.2.1).bind fun r9 =>
     some r9 else some false else some false else some false else some false else some false else some false else some false).bind fun (t : Bool) =>
     some t
end
end Go.Proofs.YtdocbkbpjdjlpaaGreat
