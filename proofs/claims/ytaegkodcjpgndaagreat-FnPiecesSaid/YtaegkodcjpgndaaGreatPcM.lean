/- Models of the functions that the law reaches: plain Lean; none where the function would panic or not end. Made by program (dec.py). -/
import Derived.Test.YtaegkodcjpgndaaGreatAbCom
namespace Go.Proofs.YtaegkodcjpgndaaGreat
open Go Go.Ab
set_option maxRecDepth 100000
set_option maxHeartbeats 4000000
set_option linter.unusedVariables false
set_option linter.unusedSimpArgs false
noncomputable section
structure l1Cur where
 code_ : List UInt8
 at_ : Int
 seed_ : IK .u64
instance enc_l1Cur : Enc l1Cur := ⟨3, fun x => .agg [Enc.e x.code_, .sc (.int .i64 x.at_), .sc (.int .u64 x.seed_.v)], fun a b h => by
 simp only [D.agg.injEq, List.cons.injEq, and_true] at h
 obtain ⟨a1, a2, a3⟩ := a
 obtain ⟨b1, b2, b3⟩ := b
 obtain ⟨h1, h2, h3⟩ := h
 have q1 := Enc.inj (α := List UInt8) a1 b1 h1
 have q2 := Enc.inj (α := Int) a2 b2 h2
 have q3 := Enc.inj (α := IK .u64) a3 b3 h3
 subst q1; subst q2; subst q3; rfl⟩
structure Line where
 Name : ByteArray
 Stops : List Int
 Runs : List Int
instance enc_Line : Enc Line := ⟨3, fun x => .agg [.sc (.string x.Name), Enc.e x.Stops, Enc.e x.Runs], fun a b h => by
 simp only [D.agg.injEq, List.cons.injEq, and_true] at h
 obtain ⟨a1, a2, a3⟩ := a
 obtain ⟨b1, b2, b3⟩ := b
 obtain ⟨h1, h2, h3⟩ := h
 have q1 := Enc.inj (α := ByteArray) a1 b1 h1
 have q2 := Enc.inj (α := List Int) a2 b2 h2
 have q3 := Enc.inj (α := List Int) a3 b3 h3
 subst q1; subst q2; subst q3; rfl⟩
structure Network where
 Stops : List ByteArray
 Lines : List Line
instance enc_Network : Enc Network := ⟨2, fun x => .agg [Enc.e x.Stops, Enc.e x.Lines], fun a b h => by
 simp only [D.agg.injEq, List.cons.injEq, and_true] at h
 obtain ⟨a1, a2⟩ := a
 obtain ⟨b1, b2⟩ := b
 obtain ⟨h1, h2⟩ := h
 have q1 := Enc.inj (α := List ByteArray) a1 b1 h1
 have q2 := Enc.inj (α := List Line) a2 b2 h2
 subst q1; subst q2; rfl⟩
structure Trip where
 Id : Int
 Line : Int
 Start : Int
instance enc_Trip : Enc Trip := ⟨3, fun x => .agg [.sc (.int .i64 x.Id), .sc (.int .i64 x.Line), .sc (.int .i64 x.Start)], fun a b h => by
 simp only [D.agg.injEq, List.cons.injEq, and_true] at h
 obtain ⟨a1, a2, a3⟩ := a
 obtain ⟨b1, b2, b3⟩ := b
 obtain ⟨h1, h2, h3⟩ := h
 have q1 := Enc.inj (α := Int) a1 b1 h1
 have q2 := Enc.inj (α := Int) a2 b2 h2
 have q3 := Enc.inj (α := Int) a3 b3 h3
 subst q1; subst q2; subst q3; rfl⟩
structure Timetable where
 Network : Network
 Trips : List Trip
instance enc_Timetable : Enc Timetable := ⟨3, fun x => .agg [Enc.e x.Network.Stops, Enc.e x.Network.Lines, Enc.e x.Trips], fun a b h => by
 simp only [D.agg.injEq, List.cons.injEq, and_true] at h
 obtain ⟨⟨a1, a2⟩, a3⟩ := a
 obtain ⟨⟨b1, b2⟩, b3⟩ := b
 obtain ⟨h1, h2, h3⟩ := h
 have q1 := Enc.inj (α := List ByteArray) a1 b1 h1
 have q2 := Enc.inj (α := List Line) a2 b2 h2
 have q3 := Enc.inj (α := List Trip) a3 b3 h3
 subst q1; subst q2; subst q3; rfl⟩
structure Fleet where
 Dead : List (List Int)
 Turn : Int
instance enc_Fleet : Enc Fleet := ⟨2, fun x => .agg [Enc.e x.Dead, .sc (.int .i64 x.Turn)], fun a b h => by
 simp only [D.agg.injEq, List.cons.injEq, and_true] at h
 obtain ⟨a1, a2⟩ := a
 obtain ⟨b1, b2⟩ := b
 obtain ⟨h1, h2⟩ := h
 have q1 := Enc.inj (α := List (List Int)) a1 b1 h1
 have q2 := Enc.inj (α := Int) a2 b2 h2
 subst q1; subst q2; rfl⟩
structure l11Plan where
 t_ : Timetable
 f_ : Fleet
 known_ : List (List Int)
instance enc_l11Plan : Enc l11Plan := ⟨6, fun x => .agg [Enc.e x.t_.Network.Stops, Enc.e x.t_.Network.Lines, Enc.e x.t_.Trips, Enc.e x.f_.Dead, .sc (.int .i64 x.f_.Turn), Enc.e x.known_], fun a b h => by
 simp only [D.agg.injEq, List.cons.injEq, and_true] at h
 obtain ⟨⟨⟨a1, a2⟩, a3⟩, ⟨a4, a5⟩, a6⟩ := a
 obtain ⟨⟨⟨b1, b2⟩, b3⟩, ⟨b4, b5⟩, b6⟩ := b
 obtain ⟨h1, h2, h3, h4, h5, h6⟩ := h
 have q1 := Enc.inj (α := List ByteArray) a1 b1 h1
 have q2 := Enc.inj (α := List Line) a2 b2 h2
 have q3 := Enc.inj (α := List Trip) a3 b3 h3
 have q4 := Enc.inj (α := List (List Int)) a4 b4 h4
 have q5 := Enc.inj (α := Int) a5 b5 h5
 have q6 := Enc.inj (α := List (List Int)) a6 b6 h6
 subst q1; subst q2; subst q3; subst q4; subst q5; subst q6; rfl⟩
structure Rules where
 SignOn : Int
 SignOff : Int
 MaxDrive : Int
 MinBreak : Int
 PaidBreak : Int
 MaxLength : Int
instance enc_Rules : Enc Rules := ⟨6, fun x => .agg [.sc (.int .i64 x.SignOn), .sc (.int .i64 x.SignOff), .sc (.int .i64 x.MaxDrive), .sc (.int .i64 x.MinBreak), .sc (.int .i64 x.PaidBreak), .sc (.int .i64 x.MaxLength)], fun a b h => by
 simp only [D.agg.injEq, List.cons.injEq, and_true] at h
 obtain ⟨a1, a2, a3, a4, a5, a6⟩ := a
 obtain ⟨b1, b2, b3, b4, b5, b6⟩ := b
 obtain ⟨h1, h2, h3, h4, h5, h6⟩ := h
 have q1 := Enc.inj (α := Int) a1 b1 h1
 have q2 := Enc.inj (α := Int) a2 b2 h2
 have q3 := Enc.inj (α := Int) a3 b3 h3
 have q4 := Enc.inj (α := Int) a4 b4 h4
 have q5 := Enc.inj (α := Int) a5 b5 h5
 have q6 := Enc.inj (α := Int) a6 b6 h6
 subst q1; subst q2; subst q3; subst q4; subst q5; subst q6; rfl⟩
structure Span where
 From : Int
 To : Int
instance enc_Span : Enc Span := ⟨2, fun x => .agg [.sc (.int .i64 x.From), .sc (.int .i64 x.To)], fun a b h => by
 simp only [D.agg.injEq, List.cons.injEq, and_true] at h
 obtain ⟨a1, a2⟩ := a
 obtain ⟨b1, b2⟩ := b
 obtain ⟨h1, h2⟩ := h
 have q1 := Enc.inj (α := Int) a1 b1 h1
 have q2 := Enc.inj (α := Int) a2 b2 h2
 subst q1; subst q2; rfl⟩
structure Duty where
 Pieces : List (List Int)
instance enc_Duty : Enc Duty := ⟨1, fun x => .agg [Enc.e x.Pieces], fun a b h => by
 simp only [D.agg.injEq, List.cons.injEq, and_true] at h
 obtain ⟨a1⟩ := a
 obtain ⟨b1⟩ := b
 have h1 := h
 have q1 := Enc.inj (α := List (List Int)) a1 b1 h1
 subst q1; rfl⟩
instance : BxE l1Cur := ⟨fun x y h => Enc.inj x y (congrArg D.agg h)⟩
instance : BxE Line := ⟨fun x y h => Enc.inj x y (congrArg D.agg h)⟩
instance : BxE Network := ⟨fun x y h => Enc.inj x y (congrArg D.agg h)⟩
instance : BxE Trip := ⟨fun x y h => Enc.inj x y (congrArg D.agg h)⟩
instance : BxE Timetable := ⟨fun x y h => Enc.inj x y (congrArg D.agg h)⟩
instance : BxE Fleet := ⟨fun x y h => Enc.inj x y (congrArg D.agg h)⟩
instance : BxE l11Plan := ⟨fun x y h => Enc.inj x y (congrArg D.agg h)⟩
instance : BxE Rules := ⟨fun x y h => Enc.inj x y (congrArg D.agg h)⟩
instance : BxE Span := ⟨fun x y h => Enc.inj x y (congrArg D.agg h)⟩
instance : BxE Duty := ⟨fun x y h => Enc.inj x y (congrArg D.agg h)⟩
instance : FlatEnc Trip := ⟨fun _ => flatDB_ok rfl⟩
instance : FlatEnc Rules := ⟨fun _ => flatDB_ok rfl⟩
instance : FlatEnc Span := ⟨fun _ => flatDB_ok rfl⟩
def zq134 (code : List UInt8) : Option (Bool) :=
 some (decide (65536 < (code.length : Int)))
def zq75 (c : l1Cur) : Option (Int × l1Cur) :=
 (if (decide (c.at_ < (c.code_.length : Int))) = true then
  (idx c.code_ c.at_).bind fun e1 =>
  some (w64 ((e1.toNat : Int)))
 else
  some (0 : Int)).bind fun (v : Int) =>
 if (decide ((w64 (c.at_ + 1)) ≤ (c.code_.length : Int))) = true then
  some (v, (⟨c.code_, (w64 (c.at_ + 1)), (⟨(IntKind.u64.wrap ((IntKind.u64.wrap ((IntKind.u64.wrap (c.seed_.v * 6364136223846793005)) + (IntKind.u64.wrap (v)))) + 900900))⟩ : IK .u64)⟩ : l1Cur))
 else
  (chk ((0 : Int) ≤ 40)).bind fun u =>
  some ((w64 ((IntKind.u64.wrap ((BitVec.ofInt (IntKind.u64).bits ((IntKind.u64.wrap ((IntKind.u64.wrap ((IntKind.u64.wrap (c.seed_.v * 6364136223846793005)) + (IntKind.u64.wrap (v)))) + 900900)).fdiv (2 ^ (min (40 : Int).toNat (IntKind.u64).bits))) &&& BitVec.ofInt (IntKind.u64).bits 255).toNat : Int)))), (⟨c.code_, (w64 (c.at_ + 1)), (⟨(IntKind.u64.wrap ((IntKind.u64.wrap ((IntKind.u64.wrap (c.seed_.v * 6364136223846793005)) + (IntKind.u64.wrap (v)))) + 900900))⟩ : IK .u64)⟩ : l1Cur))
def zq79 (c : l1Cur) (n : Int) : Option (Int × l1Cur) :=
 if (decide (n ≤ 1)) = true then
  some (0, c)
 else
  (zq75 c).bind fun r =>
  (if (decide (200 < n)) = true then
   (zq75 r.2).bind fun r1 =>
   some ((w64 ((w64 (r.1 * 256)) + r1.1)), r1.2.code_, r1.2.at_, r1.2.seed_.v)
  else
   some (r.1, r.2.code_, r.2.at_, r.2.seed_.v)).bind fun ((v, v1, v2, v3) : Int × (List UInt8) × Int × Int) =>
  (chk ((n : Int) ≠ 0)).bind fun u =>
  some ((v.tmod n), (⟨v1, v2, (⟨v3⟩ : IK .u64)⟩ : l1Cur))
def zq78 (c : l1Cur) (n : Int) : Option (Bool × l1Cur) :=
 (zq79 c n).bind fun r =>
 some ((r.1 == 0), r.2)
def yafi (rec_ : Int → Option (ByteArray)) (n : Int) : Option (ByteArray) :=
 if (decide (n < 0)) = true then
  (rec_ (w64 (0 - n))).bind fun r =>
  (chk ((str [45]).size + r.size ≤ 4294967296)).bind fun u =>
  some ((str [45]) ++ r)
 else
  if (decide (n < 10)) = true then
   (chk ((0 : Int) ≤ n ∧ n ≤ (w64 (n + 1)) ∧ (w64 (n + 1)) ≤ ((str [48, 49, 50, 51, 52, 53, 54, 55, 56, 57]).size : Int))).bind fun u1 =>
   some ((str [48, 49, 50, 51, 52, 53, 54, 55, 56, 57]).extract n.toNat (w64 (n + 1)).toNat)
  else
   (chk ((10 : Int) ≠ 0)).bind fun u7 =>
   (rec_ (w64 (n.tdiv 10))).bind fun r2 =>
   (chk ((10 : Int) ≠ 0)).bind fun u8 =>
   (chk ((10 : Int) ≠ 0)).bind fun u9 =>
   (chk ((0 : Int) ≤ (n.tmod 10) ∧ (n.tmod 10) ≤ (w64 ((n.tmod 10) + 1)) ∧ (w64 ((n.tmod 10) + 1)) ≤ ((str [48, 49, 50, 51, 52, 53, 54, 55, 56, 57]).size : Int))).bind fun u10 =>
   (chk (r2.size + ((str [48, 49, 50, 51, 52, 53, 54, 55, 56, 57]).extract (n.tmod 10).toNat (w64 ((n.tmod 10) + 1)).toNat).size ≤ 4294967296)).bind fun u11 =>
   some (r2 ++ ((str [48, 49, 50, 51, 52, 53, 54, 55, 56, 57]).extract (n.tmod 10).toNat (w64 ((n.tmod 10) + 1)).toNat))
def yamh : Nat → Int → Option (ByteArray)
 | 0 => fun _ => none
 | n + 1 => yafi (yamh n)
def zq89 (n : Int) : Option (ByteArray) := yamh 4294967296 n
def yaem (x : Line) (stop : Int) : Int → Option (Lp (Int) (Fl (Int) (Unit)))
 | v =>
  if (decide (v < (x.Stops.length : Int))) = true then
   (idx x.Stops v).bind fun e =>
   if (e == stop) = true then
    some (.dn (.ret v))
   else
    some (.nx (w64 (v + 1)))
  else
   some (.dn (.go ()))
def zq102 (x : Line) (stop : Int) : Option (Int) :=
 flb (iter (yaem x stop) (0 : Int)) fun (_ : Unit) =>
 some (-1)
def yagj (name : ByteArray) (stops : Int) : Int × Int × (List UInt8) × Int × Int × (List Int) → Option (Lp (Int × Int × (List UInt8) × Int × Int × (List Int)) ((List UInt8) × Int × Int × (List Int)))
 | (v, v1, v2, v3, v4, v5) =>
  if (decide (0 < v1)) = true then
   ((zq102 (⟨name, v5, ([] : List Int)⟩ : Line) v).bind fun r2 =>
   if (decide (r2 < 0)) = true then
    (chk (v5.length + ([v] : List Int).length ≤ 4294967296)).bind fun u =>
    some (v5 ++ ([v] : List Int))
   else
    some v5).bind fun (v6 : List Int) =>
   (zq79 (⟨v2, v3, (⟨v4⟩ : IK .u64)⟩ : l1Cur) 2).bind fun r3 =>
   (chk ((stops : Int) ≠ 0)).bind fun u1 =>
   some (.nx (((w64 ((w64 (v + 1)) + r3.1)).tmod stops), (w64 (v1 - 1)), r3.2.code_, r3.2.at_, r3.2.seed_.v, v6))
  else
   some (.dn (v2, v3, v4, v5))
def yagi (v11 : List Int) : Int × (List UInt8) × Int × Int × (List Int) → Option (Lp (Int × (List UInt8) × Int × Int × (List Int)) ((List UInt8) × Int × Int × (List Int)))
 | (v12, v13, v14, v15, v16) =>
  if (decide (v12 < (v11.length : Int))) = true then
   (zq79 (⟨v13, v14, (⟨v15⟩ : IK .u64)⟩ : l1Cur) 12).bind fun r5 =>
   (chk (v16.length + ([(w64 (3 + r5.1))] : List Int).length ≤ 4294967296)).bind fun u7 =>
   some (.nx ((w64 (v12 + 1)), r5.2.code_, r5.2.at_, r5.2.seed_.v, (v16 ++ ([(w64 (3 + r5.1))] : List Int))))
  else
   some (.dn (v13, v14, v15, v16))
def zq71 (c : l1Cur) (name : ByteArray) (stops : Int) : Option (Line × l1Cur) :=
 (zq79 c stops).bind fun r =>
 (zq79 r.2 3).bind fun r1 =>
 (iter (yagj name stops) (r.1, (w64 (2 + r1.1)), r1.2.code_, r1.2.at_, r1.2.seed_.v, ([] : List Int))).bind fun ((v7, v8, v9, v10) : (List UInt8) × Int × Int × (List Int)) =>
 (if (decide ((v10.length : Int) < 2)) = true then
  (idx v10 0).bind fun e1 =>
  (chk ((stops : Int) ≠ 0)).bind fun u4 =>
  (chk (v10.length + ([((w64 (e1 + 1)).tmod stops)] : List Int).length ≤ 4294967296)).bind fun u5 =>
  some (v10 ++ ([((w64 (e1 + 1)).tmod stops)] : List Int))
 else
  some v10).bind fun (v11 : List Int) =>
 (iter (yagi v11) ((1 : Int), v7, v8, v9, ([] : List Int))).bind fun ((v17, v18, v19, v20) : (List UInt8) × Int × Int × (List Int)) =>
 some ((⟨name, v11, v20⟩ : Line), (⟨v17, v18, (⟨v19⟩ : IK .u64)⟩ : l1Cur))
def yaqy (name : ByteArray) (stops : Int) : Int × Int × (List UInt8) × Int × Int × (List Int) → Option (Lp (Int × Int × (List UInt8) × Int × Int × (List Int)) ((List UInt8) × Int × Int × (List Int)))
 | (v, v1, v2, v3, v4, v5) =>
  if (decide (0 < v1)) = true then
   ((zq102 (⟨name, v5, ([] : List Int)⟩ : Line) v).bind fun r2 =>
   if (decide (r2 < 0)) = true then
    (chk (v5.length + ([v] : List Int).length ≤ 4294967296)).bind fun u =>
    some (v5 ++ ([v] : List Int))
   else
    some v5).bind fun (v6 : List Int) =>
   (zq79 (⟨v2, v3, (⟨v4⟩ : IK .u64)⟩ : l1Cur) 2).bind fun r3 =>
   (chk ((stops : Int) ≠ 0)).bind fun u1 =>
   some (.nx (((w64 ((w64 (v + 1)) + r3.1)).tmod stops), (w64 (v1 - 1)), r3.2.code_, r3.2.at_, r3.2.seed_.v, v6))
  else
   some (.dn (v2, v3, v4, v5))
def yaqx (v11 : List Int) : Int × (List UInt8) × Int × Int × (List Int) → Option (Lp (Int × (List UInt8) × Int × Int × (List Int)) ((List UInt8) × Int × Int × (List Int)))
 | (v12, v13, v14, v15, v16) =>
  if (decide (v12 < (v11.length : Int))) = true then
   (zq79 (⟨v13, v14, (⟨v15⟩ : IK .u64)⟩ : l1Cur) 12).bind fun r5 =>
   (chk (v16.length + ([(w64 (3 + r5.1))] : List Int).length ≤ 4294967296)).bind fun u7 =>
   some (.nx ((w64 (v12 + 1)), r5.2.code_, r5.2.at_, r5.2.seed_.v, (v16 ++ ([(w64 (3 + r5.1))] : List Int))))
  else
   some (.dn (v13, v14, v15, v16))
def zq72 (c : l1Cur) (name : ByteArray) (stops : Int) : Option (Line × l1Cur) :=
 (zq79 c stops).bind fun r =>
 (zq79 r.2 3).bind fun r1 =>
 (iter (yaqy name stops) (r.1, (w64 (2 + r1.1)), r1.2.code_, r1.2.at_, r1.2.seed_.v, ([] : List Int))).bind fun ((v7, v8, v9, v10) : (List UInt8) × Int × Int × (List Int)) =>
 (if (decide ((v10.length : Int) < 2)) = true then
  (idx v10 0).bind fun e1 =>
  (chk ((stops : Int) ≠ 0)).bind fun u4 =>
  (chk (v10.length + ([((w64 (e1 + 1)).tmod stops)] : List Int).length ≤ 4294967296)).bind fun u5 =>
  some (v10 ++ ([((w64 (e1 + 1)).tmod stops)] : List Int))
 else
  some v10).bind fun (v11 : List Int) =>
 (iter (yaqx v11) ((1 : Int), v7, v8, v9, ([] : List Int))).bind fun ((v17, v18, v19, v20) : (List UInt8) × Int × Int × (List Int)) =>
 some ((⟨name, v11, v20⟩ : Line), (⟨v17, v18, (⟨v19⟩ : IK .u64)⟩ : l1Cur))
def yagf (list : List Int) : Int × (List Int) → Option (Lp (Int × (List Int)) ((List Int)))
 | (v, i) =>
  if (decide (0 ≤ v)) = true then
   (idx list v).bind fun e =>
   (chk (i.length + ([e] : List Int).length ≤ 4294967296)).bind fun u =>
   some (.nx ((w64 (v - 1)), (i ++ ([e] : List Int))))
  else
   some (.dn i)
def zq93 (list : List Int) : Option ((List Int)) :=
 (iter (yagf list) ((w64 ((list.length : Int) - 1)), ([] : List Int))).bind fun (i1 : List Int) =>
 some i1
def yaqo (list : List Int) : Int × (List Int) → Option (Lp (Int × (List Int)) ((List Int)))
 | (v, i) =>
  if (decide (0 ≤ v)) = true then
   (idx list v).bind fun e =>
   (chk (i.length + ([e] : List Int).length ≤ 4294967296)).bind fun u =>
   some (.nx ((w64 (v - 1)), (i ++ ([e] : List Int))))
  else
   some (.dn i)
def zq94 (list : List Int) : Option ((List Int)) :=
 (iter (yaqo list) ((w64 ((list.length : Int) - 1)), ([] : List Int))).bind fun (i1 : List Int) =>
 some i1
def zq90 (l : List Int) : Option ((List Int)) :=
 (chk (([] : List Int).length + l.length ≤ 4294967296)).bind fun u =>
 some (([] : List Int) ++ l)
def zq91 (l : List Int) : Option ((List Int)) :=
 (chk (([] : List Int).length + l.length ≤ 4294967296)).bind fun u =>
 some (([] : List Int) ++ l)
def yaen (n : Network) : Int × (List Line) → Option (Lp (Int × (List Line)) ((List Line)))
 | (v, v1) =>
  if (decide (v < (n.Lines.length : Int))) = true then
   (idx n.Lines v).bind fun e3 =>
   (idx n.Lines v).bind fun e4 =>
   (zq91 e4.Stops).bind fun r2 =>
   (idx n.Lines v).bind fun e5 =>
   (zq91 e5.Runs).bind fun r3 =>
   (chk (v1.length + ([(⟨e3.Name, r2, r3⟩ : Line)] : List Line).length ≤ 4294967296)).bind fun u2 =>
   some (.nx ((w64 (v + 1)), (v1 ++ ([(⟨e3.Name, r2, r3⟩ : Line)] : List Line))))
  else
   some (.dn v1)
def zq100 (n : Network) : Option (Network) :=
 (chk (([] : List ByteArray).length + n.Stops.length ≤ 4294967296)).bind fun u =>
 (iter (yaen n) ((0 : Int), ([] : List Line))).bind fun (v2 : List Line) =>
 some (⟨(([] : List ByteArray) ++ n.Stops), v2⟩ : Network)
def yaqv (r : Int × l1Cur) : Int × (List UInt8) × Int × Int × (List Line) → Option (Lp (Int × (List UInt8) × Int × Int × (List Line)) ((List UInt8) × Int × Int × (List Line)))
 | (x, v, v1, v2, v3) =>
  if (decide (0 < x)) = true then
   (zq89 x).bind fun r4 =>
   (chk ((str [108]).size + r4.size ≤ 4294967296)).bind fun u3 =>
   (zq72 (⟨v, v1, (⟨v2⟩ : IK .u64)⟩ : l1Cur) ((str [108]) ++ r4) (w64 (2 + r.1))).bind fun r5 =>
   (chk (v3.length + ([r5.1] : List Line).length ≤ 4294967296)).bind fun u4 =>
   some (.nx ((w64 (x - 1)), r5.2.code_, r5.2.at_, r5.2.seed_.v, (v3 ++ ([r5.1] : List Line))))
  else
   some (.dn (v, v1, v2, v3))
def zq73 (c : l1Cur) : Option (Network × l1Cur) :=
 (zq79 c 5).bind fun r =>
 (chk ((0 : Int) ≤ 0 ∧ 0 ≤ (w64 (2 + r.1)) ∧ (w64 (2 + r.1)) ≤ (([(str [112, 111, 114, 116]), (str [109, 105, 108, 108]), (str [112, 97, 114, 107]), (str [104, 97, 108, 108]), (str [100, 111, 99, 107]), (str [102, 97, 105, 114])] : List ByteArray).length : Int))).bind fun u =>
 (zq79 r.2 3).bind fun r1 =>
 (iter (yaqv r) ((w64 (1 + r1.1)), r1.2.code_, r1.2.at_, r1.2.seed_.v, ([] : List Line))).bind fun ((v4, v5, v6, v7) : (List UInt8) × Int × Int × (List Line)) =>
 ((zq78 (⟨v4, v5, (⟨v6⟩ : IK .u64)⟩ : l1Cur) 2).bind fun r6 =>
 if r6.1 = true then
  (idx v7 0).bind fun e =>
  (zq94 e.Stops).bind fun r9 =>
  (zq94 e.Runs).bind fun r10 =>
  (chk (v7.length + ([(⟨(str [114, 49]), r9, r10⟩ : Line)] : List Line).length ≤ 4294967296)).bind fun u6 =>
  some (r6.2.code_, r6.2.at_, r6.2.seed_.v, (v7 ++ ([(⟨(str [114, 49]), r9, r10⟩ : Line)] : List Line)))
 else
  some (r6.2.code_, r6.2.at_, r6.2.seed_.v, v7)).bind fun ((v8, v9, v10, v11) : (List UInt8) × Int × Int × (List Line)) =>
 (zq100 (⟨((([(str [112, 111, 114, 116]), (str [109, 105, 108, 108]), (str [112, 97, 114, 107]), (str [104, 97, 108, 108]), (str [100, 111, 99, 107]), (str [102, 97, 105, 114])] : List ByteArray).take (w64 (2 + r.1)).toNat).drop (0 : Int).toNat), v11⟩ : Network)).bind fun r11 =>
 some ((⟨r11.Stops, r11.Lines⟩ : Network), (⟨v8, v9, (⟨v10⟩ : IK .u64)⟩ : l1Cur))
def yajp (r : Network × l1Cur) : Int × Int × (List UInt8) × Int × Int × (List Trip) → Option (Lp (Int × Int × (List UInt8) × Int × Int × (List Trip)) ((List UInt8) × Int × Int × (List Trip)))
 | (n, v, v1, v2, v3, v4) =>
  if (decide (0 < v)) = true then
   (zq79 (⟨v1, v2, (⟨v3⟩ : IK .u64)⟩ : l1Cur) 3).bind fun r2 =>
   (zq79 r2.2 (r.1.Lines.length : Int)).bind fun r5 =>
   (zq79 r5.2 24).bind fun r6 =>
   (chk (v4.length + ([(⟨(w64 ((w64 (n + 1)) + r2.1)), r5.1, (w64 (360 + (w64 (5 * r6.1))))⟩ : Trip)] : List Trip).length ≤ 4294967296)).bind fun u1 =>
   some (.nx ((w64 ((w64 (n + 1)) + r2.1)), (w64 (v - 1)), r6.2.code_, r6.2.at_, r6.2.seed_.v, (v4 ++ ([(⟨(w64 ((w64 (n + 1)) + r2.1)), r5.1, (w64 (360 + (w64 (5 * r6.1))))⟩ : Trip)] : List Trip))))
  else
   some (.dn (v1, v2, v3, v4))
def zq83 (c : l1Cur) : Option (Timetable × l1Cur) :=
 (zq73 c).bind fun r =>
 (zq79 r.2 8).bind fun r1 =>
 (iter (yajp r) ((0 : Int), r1.1, r1.2.code_, r1.2.at_, r1.2.seed_.v, ([] : List Trip))).bind fun ((v5, v6, v7, v8) : (List UInt8) × Int × Int × (List Trip)) =>
 some ((⟨(⟨r.1.Stops, r.1.Lines⟩ : Network), v8⟩ : Timetable), (⟨v5, v6, (⟨v7⟩ : IK .u64)⟩ : l1Cur))
def zq65 (c : l1Cur) (list : List Int) : Option (Int × l1Cur) :=
 (zq79 c (list.length : Int)).bind fun r =>
 (idx list r.1).bind fun e =>
 some (e, r.2)
def zq76 (c : l1Cur) (list : List ByteArray) : Option (ByteArray × l1Cur) :=
 (zq79 c (list.length : Int)).bind fun r =>
 (idx list r.1).bind fun e =>
 some (e, r.2)
def zq77 (c : l1Cur) (list : List ByteArray) : Option (ByteArray × l1Cur) :=
 (zq79 c (list.length : Int)).bind fun r =>
 (idx list r.1).bind fun e =>
 some (e, r.2)
def yakw (n : Network) : Int × (List Line) → Option (Lp (Int × (List Line)) ((List Line)))
 | (v, v1) =>
  if (decide (v < (n.Lines.length : Int))) = true then
   (idx n.Lines v).bind fun e3 =>
   (idx n.Lines v).bind fun e4 =>
   (zq90 e4.Stops).bind fun r2 =>
   (idx n.Lines v).bind fun e5 =>
   (zq90 e5.Runs).bind fun r3 =>
   (chk (v1.length + ([(⟨e3.Name, r2, r3⟩ : Line)] : List Line).length ≤ 4294967296)).bind fun u2 =>
   some (.nx ((w64 (v + 1)), (v1 ++ ([(⟨e3.Name, r2, r3⟩ : Line)] : List Line))))
  else
   some (.dn v1)
def zq101 (n : Network) : Option (Network) :=
 (chk (([] : List ByteArray).length + n.Stops.length ≤ 4294967296)).bind fun u =>
 (iter (yakw n) ((0 : Int), ([] : List Line))).bind fun (v2 : List Line) =>
 some (⟨(([] : List ByteArray) ++ n.Stops), v2⟩ : Network)
def yagh (r : Int × l1Cur) : Int × (List UInt8) × Int × Int × (List Line) → Option (Lp (Int × (List UInt8) × Int × Int × (List Line)) ((List UInt8) × Int × Int × (List Line)))
 | (x, v, v1, v2, v3) =>
  if (decide (0 < x)) = true then
   (zq89 x).bind fun r4 =>
   (chk ((str [108]).size + r4.size ≤ 4294967296)).bind fun u3 =>
   (zq72 (⟨v, v1, (⟨v2⟩ : IK .u64)⟩ : l1Cur) ((str [108]) ++ r4) (w64 (2 + r.1))).bind fun r5 =>
   (chk (v3.length + ([r5.1] : List Line).length ≤ 4294967296)).bind fun u4 =>
   some (.nx ((w64 (x - 1)), r5.2.code_, r5.2.at_, r5.2.seed_.v, (v3 ++ ([r5.1] : List Line))))
  else
   some (.dn (v, v1, v2, v3))
def zq74 (c : l1Cur) : Option (Network × l1Cur) :=
 (zq79 c 5).bind fun r =>
 (chk ((0 : Int) ≤ 0 ∧ 0 ≤ (w64 (2 + r.1)) ∧ (w64 (2 + r.1)) ≤ (([(str [112, 111, 114, 116]), (str [109, 105, 108, 108]), (str [112, 97, 114, 107]), (str [104, 97, 108, 108]), (str [100, 111, 99, 107]), (str [102, 97, 105, 114])] : List ByteArray).length : Int))).bind fun u =>
 (zq79 r.2 3).bind fun r1 =>
 (iter (yagh r) ((w64 (1 + r1.1)), r1.2.code_, r1.2.at_, r1.2.seed_.v, ([] : List Line))).bind fun ((v4, v5, v6, v7) : (List UInt8) × Int × Int × (List Line)) =>
 ((zq78 (⟨v4, v5, (⟨v6⟩ : IK .u64)⟩ : l1Cur) 2).bind fun r6 =>
 if r6.1 = true then
  (idx v7 0).bind fun e =>
  (zq94 e.Stops).bind fun r9 =>
  (zq94 e.Runs).bind fun r10 =>
  (chk (v7.length + ([(⟨(str [114, 49]), r9, r10⟩ : Line)] : List Line).length ≤ 4294967296)).bind fun u6 =>
  some (r6.2.code_, r6.2.at_, r6.2.seed_.v, (v7 ++ ([(⟨(str [114, 49]), r9, r10⟩ : Line)] : List Line)))
 else
  some (r6.2.code_, r6.2.at_, r6.2.seed_.v, v7)).bind fun ((v8, v9, v10, v11) : (List UInt8) × Int × Int × (List Line)) =>
 (zq101 (⟨((([(str [112, 111, 114, 116]), (str [109, 105, 108, 108]), (str [112, 97, 114, 107]), (str [104, 97, 108, 108]), (str [100, 111, 99, 107]), (str [102, 97, 105, 114])] : List ByteArray).take (w64 (2 + r.1)).toNat).drop (0 : Int).toNat), v11⟩ : Network)).bind fun r11 =>
 some ((⟨r11.Stops, r11.Lines⟩ : Network), (⟨v8, v9, (⟨v10⟩ : IK .u64)⟩ : l1Cur))
def zq66 (c : l1Cur) (list : List Int) : Option (Int × l1Cur) :=
 (zq79 c (list.length : Int)).bind fun r =>
 (idx list r.1).bind fun e =>
 some (e, r.2)
def yagk (r : Network × l1Cur) : Int × (List UInt8) × Int × Int × (List Line) → Option (Lp (Int × (List UInt8) × Int × Int × (List Line)) ((List UInt8) × Int × Int × (List Line)))
 | (v7, v8, v9, v10, v11) =>
  (zq79 (⟨v8, v9, (⟨v10⟩ : IK .u64)⟩ : l1Cur) 2).bind fun r16 =>
  (if (decide ((v11.length : Int) < (w64 (5 + r16.1)))) = true then some (decide (v7 < 7)) else some false).bind fun (v12 : Bool) =>
  if v12 = true then
   (zq89 v7).bind fun r19 =>
   (chk ((str [120]).size + r19.size ≤ 4294967296)).bind fun u3 =>
   (zq71 r16.2 ((str [120]) ++ r19) (r.1.Stops.length : Int)).bind fun r20 =>
   (chk (v11.length + ([(⟨r20.1.Name, r20.1.Stops, r20.1.Runs⟩ : Line)] : List Line).length ≤ 4294967296)).bind fun u4 =>
   some (.nx ((w64 (v7 + 1)), r20.2.code_, r20.2.at_, r20.2.seed_.v, (v11 ++ ([(⟨r20.1.Name, r20.1.Stops, r20.1.Runs⟩ : Line)] : List Line))))
  else
   some (.dn (r16.2.code_, r16.2.at_, r16.2.seed_.v, v11))
def zq67 (c : l1Cur) : Option (Network × l1Cur) :=
 (zq74 c).bind fun r =>
 (zq79 r.2 (r.1.Lines.length : Int)).bind fun r1 =>
 (idx r.1.Lines r1.1).bind fun e =>
 flb ((zq79 r1.2 24).bind fun r2 =>
 if (r2.1 == 0) = true then
  (zq77 r2.2 ([(str [109, 105, 108, 108]), (str []), (str [65]), (str [97, 98, 99, 100, 101, 102, 103, 104]), (str [97, 98, 99, 100, 101, 102, 103, 104, 105])] : List ByteArray)).bind fun r4 =>
  (idx r.1.Stops 0).bind fun e2 =>
  some (.go (r4.2.code_, r4.2.at_, r4.2.seed_.v, e.Name, (r.1.Stops.set (0 : Int).toNat r4.1), r.1.Lines, e.Runs))
 else
  if (r2.1 == 1) = true then
   (zq77 r2.2 ([(str [114, 49]), (str [108, 49]), (str []), (str [88])] : List ByteArray)).bind fun r5 =>
   some (.go (r5.2.code_, r5.2.at_, r5.2.seed_.v, r5.1, r.1.Stops, r.1.Lines, e.Runs))
  else
   if (r2.1 == 2) = true then
    (zq79 r2.2 (e.Stops.length : Int)).bind fun r8 =>
    (zq79 r8.2 10).bind fun r9 =>
    (idx e.Stops r8.1).bind fun e4 =>
    some (.go (r9.2.code_, r9.2.at_, r9.2.seed_.v, e.Name, r.1.Stops, (r.1.Lines.set r1.1.toNat (⟨e.Name, (e.Stops.set r8.1.toNat (w64 (r9.1 - 1))), e.Runs⟩ : Line)), ((⟨e.Name, (e.Stops.set r8.1.toNat (w64 (r9.1 - 1))), e.Runs⟩ : Line).Runs)))
   else
    if (r2.1 == 3) = true then
     (zq79 r2.2 (e.Runs.length : Int)).bind fun r12 =>
     (zq66 r12.2 ([0, 60, 61, (-1)] : List Int)).bind fun r13 =>
     (idx e.Runs r12.1).bind fun e6 =>
     some (.go (r13.2.code_, r13.2.at_, r13.2.seed_.v, e.Name, r.1.Stops, (r.1.Lines.set r1.1.toNat (⟨e.Name, e.Stops, (e.Runs.set r12.1.toNat r13.1)⟩ : Line)), ((⟨e.Name, e.Stops, (e.Runs.set r12.1.toNat r13.1)⟩ : Line).Runs)))
    else
     if (r2.1 == 4) = true then
      (chk (e.Runs.length + ([3] : List Int).length ≤ 4294967296)).bind fun u =>
      some (.go (r2.2.code_, r2.2.at_, r2.2.seed_.v, e.Name, r.1.Stops, r.1.Lines, (e.Runs ++ ([3] : List Int))))
     else
      if (r2.1 == 5) = true then
       some (.ret ((⟨r.1.Stops, ([] : List Line)⟩ : Network), r2.2))
      else
       if (r2.1 == 6) = true then
        (iter (yagk r) ((0 : Int), r2.2.code_, r2.2.at_, r2.2.seed_.v, r.1.Lines)).bind fun ((v13, v14, v15, v16) : (List UInt8) × Int × Int × (List Line)) =>
        some (.ret ((⟨r.1.Stops, v16⟩ : Network), (⟨v13, v14, (⟨v15⟩ : IK .u64)⟩ : l1Cur)))
       else
        some (.go (r2.2.code_, r2.2.at_, r2.2.seed_.v, e.Name, r.1.Stops, r.1.Lines, e.Runs))) fun ((v, v1, v2, v3, v4, v5, v6) : (List UInt8) × Int × Int × ByteArray × (List ByteArray) × (List Line) × (List Int)) =>
 (idx v5 r1.1).bind fun e9 =>
 some ((⟨v4, (v5.set r1.1.toNat (⟨v3, e9.Stops, v6⟩ : Line))⟩ : Network), (⟨v, v1, (⟨v2⟩ : IK .u64)⟩ : l1Cur))
def yajs : Int × (List UInt8) × Int × Int × (List Trip) → Option (Lp (Int × (List UInt8) × Int × Int × (List Trip)) ((List UInt8) × Int × Int × (List Trip)))
 | (v8, v9, v10, v11, v12) =>
  (zq79 (⟨v9, v10, (⟨v11⟩ : IK .u64)⟩ : l1Cur) 2).bind fun r8 =>
  (if (decide ((v12.length : Int) < (w64 (12 + r8.1)))) = true then some (decide (v8 < 14)) else some false).bind fun (v13 : Bool) =>
  if v13 = true then
   (chk (v12.length + ([(⟨(w64 (100 + v8)), 0, (w64 (400 + v8))⟩ : Trip)] : List Trip).length ≤ 4294967296)).bind fun u =>
   some (.nx ((w64 (v8 + 1)), r8.2.code_, r8.2.at_, r8.2.seed_.v, (v12 ++ ([(⟨(w64 (100 + v8)), 0, (w64 (400 + v8))⟩ : Trip)] : List Trip))))
  else
   some (.dn (r8.2.code_, r8.2.at_, r8.2.seed_.v, v12))
def zq68 (c : l1Cur) : Option (Timetable × l1Cur) :=
 (zq83 c).bind fun r =>
 if ((r.1.Trips.length : Int) == 0) = true then
  some ((⟨(⟨r.1.Network.Stops, r.1.Network.Lines⟩ : Network), r.1.Trips⟩ : Timetable), r.2)
 else
  (zq79 r.2 (r.1.Trips.length : Int)).bind fun r1 =>
  (idx r.1.Trips r1.1).bind fun e =>
  flb ((zq79 r1.2 24).bind fun r2 =>
  if (r2.1 == 0) = true then
   (zq65 r2.2 ([0, 999, 1000, 2] : List Int)).bind fun r3 =>
   some (.go (r3.2.code_, r3.2.at_, r3.2.seed_.v, r.1.Network.Lines, r3.1, e.Line, e.Start, r.1.Network.Stops))
  else
   if (r2.1 == 1) = true then
    (zq79 r2.2 7).bind fun r4 =>
    some (.go (r4.2.code_, r4.2.at_, r4.2.seed_.v, r.1.Network.Lines, e.Id, (w64 (r4.1 - 1)), e.Start, r.1.Network.Stops))
   else
    if (r2.1 == 2) = true then
     (zq65 r2.2 ([(-1), 0, 1799, 1798, 1800] : List Int)).bind fun r5 =>
     some (.go (r5.2.code_, r5.2.at_, r5.2.seed_.v, r.1.Network.Lines, e.Id, e.Line, r5.1, r.1.Network.Stops))
    else
     if (r2.1 == 3) = true then
      (zq67 r2.2).bind fun r6 =>
      some (.go (r6.2.code_, r6.2.at_, r6.2.seed_.v, r6.1.Lines, e.Id, e.Line, e.Start, r6.1.Stops))
     else
      if (r2.1 == 4) = true then
       (iter (yajs) ((0 : Int), r2.2.code_, r2.2.at_, r2.2.seed_.v, r.1.Trips)).bind fun ((v14, v15, v16, v17) : (List UInt8) × Int × Int × (List Trip)) =>
       some (.ret ((⟨(⟨r.1.Network.Stops, r.1.Network.Lines⟩ : Network), v17⟩ : Timetable), (⟨v14, v15, (⟨v16⟩ : IK .u64)⟩ : l1Cur)))
      else
       some (.go (r2.2.code_, r2.2.at_, r2.2.seed_.v, r.1.Network.Lines, e.Id, e.Line, e.Start, r.1.Network.Stops))) fun ((v, v1, v2, v3, v4, v5, v6, v7) : (List UInt8) × Int × Int × (List Line) × Int × Int × Int × (List ByteArray)) =>
  (idx r.1.Trips r1.1).bind fun e2 =>
  some ((⟨(⟨v7, v3⟩ : Network), (r.1.Trips.set r1.1.toNat (⟨v4, v5, v6⟩ : Trip))⟩ : Timetable), (⟨v, v1, (⟨v2⟩ : IK .u64)⟩ : l1Cur))
def zq88 (a : Int) (b : Int) : Option (Int) :=
 if (decide (b < a)) = true then
  some a
 else
  some b
def yajo (r2 : Network × l1Cur) : Int × (List UInt8) × Int × Int × (List Trip) → Option (Lp (Int × (List UInt8) × Int × Int × (List Trip)) ((List UInt8) × Int × Int × (List Trip)))
 | (i, v, v1, v2, v3) =>
  if (decide (0 < i)) = true then
   (zq79 (⟨v, v1, (⟨v2⟩ : IK .u64)⟩ : l1Cur) 2).bind fun r7 =>
   (zq79 r7.2 (r2.1.Lines.length : Int)).bind fun r8 =>
   (zq79 r8.2 16).bind fun r9 =>
   (chk (v3.length + ([(⟨(w64 ((w64 ((v3.length : Int) + 1)) + (w64 ((w64 (2 * (v3.length : Int))) * r7.1)))), r8.1, (w64 (360 + (w64 (5 * r9.1))))⟩ : Trip)] : List Trip).length ≤ 4294967296)).bind fun u1 =>
   some (.nx ((w64 (i - 1)), r9.2.code_, r9.2.at_, r9.2.seed_.v, (v3 ++ ([(⟨(w64 ((w64 ((v3.length : Int) + 1)) + (w64 ((w64 (2 * (v3.length : Int))) * r7.1)))), r8.1, (w64 (360 + (w64 (5 * r9.1))))⟩ : Trip)] : List Trip))))
  else
   some (.dn (v, v1, v2, v3))
def yajn : Int × (List Trip) → Option (Lp (Int × (List Trip)) ((List Trip)))
 | (x, v8) =>
  if (decide (x < (v8.length : Int))) = true then
   (idx v8 x).bind fun e =>
   (idx v8 (w64 (x - 1))).bind fun e2 =>
   (zq88 e.Id (w64 (e2.Id + 1))).bind fun r11 =>
   (idx v8 x).bind fun e3 =>
   some (.nx ((w64 (x + 1)), (v8.set x.toNat (⟨r11, e.Line, e.Start⟩ : Trip))))
  else
   some (.dn v8)
def zq84 (c : l1Cur) : Option (Timetable × l1Cur) :=
 (zq78 c 16).bind fun r =>
 if r.1 = true then
  (zq68 r.2).bind fun r1 =>
  some ((⟨(⟨r1.1.Network.Stops, r1.1.Network.Lines⟩ : Network), r1.1.Trips⟩ : Timetable), r1.2)
 else
  (zq73 r.2).bind fun r2 =>
  (zq79 r2.2 6).bind fun r3 =>
  (iter (yajo r2) ((w64 (3 + r3.1)), r3.2.code_, r3.2.at_, r3.2.seed_.v, ([] : List Trip))).bind fun ((v4, v5, v6, v7) : (List UInt8) × Int × Int × (List Trip)) =>
  (iter (yajn) ((1 : Int), v7)).bind fun (v9 : List Trip) =>
  some ((⟨(⟨r2.1.Stops, r2.1.Lines⟩ : Network), v9⟩ : Timetable), (⟨v4, v5, (⟨v6⟩ : IK .u64)⟩ : l1Cur))
def yajr (n : Network) (k : Int) : Int × (List UInt8) × Int × Int × (List Int) → Option (Lp (Int × (List UInt8) × Int × Int × (List Int)) ((List UInt8) × Int × Int × (List Int)))
 | (v4, v5, v6, v7, v8) =>
  if (decide (v4 < (n.Stops.length : Int))) = true then
   (zq88 (w64 (k - v4)) (w64 (v4 - k))).bind fun r1 =>
   (zq79 (⟨v5, v6, (⟨v7⟩ : IK .u64)⟩ : l1Cur) 4).bind fun r2 =>
   (chk (v8.length + ([(w64 (r1 * (w64 (2 + r2.1))))] : List Int).length ≤ 4294967296)).bind fun u =>
   some (.nx ((w64 (v4 + 1)), r2.2.code_, r2.2.at_, r2.2.seed_.v, (v8 ++ ([(w64 (r1 * (w64 (2 + r2.1))))] : List Int))))
  else
   some (.dn (v5, v6, v7, v8))
def yajq (n : Network) : Int × (List UInt8) × Int × Int × (List (List Int)) → Option (Lp (Int × (List UInt8) × Int × Int × (List (List Int))) ((List UInt8) × Int × Int × (List (List Int))))
 | (k, v, v1, v2, v3) =>
  if (decide (k < (n.Stops.length : Int))) = true then
   (iter (yajr n k) ((0 : Int), v, v1, v2, ([] : List Int))).bind fun ((v9, v10, v11, v12) : (List UInt8) × Int × Int × (List Int)) =>
   (chk (v3.length + ([v12] : List (List Int)).length ≤ 4294967296)).bind fun u1 =>
   some (.nx ((w64 (k + 1)), v9, v10, v11, (v3 ++ ([v12] : List (List Int)))))
  else
   some (.dn (v, v1, v2, v3))
def zq69 (c : l1Cur) (n : Network) : Option (Fleet × l1Cur) :=
 (zq66 c ([0, 2, 5, 3] : List Int)).bind fun r =>
 (iter (yajq n) ((0 : Int), r.2.code_, r.2.at_, r.2.seed_.v, ([] : List (List Int)))).bind fun ((v13, v14, v15, v16) : (List UInt8) × Int × Int × (List (List Int))) =>
 ((zq79 (⟨v13, v14, (⟨v15⟩ : IK .u64)⟩ : l1Cur) 32).bind fun r3 =>
 if (r3.1 == 0) = true then
  (zq66 r3.2 ([30, 31, (-1)] : List Int)).bind fun r4 =>
  some (r4.2.code_, r4.2.at_, r4.2.seed_.v, v16, r4.1)
 else
  if (r3.1 == 1) = true then
   (idx v16 0).bind fun e =>
   (idx e 0).bind fun e1 =>
   some (r3.2.code_, r3.2.at_, r3.2.seed_.v, (v16.set (0 : Int).toNat (e.set (0 : Int).toNat 1)), r.1)
  else
   if (r3.1 == 2) = true then
    (idx v16 0).bind fun e4 =>
    (zq66 r3.2 ([120, 121, (-1)] : List Int)).bind fun r6 =>
    (idx e4 (w64 ((n.Stops.length : Int) - 1))).bind fun e5 =>
    some (r6.2.code_, r6.2.at_, r6.2.seed_.v, (v16.set (0 : Int).toNat (e4.set (w64 ((n.Stops.length : Int) - 1)).toNat r6.1)), r.1)
   else
    if (r3.1 == 3) = true then
     (chk ((0 : Int) ≤ 1 ∧ 1 ≤ (v16.length : Int))).bind fun u2 =>
     some (r3.2.code_, r3.2.at_, r3.2.seed_.v, (v16.drop (1 : Int).toNat), r.1)
    else
     some (r3.2.code_, r3.2.at_, r3.2.seed_.v, v16, r.1)).bind fun ((v17, v18, v19, v20, v21) : (List UInt8) × Int × Int × (List (List Int)) × Int) =>
 some ((⟨v20, v21⟩ : Fleet), (⟨v17, v18, (⟨v19⟩ : IK .u64)⟩ : l1Cur))
def zq86 (x : Int) (a : Int) (b : Int) : Option (Bool) :=
 (if (decide (a ≤ x)) = true then some (decide (x ≤ b)) else some false).bind fun (v : Bool) =>
 some v
def yaet (s : ByteArray) : Int → Option (Lp (Int) (Fl (Bool) (Unit)))
 | v1 =>
  if (decide (v1 < (s.size : Int))) = true then
   (chk ((0 : Int) ≤ v1 ∧ v1 < (s.size : Int))).bind fun u2 =>
   (if (decide (((s.data.toList.getD v1.toNat 0).toNat : Int) < 97)) = true then (chk ((0 : Int) ≤ v1 ∧ v1 < (s.size : Int))).bind fun u3 =>
   if (decide (((s.data.toList.getD v1.toNat 0).toNat : Int) < 48)) = true then some true else (chk ((0 : Int) ≤ v1 ∧ v1 < (s.size : Int))).bind fun u4 =>
   some (decide (57 < ((s.data.toList.getD v1.toNat 0).toNat : Int))) else (chk ((0 : Int) ≤ v1 ∧ v1 < (s.size : Int))).bind fun u5 =>
   if (decide (122 < ((s.data.toList.getD v1.toNat 0).toNat : Int))) = true then (chk ((0 : Int) ≤ v1 ∧ v1 < (s.size : Int))).bind fun u6 =>
   if (decide (((s.data.toList.getD v1.toNat 0).toNat : Int) < 48)) = true then some true else (chk ((0 : Int) ≤ v1 ∧ v1 < (s.size : Int))).bind fun u7 =>
   some (decide (57 < ((s.data.toList.getD v1.toNat 0).toNat : Int))) else some false).bind fun (v2 : Bool) =>
   if v2 = true then
    some (.dn (.ret false))
   else
    some (.nx (w64 (v1 + 1)))
  else
   some (.dn (.go ()))
def zq99 (s : ByteArray) : Option (Bool) :=
 (zq86 (s.size : Int) 1 8).bind fun r =>
 (if (!r) = true then some true else (chk ((0 : Int) ≤ 0 ∧ 0 < (s.size : Int))).bind fun u =>
 if (decide (((s.data.toList.getD (0 : Int).toNat 0).toNat : Int) < 97)) = true then some true else (chk ((0 : Int) ≤ 0 ∧ 0 < (s.size : Int))).bind fun u1 =>
 some (decide (122 < ((s.data.toList.getD (0 : Int).toNat 0).toNat : Int)))).bind fun (v : Bool) =>
 if v = true then
  some false
 else
  flb (iter (yaet s) (0 : Int)) fun (_ : Unit) =>
  some true
def yage (list : List ByteArray) (name : ByteArray) : Int → Option (Lp (Int) (Fl (Int) (Unit)))
 | v =>
  if (decide (v < (list.length : Int))) = true then
   (idx list v).bind fun e =>
   if (e.toList == name.toList) = true then
    some (.dn (.ret v))
   else
    some (.nx (w64 (v + 1)))
  else
   some (.dn (.go ()))
def zq95 (list : List ByteArray) (name : ByteArray) : Option (Int) :=
 flb (iter (yage list name) (0 : Int)) fun (_ : Unit) =>
 some (-1)
def yagb (x : Line) (stops : Int) : Int → Option (Lp (Int) (Fl (Bool) (Unit)))
 | v1 =>
  if (decide (v1 < (x.Stops.length : Int))) = true then
   (idx x.Stops v1).bind fun e2 =>
   (zq86 e2 0 (w64 (stops - 1))).bind fun r4 =>
   (if (!r4) = true then some true else (idx x.Stops v1).bind fun e3 =>
   (zq102 x e3).bind fun r5 =>
   some (r5 != v1)).bind fun (v2 : Bool) =>
   if v2 = true then
    some (.dn (.ret false))
   else
    some (.nx (w64 (v1 + 1)))
  else
   some (.dn (.go ()))
def yaga (x : Line) : Int → Option (Lp (Int) (Fl (Bool) (Unit)))
 | v3 =>
  if (decide (v3 < (x.Runs.length : Int))) = true then
   (idx x.Runs v3).bind fun e5 =>
   (zq86 e5 1 60).bind fun r7 =>
   if (!r7) = true then
    some (.dn (.ret false))
   else
    some (.nx (w64 (v3 + 1)))
  else
   some (.dn (.go ()))
def zq97 (x : Line) (stops : Int) : Option (Bool) :=
 (zq99 x.Name).bind fun r =>
 (if (!r) = true then some true else (zq86 (x.Stops.length : Int) 2 6).bind fun r1 =>
 if (!r1) = true then some true else some ((x.Runs.length : Int) != (w64 ((x.Stops.length : Int) - 1)))).bind fun (v : Bool) =>
 if v = true then
  some false
 else
  flb (iter (yagb x stops) (0 : Int)) fun (_ : Unit) =>
  flb (iter (yaga x) (0 : Int)) fun (_ : Unit) =>
  some true
def yafz (n : Network) (name : ByteArray) : Int → Option (Lp (Int) (Fl (Int) (Unit)))
 | v =>
  if (decide (v < (n.Lines.length : Int))) = true then
   (idx n.Lines v).bind fun e =>
   if (e.Name.toList == name.toList) = true then
    some (.dn (.ret v))
   else
    some (.nx (w64 (v + 1)))
  else
   some (.dn (.go ()))
def zq98 (n : Network) (name : ByteArray) : Option (Int) :=
 flb (iter (yafz n name) (0 : Int)) fun (_ : Unit) =>
 some (-1)
def yagd (n : Network) : Int → Option (Lp (Int) (Fl (Bool) (Unit)))
 | i =>
  if (decide (i < (n.Stops.length : Int))) = true then
   (idx n.Stops i).bind fun e2 =>
   (zq99 e2).bind fun r4 =>
   (if (!r4) = true then some true else (idx n.Stops i).bind fun e3 =>
   (zq95 n.Stops e3).bind fun r5 =>
   some (r5 != i)).bind fun (v1 : Bool) =>
   if v1 = true then
    some (.dn (.ret false))
   else
    some (.nx (w64 (i + 1)))
  else
   some (.dn (.go ()))
def yagc (n : Network) : Int → Option (Lp (Int) (Fl (Bool) (Unit)))
 | v2 =>
  if (decide (v2 < (n.Lines.length : Int))) = true then
   (idx n.Lines v2).bind fun e7 =>
   (zq97 e7 (n.Stops.length : Int)).bind fun r9 =>
   (if (!r9) = true then some true else (idx n.Lines v2).bind fun e8 =>
   (zq98 n e8.Name).bind fun r10 =>
   some (r10 != v2)).bind fun (v3 : Bool) =>
   if v3 = true then
    some (.dn (.ret false))
   else
    some (.nx (w64 (v2 + 1)))
  else
   some (.dn (.go ()))
def zq96 (n : Network) : Option (Bool) :=
 (zq86 (n.Stops.length : Int) 2 8).bind fun r =>
 (if (!r) = true then some true else (zq86 (n.Lines.length : Int) 1 5).bind fun r1 =>
 some (!r1)).bind fun (v : Bool) =>
 if v = true then
  some false
 else
  flb (iter (yagd n) (0 : Int)) fun (_ : Unit) =>
  flb (iter (yagc n) (0 : Int)) fun (_ : Unit) =>
  some true
def zq104 (t : Int) : Option (Bool) :=
 (zq86 t 0 1799).bind fun r =>
 some r
def zq109 (t : Timetable) (i : Int) : Option (Line) :=
 (idx t.Trips i).bind fun e2 =>
 (idx t.Network.Lines e2.Line).bind fun e3 =>
 some e3
def zq110 (t : Timetable) (i : Int) : Option ((List Int)) :=
 (zq109 t i).bind fun r =>
 some r.Stops
def yafm (x : Line) (to : Int) : Int × Int → Option (Lp (Int × Int) (Int))
 | (v, v1) =>
  if (decide (v1 < to)) = true then
   (idx x.Runs v1).bind fun e =>
   some (.nx ((w64 (v + e)), (w64 (v1 + 1))))
  else
   some (.dn v)
def zq103 (x : Line) (from_ : Int) (to : Int) : Option (Int) :=
 (iter (yafm x to) ((0 : Int), from_)).bind fun (v2 : Int) =>
 some v2
def zq105 (t : Timetable) (i : Int) (k : Int) : Option (Int) :=
 (idx t.Trips i).bind fun e1 =>
 (zq109 t i).bind fun r2 =>
 (zq103 r2 0 k).bind fun r3 =>
 some (w64 (e1.Start + r3))
def zq106 (t : Timetable) (i : Int) : Option (Int) :=
 (zq110 t i).bind fun r2 =>
 (zq105 t i (w64 ((r2.length : Int) - 1))).bind fun r3 =>
 some r3
def yafk (t : Timetable) : Int → Option (Lp (Int) (Fl (Bool) (Unit)))
 | x =>
  if (decide (x < (t.Trips.length : Int))) = true then
   (idx t.Trips x).bind fun e =>
   (zq86 e.Id 1 999).bind fun r6 =>
   (if (!r6) = true then some true else (zq86 e.Line 0 (w64 ((t.Network.Lines.length : Int) - 1))).bind fun r7 =>
   if (!r7) = true then some true else (zq104 e.Start).bind fun r8 =>
   if (!r8) = true then some true else (zq106 t x).bind fun r9 =>
   (zq104 r9).bind fun r10 =>
   if (!r10) = true then some true else if (decide (0 < x)) = true then (idx t.Trips (w64 (x - 1))).bind fun e2 =>
   some (decide (e.Id ≤ e2.Id)) else some false).bind fun (v1 : Bool) =>
   if v1 = true then
    some (.dn (.ret false))
   else
    some (.nx (w64 (x + 1)))
  else
   some (.dn (.go ()))
def zq108 (t : Timetable) : Option (Bool) :=
 (zq96 t.Network).bind fun r =>
 (if (!r) = true then some true else some (decide (12 < (t.Trips.length : Int)))).bind fun (v : Bool) =>
 if v = true then
  some false
 else
  flb (iter (yafk t) (0 : Int)) fun (_ : Unit) =>
  some true
def yagr (f : Fleet) (v1 : Int) : Int → Option (Lp (Int) (Fl (Lp (Int) (Fl (Bool) (Unit))) (Unit)))
 | v3 =>
  (idx f.Dead v1).bind fun e7 =>
  if (decide (v3 < (e7.length : Int))) = true then
   (idx f.Dead v1).bind fun e8 =>
   (idx e8 v3).bind fun e9 =>
   (zq86 e9 0 120).bind fun r3 =>
   if (!r3) = true then
    some (.dn (.ret (.dn (.ret false))))
   else
    some (.nx (w64 (v3 + 1)))
  else
   some (.dn (.go ()))
def yajx (n : Network) (f : Fleet) : Int → Option (Lp (Int) (Fl (Bool) (Unit)))
 | v1 =>
  if (decide (v1 < (f.Dead.length : Int))) = true then
   (idx f.Dead v1).bind fun e3 =>
   (if ((e3.length : Int) != (n.Stops.length : Int)) = true then some true else (idx f.Dead v1).bind fun e4 =>
   (idx e4 v1).bind fun e5 =>
   some (e5 != 0)).bind fun (v2 : Bool) =>
   if v2 = true then
    some (.dn (.ret false))
   else
    flb (iter (yagr f v1) (0 : Int)) fun (_ : Unit) =>
    some (.nx (w64 (v1 + 1)))
  else
   some (.dn (.go ()))
def zq50 (n : Network) (f : Fleet) : Option (Bool) :=
 (zq96 n).bind fun r =>
 (if (!r) = true then some true else if ((f.Dead.length : Int) != (n.Stops.length : Int)) = true then some true else (zq86 f.Turn 0 30).bind fun r1 =>
 some (!r1)).bind fun (v : Bool) =>
 if v = true then
  some false
 else
  flb (iter (yajx n f) (0 : Int)) fun (_ : Unit) =>
  some true
def zq45 (t : Timetable) (f : Fleet) : Option (Bool) :=
 (zq108 t).bind fun r =>
 (if r = true then (zq50 t.Network f).bind fun r1 =>
 some r1 else some false).bind fun (v : Bool) =>
 some v
def zq49 (t : Timetable) (f : Fleet) (a : Int) (b : Int) : Option (Int) :=
 (zq110 t a).bind fun r2 =>
 (zq110 t b).bind fun r3 =>
 (idx r2 (w64 ((r2.length : Int) - 1))).bind fun e4 =>
 (idx f.Dead e4).bind fun e5 =>
 (idx r3 0).bind fun e6 =>
 (idx e5 e6).bind fun e7 =>
 some e7
def zq51 (t : Timetable) (f : Fleet) (a : Int) (b : Int) : Option (Bool) :=
 (if (a != b) = true then (idx t.Trips b).bind fun e1 =>
 (zq106 t a).bind fun r2 =>
 (zq49 t f a b).bind fun r3 =>
 some (decide ((w64 ((w64 (r2 + f.Turn)) + r3)) ≤ e1.Start)) else some false).bind fun (v : Bool) =>
 some v
def zq87 (a : Int) (b : Int) : Option (Int) :=
 if (decide (a < b)) = true then
  some a
 else
  some b
def yajv (rec_ : l11Plan → Int → Int → Option (Int × (List (List Int)))) (x : l11Plan) (i : Int) (used : Int) : Int × Int × (List (List Int)) → Option (Lp (Int × Int × (List (List Int))) (Int × (List (List Int))))
 | (v, v1, v2) =>
  if (decide (v1 < (x.t_.Trips.length : Int))) = true then
   ((chk ((0 : Int) ≤ (IntKind.u64.wrap (v1)))).bind fun u1 =>
   (if ((IntKind.i64.wrap ((BitVec.ofInt (IntKind.i64).bits (used.fdiv (2 ^ (min ((IntKind.u64.wrap (v1)) : Int).toNat (IntKind.i64).bits))) &&& BitVec.ofInt (IntKind.i64).bits 1).toNat : Int)) == 0) = true then (zq51 x.t_ x.f_ v1 i).bind fun r2 =>
   some r2 else some false).bind fun (v5 : Bool) =>
   if v5 = true then
    (zq49 x.t_ x.f_ v1 i).bind fun r6 =>
    (chk ((0 : Int) ≤ (IntKind.u64.wrap (v1)))).bind fun u3 =>
    (rec_ (⟨x.t_, x.f_, v2⟩ : l11Plan) (w64 (i + 1)) (IntKind.i64.wrap ((BitVec.ofInt (IntKind.i64).bits used ||| BitVec.ofInt (IntKind.i64).bits (w64 (1 * 2 ^ (min ((IntKind.u64.wrap (v1)) : Int).toNat (IntKind.i64).bits)))).toNat : Int))).bind fun r7 =>
    (zq87 v (w64 (r6 + r7.1))).bind fun r8 =>
    some (r8, r7.2)
   else
    some (v, v2)).bind fun ((v3, v4) : Int × (List (List Int))) =>
   some (.nx (v3, (w64 (v1 + 1)), v4))
  else
   some (.dn (v, v2))
def yafj (rec_ : l11Plan → Int → Int → Option (Int × (List (List Int)))) (x : l11Plan) (i : Int) (used : Int) : Option (Int × (List (List Int))) :=
 if (i == (x.t_.Trips.length : Int)) = true then
  some (0, x.known_)
 else
  (idx x.known_ i).bind fun e =>
  (idx e used).bind fun e1 =>
  if (decide (0 ≤ e1)) = true then
   (idx x.known_ i).bind fun e2 =>
   (idx e used).bind fun e3 =>
   some (e3, x.known_)
  else
   (rec_ (⟨x.t_, x.f_, x.known_⟩ : l11Plan) (w64 (i + 1)) used).bind fun r =>
   (iter (yajv rec_ x i used) ((w64 (100000 + r.1)), (0 : Int), r.2)).bind fun ((v6, v7) : Int × (List (List Int))) =>
   (idx v7 i).bind fun e4 =>
   (idx e4 used).bind fun e5 =>
   some (v6, (v7.set i.toNat (e4.set used.toNat v6)))
def yaju : Nat → l11Plan → Int → Int → Option (Int × (List (List Int)))
 | 0 => fun _ _ _ => none
 | n + 1 => yafj (yaju n)
def zq53 (x : l11Plan) (i : Int) (used : Int) : Option (Int × (List (List Int))) := yaju 4294967296 x i used
def yakc : Int × (List Int) → Option (Lp (Int × (List Int)) ((List Int)))
 | (used, out) =>
  if (decide (used < (out.length : Int))) = true then
   (idx out used).bind fun e =>
   some (.nx ((w64 (used + 1)), (out.set used.toNat (-1))))
  else
   some (.dn out)
def yakb (t : Timetable) : Int × (List (List Int)) → Option (Lp (Int × (List (List Int))) ((List (List Int))))
 | (k, v) =>
  if (decide (k < (t.Trips.length : Int))) = true then
   (chk ((0 : Int) ≤ (IntKind.u64.wrap ((t.Trips.length : Int))))).bind fun u =>
   (chk ((0 : Int) ≤ (w64 (1 * 2 ^ (min ((IntKind.u64.wrap ((t.Trips.length : Int))) : Int).toNat (IntKind.i64).bits))) ∧ ((w64 (1 * 2 ^ (min ((IntKind.u64.wrap ((t.Trips.length : Int))) : Int).toNat (IntKind.i64).bits))) : Int) ≤ 4294967296)).bind fun u1 =>
   (iter (yakc) ((0 : Int), (List.replicate (w64 (1 * 2 ^ (min ((IntKind.u64.wrap ((t.Trips.length : Int))) : Int).toNat (IntKind.i64).bits))).toNat (0 : Int)))).bind fun (out1 : List Int) =>
   (chk (v.length + ([out1] : List (List Int)).length ≤ 4294967296)).bind fun u2 =>
   some (.nx ((w64 (k + 1)), (v ++ ([out1] : List (List Int)))))
  else
   some (.dn v)
def yaka (t : Timetable) (f : Fleet) (want : Int) (before : Int) (r : Int × (List (List Int))) : Int × Int × (List (List Int)) → Option (Lp (Int × Int × (List (List Int))) (Int × (List (List Int))))
 | (v5, v6, v7) =>
  (if (decide (v6 < (t.Trips.length : Int))) = true then some (decide (v5 < 0)) else some false).bind fun (v8 : Bool) =>
  if v8 = true then
   ((chk ((0 : Int) ≤ (IntKind.u64.wrap (v6)))).bind fun u3 =>
   (if ((IntKind.i64.wrap ((BitVec.ofInt (IntKind.i64).bits (want.fdiv (2 ^ (min ((IntKind.u64.wrap (v6)) : Int).toNat (IntKind.i64).bits))) &&& BitVec.ofInt (IntKind.i64).bits 1).toNat : Int)) == 0) = true then (zq51 t f v6 before).bind fun r2 =>
   if r2 = true then (zq49 t f v6 before).bind fun r3 =>
   (chk ((0 : Int) ≤ (IntKind.u64.wrap (v6)))).bind fun u4 =>
   (zq53 (⟨t, f, v7⟩ : l11Plan) (w64 (before + 1)) (IntKind.i64.wrap ((BitVec.ofInt (IntKind.i64).bits want ||| BitVec.ofInt (IntKind.i64).bits (w64 (1 * 2 ^ (min ((IntKind.u64.wrap (v6)) : Int).toNat (IntKind.i64).bits)))).toNat : Int))).bind fun r4 =>
   some (((w64 (r3 + r4.1)) == r.1), r4.2) else some (false, v7) else some (false, v7)).bind fun ((v11, v12) : Bool × (List (List Int))) =>
   if v11 = true then
    some (v6, v12)
   else
    some (v5, v12)).bind fun ((v9, v10) : Int × (List (List Int))) =>
   some (.nx (v9, (w64 (v6 + 1)), v10))
  else
   some (.dn (v5, v7))
def yajz (t : Timetable) (f : Fleet) : Int × Int × (List Int) × (List (List Int)) → Option (Lp (Int × Int × (List Int) × (List (List Int))) ((List Int)))
 | (want, before, i, v2) =>
  if (decide (before < (t.Trips.length : Int))) = true then
   (zq53 (⟨t, f, v2⟩ : l11Plan) before want).bind fun r =>
   ((zq53 (⟨t, f, r.2⟩ : l11Plan) (w64 (before + 1)) want).bind fun r1 =>
   if ((w64 (100000 + r1.1)) != r.1) = true then
    (iter (yaka t f want before r) (((-1) : Int), (0 : Int), r1.2)).bind fun ((v13, v14) : Int × (List (List Int))) =>
    (chk ((0 : Int) ≤ (IntKind.u64.wrap (v13)))).bind fun u5 =>
    some ((IntKind.i64.wrap ((BitVec.ofInt (IntKind.i64).bits want ||| BitVec.ofInt (IntKind.i64).bits (w64 (1 * 2 ^ (min ((IntKind.u64.wrap (v13)) : Int).toNat (IntKind.i64).bits)))).toNat : Int)), v13, v14)
   else
    some (want, ((-1) : Int), r1.2)).bind fun ((want1, v3, v4) : Int × Int × (List (List Int))) =>
   (chk (i.length + ([v3] : List Int).length ≤ 4294967296)).bind fun u6 =>
   some (.nx (want1, (w64 (before + 1)), (i ++ ([v3] : List Int)), v4))
  else
   some (.dn i)
def zq46 (t : Timetable) (f : Fleet) : Option ((List Int)) :=
 (iter (yakb t) ((0 : Int), ([] : List (List Int)))).bind fun (v1 : List (List Int)) =>
 (iter (yajz t f) ((0 : Int), (0 : Int), ([] : List Int), v1)).bind fun (i1 : List Int) =>
 some i1
def zq70 (c : l1Cur) (t : Timetable) : Option (Int × l1Cur) :=
 (if ((t.Trips.length : Int) == 0) = true then some (true, c.code_, c.at_, c.seed_.v) else (zq78 c 8).bind fun r =>
 some (r.1, r.2.code_, r.2.at_, r.2.seed_.v)).bind fun ((v, v1, v2, v3) : Bool × (List UInt8) × Int × Int) =>
 if v = true then
  (zq79 (⟨v1, v2, (⟨v3⟩ : IK .u64)⟩ : l1Cur) 30).bind fun r1 =>
  some (r1.1, r1.2)
 else
  (zq79 (⟨v1, v2, (⟨v3⟩ : IK .u64)⟩ : l1Cur) (t.Trips.length : Int)).bind fun r3 =>
  (idx t.Trips r3.1).bind fun e1 =>
  some (e1.Id, r3.2)
def yagu (before : List Int) (k : Int) : Int × Int → Option (Lp (Int × Int) (Int))
 | (v, v1) =>
  if (decide (v1 < (before.length : Int))) = true then
   ((idx before v1).bind fun e2 =>
   if (e2 == k) = true then
    some v1
   else
    some v).bind fun (v2 : Int) =>
   some (.nx (v2, (w64 (v1 + 1))))
  else
   some (.dn v)
def yagt (t : Timetable) (before : List Int) : Int × (List Int) → Option (Lp (Int × (List Int)) ((List Int)))
 | (k, next) =>
  if (decide (0 ≤ k)) = true then
   (idx t.Trips k).bind fun e1 =>
   (chk (next.length + ([e1.Id] : List Int).length ≤ 4294967296)).bind fun u =>
   (iter (yagu before k) (((-1) : Int), (0 : Int))).bind fun (v3 : Int) =>
   some (.nx (v3, (next ++ ([e1.Id] : List Int))))
  else
   some (.dn next)
def yajy (t : Timetable) (before : List Int) : Int × (List (List Int)) → Option (Lp (Int × (List (List Int))) ((List (List Int))))
 | (at_, block) =>
  if (decide (at_ < (before.length : Int))) = true then
   ((idx before at_).bind fun e =>
   if (decide (0 ≤ e)) = true then
    some block
   else
    (iter (yagt t before) (at_, ([] : List Int))).bind fun (next1 : List Int) =>
    (chk (block.length + ([next1] : List (List Int)).length ≤ 4294967296)).bind fun u1 =>
    some (block ++ ([next1] : List (List Int)))).bind fun (block1 : List (List Int)) =>
   some (.nx ((w64 (at_ + 1)), block1))
  else
   some (.dn block)
def zq48 (t : Timetable) (before : List Int) : Option ((List (List Int))) :=
 (iter (yajy t before) ((0 : Int), ([] : List (List Int)))).bind fun (block2 : List (List Int)) =>
 some block2
def zq81 (c : l1Cur) : Option (Timetable × Fleet × (List (List Int)) × l1Cur) :=
 (zq84 c).bind fun r =>
 (zq69 r.2 r.1.Network).bind fun r1 =>
 (zq45 (⟨r.1.Network, r.1.Trips⟩ : Timetable) r1.1).bind fun r2 =>
 (if (!r2) = true then some true else some (decide (9 < (r.1.Trips.length : Int)))).bind fun (v : Bool) =>
 if v = true then
  some ((⟨r.1.Network, r.1.Trips⟩ : Timetable), r1.1, ([] : List (List Int)), r1.2)
 else
  (zq46 (⟨r.1.Network, r.1.Trips⟩ : Timetable) r1.1).bind fun r5 =>
  (zq48 (⟨r.1.Network, r.1.Trips⟩ : Timetable) r5).bind fun r6 =>
  ((if (decide (0 < (r6.length : Int))) = true then (zq78 r1.2 8).bind fun r7 =>
  some (r7.1, r7.2.code_, r7.2.at_, r7.2.seed_.v) else some (false, r1.2.code_, r1.2.at_, r1.2.seed_.v)).bind fun ((v4, v5, v6, v7) : Bool × (List UInt8) × Int × Int) =>
  if v4 = true then
   (zq79 (⟨v5, v6, (⟨v7⟩ : IK .u64)⟩ : l1Cur) (r6.length : Int)).bind fun r8 =>
   (zq79 r8.2 3).bind fun r9 =>
   if (r9.1 == 0) = true then
    (idx r6 r8.1).bind fun e2 =>
    (zq70 r9.2 r.1).bind fun r11 =>
    (chk (e2.length + ([r11.1] : List Int).length ≤ 4294967296)).bind fun u1 =>
    (idx r6 r8.1).bind fun e3 =>
    some (r11.2.code_, r11.2.at_, r11.2.seed_.v, (r6.set r8.1.toNat (e2 ++ ([r11.1] : List Int))))
   else
    if (r9.1 == 1) = true then
     (idx r6 r8.1).bind fun e4 =>
     (chk ((0 : Int) ≤ 1 ∧ 1 ≤ (e4.length : Int))).bind fun u2 =>
     (idx r6 r8.1).bind fun e5 =>
     some (r9.2.code_, r9.2.at_, r9.2.seed_.v, (r6.set r8.1.toNat (e4.drop (1 : Int).toNat)))
    else
     (idx r6 r8.1).bind fun e6 =>
     (chk (r6.length + ([e6] : List (List Int)).length ≤ 4294967296)).bind fun u3 =>
     some (r9.2.code_, r9.2.at_, r9.2.seed_.v, (r6 ++ ([e6] : List (List Int))))
  else
   some (v5, v6, v7, r6)).bind fun ((v1, v2, v3, i) : (List UInt8) × Int × Int × (List (List Int))) =>
  some (r.1, r1.1, i, (⟨v1, v2, (⟨v3⟩ : IK .u64)⟩ : l1Cur))
def zq82 (c : l1Cur) : Option (Rules × l1Cur) :=
 (zq79 c 3).bind fun r =>
 (zq79 r.2 2).bind fun r1 =>
 (zq65 r1.2 ([40, 60, 90, 120, 300] : List Int)).bind fun r2 =>
 (zq65 r2.2 ([0, 5, 10, 20] : List Int)).bind fun r3 =>
 (zq65 r3.2 ([0, 10, 30] : List Int)).bind fun r4 =>
 (zq65 r4.2 ([90, 150, 240, 500] : List Int)).bind fun r5 =>
 ((zq79 r5.2 24).bind fun r6 =>
 if (r6.1 == 0) = true then
  (zq65 r6.2 ([(-1), 900, 901] : List Int)).bind fun r7 =>
  some (r7.2.code_, r7.2.at_, r7.2.seed_.v, r7.1, r2.1, r5.1)
 else
  if (r6.1 == 1) = true then
   (zq65 r6.2 ([(-1), 901, 0] : List Int)).bind fun r8 =>
   some (r8.2.code_, r8.2.at_, r8.2.seed_.v, (w64 (r.1 * 5)), r8.1, r5.1)
  else
   if (r6.1 == 2) = true then
    (zq65 r6.2 ([900, 901, 0] : List Int)).bind fun r9 =>
    some (r9.2.code_, r9.2.at_, r9.2.seed_.v, (w64 (r.1 * 5)), r2.1, r9.1)
   else
    some (r6.2.code_, r6.2.at_, r6.2.seed_.v, (w64 (r.1 * 5)), r2.1, r5.1)).bind fun ((v, v1, v2, v3, v4, v5) : (List UInt8) × Int × Int × Int × Int × Int) =>
 some ((⟨v3, (w64 (r1.1 * 5)), v4, r3.1, r4.1, v5⟩ : Rules), (⟨v, v1, (⟨v2⟩ : IK .u64)⟩ : l1Cur))
def zq43 (code : List UInt8) : Option (Timetable × Fleet × (List (List Int)) × Rules × Int) :=
 (zq81 (⟨code, 0, (⟨0⟩ : IK .u64)⟩ : l1Cur)).bind fun r =>
 (zq82 r.2.2.2).bind fun r3 =>
 (zq70 r3.2 r.1).bind fun r4 =>
 some (r.1, r.2.1, r.2.2.1, r3.1, r4.1)
def zq38 (n : Int) (lo : Int) (hi : Int) : Option (Bool) :=
 (if (decide (lo ≤ n)) = true then some (decide (n ≤ hi)) else some false).bind fun (v : Bool) =>
 some v
def yaev (s : ByteArray) : Int → Option (Lp (Int) (Fl (Bool) (Unit)))
 | v1 =>
  if (decide (v1 < (s.size : Int))) = true then
   (chk ((0 : Int) ≤ v1 ∧ v1 < (s.size : Int))).bind fun u =>
   (if (decide (97 ≤ ((s.data.toList.getD v1.toNat 0).toNat : Int))) = true then (chk ((0 : Int) ≤ v1 ∧ v1 < (s.size : Int))).bind fun u1 =>
   some (decide (((s.data.toList.getD v1.toNat 0).toNat : Int) ≤ 122)) else some false).bind fun (v2 : Bool) =>
   (if (!v2) = true then if (v1 == 0) = true then some true else (chk ((0 : Int) ≤ v1 ∧ v1 < (s.size : Int))).bind fun u2 =>
   if (decide (((s.data.toList.getD v1.toNat 0).toNat : Int) < 48)) = true then some true else (chk ((0 : Int) ≤ v1 ∧ v1 < (s.size : Int))).bind fun u3 =>
   some (decide (57 < ((s.data.toList.getD v1.toNat 0).toNat : Int))) else some false).bind fun (v3 : Bool) =>
   if v3 = true then
    some (.dn (.ret false))
   else
    some (.nx (w64 (v1 + 1)))
  else
   some (.dn (.go ()))
def zq23 (s : ByteArray) : Option (Bool) :=
 (if (decide ((s.size : Int) < 1)) = true then some true else some (decide (8 < (s.size : Int)))).bind fun (v : Bool) =>
 if v = true then
  some false
 else
  flb (iter (yaev s) (0 : Int)) fun (_ : Unit) =>
  some true
def yaeh (s : List ByteArray) (v : ByteArray) : Int → Option (Lp (Int) (Fl (Int) (Unit)))
 | v1 =>
  if (decide (v1 < (s.length : Int))) = true then
   (idx s v1).bind fun e =>
   if (v.toList == e.toList) = true then
    some (.dn (.ret v1))
   else
    some (.nx (w64 (v1 + 1)))
  else
   some (.dn (.go ()))
def zq117 (s : List ByteArray) (v : ByteArray) : Option (Int) :=
 flb (iter (yaeh s v) (0 : Int)) fun (_ : Unit) =>
 some (-1)
def yahj (names : List ByteArray) : Int → Option (Lp (Int) (Fl (Bool) (Unit)))
 | v =>
  if (decide (v < (names.length : Int))) = true then
   (idx names v).bind fun e =>
   (zq23 e).bind fun r =>
   (if (!r) = true then some true else (zq117 names e).bind fun r1 =>
   some (r1 != v)).bind fun (v1 : Bool) =>
   if v1 = true then
    some (.dn (.ret false))
   else
    some (.nx (w64 (v + 1)))
  else
   some (.dn (.go ()))
def zq12 (names : List ByteArray) : Option (Bool) :=
 flb (iter (yahj names) (0 : Int)) fun (_ : Unit) =>
 some true
def yagx (n : Network) : Int × (List ByteArray) → Option (Lp (Int × (List ByteArray)) ((List ByteArray)))
 | (v, i) =>
  if (decide (v < (n.Lines.length : Int))) = true then
   (idx n.Lines v).bind fun e =>
   (idx i v).bind fun e1 =>
   some (.nx ((w64 (v + 1)), (i.set v.toNat e.Name)))
  else
   some (.dn i)
def zq30 (n : Network) : Option ((List ByteArray)) :=
 (chk ((0 : Int) ≤ (n.Lines.length : Int) ∧ ((n.Lines.length : Int) : Int) ≤ 4294967296)).bind fun u =>
 (iter (yagx n) ((0 : Int), (List.replicate (n.Lines.length : Int).toNat (ByteArray.empty : ByteArray)))).bind fun (i1 : List ByteArray) =>
 some i1
def zq26 (n : Network) (stop : Int) : Option (Bool) :=
 (if (decide (0 ≤ stop)) = true then some (decide (stop < (n.Stops.length : Int))) else some false).bind fun (v : Bool) =>
 some v
def yaei (s : List Int) (v : Int) : Int → Option (Lp (Int) (Fl (Int) (Unit)))
 | v1 =>
  if (decide (v1 < (s.length : Int))) = true then
   (idx s v1).bind fun e =>
   if (v == e) = true then
    some (.dn (.ret v1))
   else
    some (.nx (w64 (v1 + 1)))
  else
   some (.dn (.go ()))
def zq116 (s : List Int) (v : Int) : Option (Int) :=
 flb (iter (yaei s v) (0 : Int)) fun (_ : Unit) =>
 some (-1)
def yagz (n : Network) (l : Line) : Int → Option (Lp (Int) (Fl (Bool) (Unit)))
 | v1 =>
  if (decide (v1 < (l.Stops.length : Int))) = true then
   (idx l.Stops v1).bind fun e =>
   (zq26 n e).bind fun r1 =>
   (if (!r1) = true then some true else (zq116 l.Stops e).bind fun r2 =>
   some (r2 != v1)).bind fun (v2 : Bool) =>
   if v2 = true then
    some (.dn (.ret false))
   else
    some (.nx (w64 (v1 + 1)))
  else
   some (.dn (.go ()))
def yagy (l : Line) : Int → Option (Lp (Int) (Fl (Bool) (Unit)))
 | v3 =>
  if (decide (v3 < (l.Runs.length : Int))) = true then
   (idx l.Runs v3).bind fun e2 =>
   (zq38 e2 1 60).bind fun r4 =>
   if (!r4) = true then
    some (.dn (.ret false))
   else
    some (.nx (w64 (v3 + 1)))
  else
   some (.dn (.go ()))
def zq27 (n : Network) (l : Line) : Option (Bool) :=
 (zq38 (l.Stops.length : Int) 2 6).bind fun r =>
 (if (!r) = true then some true else some ((l.Runs.length : Int) != (w64 ((l.Stops.length : Int) - 1)))).bind fun (v : Bool) =>
 if v = true then
  some false
 else
  flb (iter (yagz n l) (0 : Int)) fun (_ : Unit) =>
  flb (iter (yagy l) (0 : Int)) fun (_ : Unit) =>
  some true
def yanb (n : Network) : Int → Option (Lp (Int) (Fl (Bool) (Unit)))
 | v1 =>
  if (decide (v1 < (n.Lines.length : Int))) = true then
   (idx n.Lines v1).bind fun e =>
   (zq27 n e).bind fun r5 =>
   if (!r5) = true then
    some (.dn (.ret false))
   else
    some (.nx (w64 (v1 + 1)))
  else
   some (.dn (.go ()))
def zq6 (n : Network) : Option (Bool) :=
 (zq38 (n.Stops.length : Int) 2 8).bind fun r =>
 (if (!r) = true then some true else (zq38 (n.Lines.length : Int) 1 5).bind fun r1 =>
 if (!r1) = true then some true else (zq12 n.Stops).bind fun r2 =>
 if (!r2) = true then some true else (zq30 n).bind fun r3 =>
 (zq12 r3).bind fun r4 =>
 some (!r4)).bind fun (v : Bool) =>
 if v = true then
  some false
 else
  flb (iter (yanb n) (0 : Int)) fun (_ : Unit) =>
  some true
def zq22 (n : Network) (line : Int) : Option (Bool) :=
 (if (decide (0 ≤ line)) = true then some (decide (line < (n.Lines.length : Int))) else some false).bind fun (v : Bool) =>
 some v
def zq8 (t : Int) : Option (Bool) :=
 (zq38 t 0 1799).bind fun r =>
 some r
def yagv (list : List Int) : Int × Int → Option (Lp (Int × Int) (Int))
 | (v, v1) =>
  if (decide (v1 < (list.length : Int))) = true then
   (idx list v1).bind fun e =>
   some (.nx ((w64 (v + e)), (w64 (v1 + 1))))
  else
   some (.dn v)
def zq34 (list : List Int) : Option (Int) :=
 (iter (yagv list) ((0 : Int), (0 : Int))).bind fun (v2 : Int) =>
 some v2
def zq18 (t : Timetable) (x : Trip) : Option (Int) :=
 (idx t.Network.Lines x.Line).bind fun e1 =>
 (zq34 e1.Runs).bind fun r1 =>
 some (w64 (x.Start + r1))
def yaki (t : Timetable) : Int × Int → Option (Lp (Int × Int) (Fl (Bool) (Unit)))
 | (v, v1) =>
  if (decide (v1 < (t.Trips.length : Int))) = true then
   (idx t.Trips v1).bind fun e =>
   (if (decide (e.Id ≤ v)) = true then some true else if (decide (999 < e.Id)) = true then some true else (zq22 t.Network e.Line).bind fun r =>
   if (!r) = true then some true else (zq8 e.Start).bind fun r1 =>
   if (!r1) = true then some true else (zq18 t e).bind fun r2 =>
   (zq8 r2).bind fun r3 =>
   some (!r3)).bind fun (v2 : Bool) =>
   if v2 = true then
    some (.dn (.ret false))
   else
    some (.nx (e.Id, (w64 (v1 + 1))))
  else
   some (.dn (.go ()))
def zq14 (t : Timetable) : Option (Bool) :=
 if (decide (12 < (t.Trips.length : Int))) = true then
  some false
 else
  flb (iter (yaki t) ((0 : Int), (0 : Int))) fun (_ : Unit) =>
  some true
def zq9 (t : Timetable) : Option (Bool) :=
 (zq6 t.Network).bind fun r =>
 (if r = true then (zq14 t).bind fun r1 =>
 some r1 else some false).bind fun (v : Bool) =>
 some v
def yaha (e : List Int) : Int → Option (Lp (Int) (Fl (Lp (Int) (Fl (Bool) (Unit))) (Unit)))
 | v3 =>
  if (decide (v3 < (e.length : Int))) = true then
   (idx e v3).bind fun e3 =>
   (zq38 e3 0 120).bind fun r2 =>
   if (!r2) = true then
    some (.dn (.ret (.dn (.ret false))))
   else
    some (.nx (w64 (v3 + 1)))
  else
   some (.dn (.go ()))
def yakf (n : Network) (f : Fleet) : Int → Option (Lp (Int) (Fl (Bool) (Unit)))
 | v1 =>
  if (decide (v1 < (f.Dead.length : Int))) = true then
   (idx f.Dead v1).bind fun e =>
   (if ((e.length : Int) != (n.Stops.length : Int)) = true then some true else (idx e v1).bind fun e1 =>
   some (e1 != 0)).bind fun (v2 : Bool) =>
   if v2 = true then
    some (.dn (.ret false))
   else
    flb (iter (yaha e) (0 : Int)) fun (_ : Unit) =>
    some (.nx (w64 (v1 + 1)))
  else
   some (.dn (.go ()))
def zq21 (n : Network) (f : Fleet) : Option (Bool) :=
 (if ((f.Dead.length : Int) != (n.Stops.length : Int)) = true then some true else (zq38 f.Turn 0 30).bind fun r =>
 some (!r)).bind fun (v : Bool) =>
 if v = true then
  some false
 else
  flb (iter (yakf n f) (0 : Int)) fun (_ : Unit) =>
  some true
def zq25 (t : Timetable) (f : Fleet) : Option (Bool) :=
 (zq9 t).bind fun r =>
 (if r = true then (zq21 t.Network f).bind fun r1 =>
 some r1 else some false).bind fun (v : Bool) =>
 some v
def zq36 (x : Trip) (c1 : Int) : Option (Bool) :=
 some (x.Id == c1)
def yaej (s : List Trip) (f : Trip → Option (Bool)) : Int → Option (Lp (Int) (Fl (Int) (Unit)))
 | v =>
  if (decide (v < (s.length : Int))) = true then
   (idx s v).bind fun e =>
   (f e).bind fun r =>
   if r = true then
    some (.dn (.ret v))
   else
    some (.nx (w64 (v + 1)))
  else
   some (.dn (.go ()))
def zq114 (s : List Trip) (f : Trip → Option (Bool)) : Option (Int) :=
 flb (iter (yaej s f) (0 : Int)) fun (_ : Unit) =>
 some (-1)
def zq115 (s : List Trip) (c1 : Int) : Option (Int) :=
 zq114 s (fun (z0 : Trip) => zq36 z0 c1)
def zq35 (t : Timetable) (id : Int) : Option (Int) :=
 (zq115 t.Trips id).bind fun r =>
 some r
def zq37 (t : Timetable) (id : Int) : Option (Trip) :=
 (zq35 t id).bind fun r1 =>
 (idx t.Trips r1).bind fun e1 =>
 some e1
def zq31 (t : Timetable) (x : Trip) : Option (Line) :=
 (idx t.Network.Lines x.Line).bind fun e =>
 some e
def zq28 (t : Timetable) (x : Trip) : Option (Int) :=
 (zq31 t x).bind fun r =>
 (idx r.Stops (w64 ((r.Stops.length : Int) - 1))).bind fun e =>
 some e
def zq19 (t : Timetable) (x : Trip) : Option (Int) :=
 (zq31 t x).bind fun r =>
 (idx r.Stops 0).bind fun e =>
 some e
def zq17 (t : Timetable) (f : Fleet) (a : Trip) (b : Trip) : Option (Int) :=
 (zq28 t a).bind fun r2 =>
 (idx f.Dead r2).bind fun e2 =>
 (zq19 t b).bind fun r3 =>
 (idx e2 r3).bind fun e3 =>
 some e3
def zq16 (t : Timetable) (f : Fleet) (a : Trip) (b : Trip) : Option (Bool) :=
 (zq18 t a).bind fun r2 =>
 (zq17 t f a b).bind fun r3 =>
 some (decide ((w64 ((w64 (r2 + f.Turn)) + r3)) ≤ b.Start))
def yabx (t : Timetable) (f : Fleet) (e : List Int) : Int × Int × (List Bool) → Option (Lp (Int × Int × (List Bool)) (Fl (Lp (Int × Int × Int × (List Bool)) (Fl (Bool) (Int))) (Int × (List Bool))))
 | (block1, v3, v4) =>
  if (decide (v3 < (e.length : Int))) = true then
   (idx e v3).bind fun e4 =>
   (zq35 t e4).bind fun r1 =>
   (if (decide (r1 < 0)) = true then some true else (chk ((0 : Int) ≤ r1 ∧ r1 < 12)).bind fun u1 =>
   (idx v4 r1).bind fun e8 =>
   if e8 = true then some true else if (decide (0 < v3)) = true then (idx e (w64 (v3 - 1))).bind fun e9 =>
   (zq37 t e9).bind fun r4 =>
   (idx t.Trips r1).bind fun e10 =>
   (zq16 t f r4 e10).bind fun r5 =>
   some (!r5) else some false).bind fun (v5 : Bool) =>
   if v5 = true then
    some (.dn (.ret (.dn (.ret false))))
   else
    (chk ((0 : Int) ≤ r1 ∧ r1 < 12)).bind fun u2 =>
    (idx v4 r1).bind fun e13 =>
    some (.nx ((w64 (block1 + 1)), (w64 (v3 + 1)), (v4.set r1.toNat true)))
  else
   some (.dn (.go (block1, v4)))
def yabs (t : Timetable) (f : Fleet) (blocks : List (List Int)) : Int × Int × Int × (List Bool) → Option (Lp (Int × Int × Int × (List Bool)) (Fl (Bool) (Int)))
 | (block, k, v, v1) =>
  if (decide (v < (blocks.length : Int))) = true then
   (idx blocks v).bind fun e =>
   (if ((e.length : Int) == 0) = true then some true else (idx e 0).bind fun e1 =>
   some (decide (e1 ≤ k))).bind fun (v2 : Bool) =>
   if v2 = true then
    some (.dn (.ret false))
   else
    (idx e 0).bind fun e3 =>
    flb (iter (yabx t f e) (block, (0 : Int), v1)) fun ((block2, v6) : Int × (List Bool)) =>
    some (.nx (block2, e3, (w64 (v + 1)), v6))
  else
   some (.dn (.go block))
def zq11 (t : Timetable) (f : Fleet) (blocks : List (List Int)) : Option (Bool) :=
 flb (iter (yabs t f blocks) ((0 : Int), (0 : Int), (0 : Int), (List.replicate 12 (false : Bool)))) fun (block3 : Int) =>
 some (block3 == (t.Trips.length : Int))
def zq5 (t : Timetable) (f : Fleet) (blocks : List (List Int)) : Option (Bool) :=
 (zq25 t f).bind fun r =>
 (if r = true then (zq11 t f blocks).bind fun r1 =>
 some r1 else some false).bind fun (v : Bool) =>
 some v
def yase (r : Rules) : Int → Option (Lp (Int) (Fl (Bool) (Unit)))
 | v =>
  if (decide (v < 6)) = true then
   (chk ((0 : Int) ≤ v ∧ v < 6)).bind fun u =>
   (idx ([r.SignOn, r.SignOff, r.MaxDrive, r.MinBreak, r.PaidBreak, r.MaxLength] : List Int) v).bind fun e =>
   (zq38 e 0 900).bind fun r1 =>
   if (!r1) = true then
    some (.dn (.ret false))
   else
    some (.nx (w64 (v + 1)))
  else
   some (.dn (.go ()))
def zq7 (r : Rules) : Option (Bool) :=
 flb (iter (yase r) (0 : Int)) fun (_ : Unit) =>
 some true
def zq13 (t : Timetable) (f : Fleet) (blocks : List (List Int)) (r : Rules) : Option (Bool) :=
 (zq5 t f blocks).bind fun r1 =>
 (if r1 = true then (zq7 r).bind fun r2 =>
 some r2 else some false).bind fun (v : Bool) =>
 some v
def yadc (blocks : List (List Int)) (id : Int) : Int → Option (Lp (Int) (Fl (Int × Int) (Unit)))
 | v =>
  if (decide (v < (blocks.length : Int))) = true then
   (idx blocks v).bind fun e =>
   (zq116 e id).bind fun r =>
   if (decide (0 ≤ r)) = true then
    some (.dn (.ret (v, r)))
   else
    some (.nx (w64 (v + 1)))
  else
   some (.dn (.go ()))
def zq32 (blocks : List (List Int)) (id : Int) : Option (Int × Int) :=
 flb (iter (yadc blocks id) (0 : Int)) fun (_ : Unit) =>
 some ((-1), 0)
def zq111 (s : List Int) : Option ((List Int)) :=
 (chk (([] : List Int).length + s.length ≤ 4294967296)).bind fun u =>
 some s
def zq33 (t : Timetable) (ids : List Int) : Option (Span) :=
 (idx ids 0).bind fun e2 =>
 (zq37 t e2).bind fun r3 =>
 (idx ids (w64 ((ids.length : Int) - 1))).bind fun e3 =>
 (zq37 t e3).bind fun r4 =>
 (zq18 t r4).bind fun r5 =>
 some (⟨r3.Start, r5⟩ : Span)
def yadf (t : Timetable) (blocks : List (List Int)) (r : Rules) (r2 : Int × Int) : Int × (List (List Int)) → Option (Lp (Int × (List (List Int))) ((List (List Int))))
 | (v, v1) =>
  (idx blocks r2.1).bind fun e =>
  if (decide (v ≤ (e.length : Int))) = true then
   ((idx blocks r2.1).bind fun e1 =>
   (chk ((0 : Int) ≤ r2.2 ∧ r2.2 ≤ v ∧ v ≤ (e1.length : Int))).bind fun u =>
   (zq111 ((e1.take v.toNat).drop r2.2.toNat)).bind fun r3 =>
   (zq33 t r3).bind fun r4 =>
   if (decide ((w64 (r4.To - r4.From)) ≤ r.MaxDrive)) = true then
    (chk (v1.length + ([r3] : List (List Int)).length ≤ 4294967296)).bind fun u1 =>
    some (v1 ++ ([r3] : List (List Int)))
   else
    some v1).bind fun (v2 : List (List Int)) =>
   some (.nx ((w64 (v + 1)), v2))
  else
   some (.dn v1)
def zq10 (t : Timetable) (f : Fleet) (blocks : List (List Int)) (r : Rules) (id : Int) : Option ((List (List Int)) × Bool) :=
 (zq13 t f blocks r).bind fun r1 =>
 if (!r1) = true then
  some (([] : List (List Int)), false)
 else
  (zq32 blocks id).bind fun r2 =>
  if (decide (r2.1 < 0)) = true then
   some (([] : List (List Int)), false)
  else
   (iter (yadf t blocks r r2) ((w64 (r2.2 + 1)), ([] : List (List Int)))).bind fun (v3 : List (List Int)) =>
   some (v3, true)
def yagq (blocks : List (List Int)) (id : Int) (v : Int) : Int → Option (Lp (Int) (Fl (Lp (Int) (Fl (Int × Int) (Unit))) (Unit)))
 | v1 =>
  (idx blocks v).bind fun e =>
  if (decide (v1 < (e.length : Int))) = true then
   (idx blocks v).bind fun e1 =>
   (idx e1 v1).bind fun e2 =>
   if (e2 == id) = true then
    some (.dn (.ret (.dn (.ret (v, v1)))))
   else
    some (.nx (w64 (v1 + 1)))
  else
   some (.dn (.go ()))
def yagp (blocks : List (List Int)) (id : Int) : Int → Option (Lp (Int) (Fl (Int × Int) (Unit)))
 | v =>
  if (decide (v < (blocks.length : Int))) = true then
   flb (iter (yagq blocks id v) (0 : Int)) fun (_ : Unit) =>
   some (.nx (w64 (v + 1)))
  else
   some (.dn (.go ()))
def zq52 (blocks : List (List Int)) (id : Int) : Option (Int × Int) :=
 flb (iter (yagp blocks id) (0 : Int)) fun (_ : Unit) =>
 some ((-1), (-1))
def yael (t : Timetable) (id : Int) : Int → Option (Lp (Int) (Fl (Int) (Unit)))
 | v =>
  if (decide (v < (t.Trips.length : Int))) = true then
   (idx t.Trips v).bind fun e =>
   if (e.Id == id) = true then
    some (.dn (.ret v))
   else
    some (.nx (w64 (v + 1)))
  else
   some (.dn (.go ()))
def zq107 (t : Timetable) (id : Int) : Option (Int) :=
 flb (iter (yael t id) (0 : Int)) fun (_ : Unit) =>
 some (-1)
def yagg (l : List Int) (n : Int) : Int → Option (Lp (Int) (Fl (Bool) (Unit)))
 | v =>
  if (decide (v < (l.length : Int))) = true then
   (idx l v).bind fun e =>
   if (e == n) = true then
    some (.dn (.ret true))
   else
    some (.nx (w64 (v + 1)))
  else
   some (.dn (.go ()))
def zq85 (l : List Int) (n : Int) : Option (Bool) :=
 flb (iter (yagg l n) (0 : Int)) fun (_ : Unit) =>
 some false
def yabr (t : Timetable) (f : Fleet) (blocks : List (List Int)) (v : Int) : Int × (List Int) → Option (Lp (Int × (List Int)) (Fl (Lp (Int × (List Int)) (Fl (Bool) ((List Int)))) ((List Int))))
 | (v2, at_1) =>
  (idx blocks v).bind fun e11 =>
  if (decide (v2 < (e11.length : Int))) = true then
   (idx blocks v).bind fun e14 =>
   (idx e14 v2).bind fun e15 =>
   (zq107 t e15).bind fun r2 =>
   (if (decide (r2 < 0)) = true then some true else (zq85 at_1 r2).bind fun r6 =>
   if r6 = true then some true else if (decide (0 < v2)) = true then (idx blocks v).bind fun e18 =>
   (idx e18 (w64 (v2 - 1))).bind fun e19 =>
   (zq107 t e19).bind fun r7 =>
   (zq51 t f r7 r2).bind fun r8 =>
   some (!r8) else some false).bind fun (v3 : Bool) =>
   if v3 = true then
    some (.dn (.ret (.dn (.ret false))))
   else
    (chk (at_1.length + ([r2] : List Int).length ≤ 4294967296)).bind fun u =>
    some (.nx ((w64 (v2 + 1)), (at_1 ++ ([r2] : List Int))))
  else
   some (.dn (.go at_1))
def yabq (t : Timetable) (f : Fleet) (blocks : List (List Int)) : Int × (List Int) → Option (Lp (Int × (List Int)) (Fl (Bool) ((List Int))))
 | (v, at_) =>
  if (decide (v < (blocks.length : Int))) = true then
   (idx blocks v).bind fun e5 =>
   (if ((e5.length : Int) == 0) = true then some true else if (decide (0 < v)) = true then (idx blocks (w64 (v - 1))).bind fun e6 =>
   (idx e6 0).bind fun e7 =>
   (idx blocks v).bind fun e8 =>
   (idx e8 0).bind fun e9 =>
   some (decide (e9 ≤ e7)) else some false).bind fun (v1 : Bool) =>
   if v1 = true then
    some (.dn (.ret false))
   else
    flb (iter (yabr t f blocks v) ((0 : Int), at_)) fun (at_2 : List Int) =>
    some (.nx ((w64 (v + 1)), at_2))
  else
   some (.dn (.go at_))
def zq47 (t : Timetable) (f : Fleet) (blocks : List (List Int)) : Option (Bool) :=
 flb (iter (yabq t f blocks) ((0 : Int), ([] : List Int))) fun (at_3 : List Int) =>
 some ((at_3.length : Int) == (t.Trips.length : Int))
def zq55 (t : Timetable) (f : Fleet) (blocks : List (List Int)) : Option (Bool) :=
 (zq45 t f).bind fun r =>
 (if r = true then (zq47 t f blocks).bind fun r1 =>
 some r1 else some false).bind fun (v : Bool) =>
 some v
def zq60 (x : Int) : Option (Bool) :=
 (zq86 x 0 900).bind fun r =>
 some r
def zq63 (r : Rules) : Option (Bool) :=
 (zq60 r.SignOn).bind fun r1 =>
 (if r1 = true then (zq60 r.SignOff).bind fun r2 =>
 if r2 = true then (zq60 r.MaxDrive).bind fun r3 =>
 if r3 = true then (zq60 r.MinBreak).bind fun r4 =>
 if r4 = true then (zq60 r.PaidBreak).bind fun r5 =>
 if r5 = true then (zq60 r.MaxLength).bind fun r6 =>
 some r6 else some false else some false else some false else some false else some false).bind fun (v : Bool) =>
 some v
def zq54 (t : Timetable) (f : Fleet) (blocks : List (List Int)) (r : Rules) : Option (Bool) :=
 (zq55 t f blocks).bind fun r1 =>
 (if r1 = true then (zq63 r).bind fun r2 =>
 some r2 else some false).bind fun (v : Bool) =>
 some v
def zq57 (t : Timetable) (piece : List Int) : Option (Int) :=
 (idx piece (w64 ((piece.length : Int) - 1))).bind fun e1 =>
 (zq107 t e1).bind fun r2 =>
 (zq106 t r2).bind fun r3 =>
 some r3
def zq64 (t : Timetable) (piece : List Int) : Option (Int) :=
 (idx piece 0).bind fun e2 =>
 (zq107 t e2).bind fun r1 =>
 (idx t.Trips r1).bind fun e3 =>
 some e3.Start
def yada (t : Timetable) (blocks : List (List Int)) (r : Rules) (r1 : Int × Int) : Int × (List (List Int)) → Option (Lp (Int × (List (List Int))) ((List (List Int))))
 | (v1, v2) =>
  (idx blocks r1.1).bind fun e =>
  if (decide (v1 ≤ (e.length : Int))) = true then
   ((idx blocks r1.1).bind fun e1 =>
   (chk ((0 : Int) ≤ r1.2 ∧ r1.2 ≤ v1 ∧ v1 ≤ (e1.length : Int))).bind fun u =>
   (zq90 ((e1.take v1.toNat).drop r1.2.toNat)).bind fun r3 =>
   (zq57 t r3).bind fun r6 =>
   (zq64 t r3).bind fun r7 =>
   if (decide ((w64 (r6 - r7)) ≤ r.MaxDrive)) = true then
    (chk (v2.length + ([r3] : List (List Int)).length ≤ 4294967296)).bind fun u1 =>
    some (v2 ++ ([r3] : List (List Int)))
   else
    some v2).bind fun (v3 : List (List Int)) =>
   some (.nx ((w64 (v1 + 1)), v3))
  else
   some (.dn v2)
def zq44 (t : Timetable) (f : Fleet) (blocks : List (List Int)) (r : Rules) (id : Int) : Option ((List (List Int)) × Bool) :=
 (zq52 blocks id).bind fun r1 =>
 (zq54 t f blocks r).bind fun r2 =>
 (if (!r2) = true then some true else some (decide (r1.1 < 0))).bind fun (v : Bool) =>
 if v = true then
  some (([] : List (List Int)), false)
 else
  (iter (yada t blocks r r1) ((w64 (r1.2 + 1)), ([] : List (List Int)))).bind fun (v4 : List (List Int)) =>
  some (v4, true)
def yadm (a : List Int) (b : List Int) : Int → Option (Lp (Int) (Fl (Bool) (Unit)))
 | v =>
  if (decide (v < (a.length : Int))) = true then
   (idx a v).bind fun e2 =>
   (idx b v).bind fun e3 =>
   if (e2 != e3) = true then
    some (.dn (.ret false))
   else
    some (.nx (w64 (v + 1)))
  else
   some (.dn (.go ()))
def zq135 (a : List Int) (b : List Int) : Option (Bool) :=
 if ((a.length : Int) != (b.length : Int)) = true then
  some false
 else
  flb (iter (yadm a b) (0 : Int)) fun (_ : Unit) =>
  some true
def yadl (a : List (List Int)) (b : List (List Int)) : Int → Option (Lp (Int) (Fl (Bool) (Unit)))
 | v =>
  if (decide (v < (a.length : Int))) = true then
   (idx a v).bind fun e2 =>
   (idx b v).bind fun e3 =>
   (zq135 e2 e3).bind fun r1 =>
   if (!r1) = true then
    some (.dn (.ret false))
   else
    some (.nx (w64 (v + 1)))
  else
   some (.dn (.go ()))
def zq136 (a : List (List Int)) (b : List (List Int)) : Option (Bool) :=
 if ((a.length : Int) != (b.length : Int)) = true then
  some false
 else
  flb (iter (yadl a b) (0 : Int)) fun (_ : Unit) =>
  some true
def yacm (s1 : List Int) (s2 : List Int) : Int → Option (Lp (Int) (Fl (Bool) (Unit)))
 | v =>
  if (decide (v < (s1.length : Int))) = true then
   (idx s1 v).bind fun e2 =>
   (idx s2 v).bind fun e3 =>
   if (e2 != e3) = true then
    some (.dn (.ret false))
   else
    some (.nx (w64 (v + 1)))
  else
   some (.dn (.go ()))
def zq113 (s1 : List Int) (s2 : List Int) : Option (Bool) :=
 if ((s1.length : Int) != (s2.length : Int)) = true then
  some false
 else
  flb (iter (yacm s1 s2) (0 : Int)) fun (_ : Unit) =>
  some true
def zq24 (blocks : List (List Int)) (piece : List Int) : Option (Bool) :=
 if ((piece.length : Int) == 0) = true then
  some false
 else
  (idx piece 0).bind fun e =>
  (zq32 blocks e).bind fun r =>
  (if (decide (0 ≤ r.1)) = true then (idx blocks r.1).bind fun e1 =>
  if (decide ((w64 (r.2 + (piece.length : Int))) ≤ (e1.length : Int))) = true then (idx blocks r.1).bind fun e2 =>
  (chk ((0 : Int) ≤ r.2 ∧ r.2 ≤ (w64 (r.2 + (piece.length : Int))) ∧ (w64 (r.2 + (piece.length : Int))) ≤ (e2.length : Int))).bind fun u =>
  (zq113 ((e2.take (w64 (r.2 + (piece.length : Int))).toNat).drop r.2.toNat) piece).bind fun r1 =>
  some r1 else some false else some false).bind fun (k : Bool) =>
  some k
def zq4 (t : Timetable) (f : Fleet) (blocks : List (List Int)) (piece : List Int) : Option (Bool × Bool) :=
 (zq5 t f blocks).bind fun r =>
 if (!r) = true then
  some (false, false)
 else
  (zq24 blocks piece).bind fun r1 =>
  some (r1, true)
def zq80 (c : l1Cur) (blocks : List (List Int)) : Option ((List Int) × l1Cur) :=
 if ((blocks.length : Int) == 0) = true then
  some (([1] : List Int), c)
 else
  (zq79 c (blocks.length : Int)).bind fun r =>
  (idx blocks r.1).bind fun e =>
  if ((e.length : Int) == 0) = true then
   some (([] : List Int), r.2)
  else
   (zq79 r.2 (e.length : Int)).bind fun r1 =>
   (zq79 r1.2 (w64 ((e.length : Int) - r1.1))).bind fun r2 =>
   (chk ((0 : Int) ≤ r1.1 ∧ r1.1 ≤ (w64 ((w64 (r1.1 + 1)) + r2.1)) ∧ (w64 ((w64 (r1.1 + 1)) + r2.1)) ≤ (e.length : Int))).bind fun u =>
   (zq90 ((e.take (w64 ((w64 (r1.1 + 1)) + r2.1)).toNat).drop r1.1.toNat)).bind fun r3 =>
   ((zq78 r2.2 10).bind fun r4 =>
   if r4.1 = true then
    (zq79 r4.2 9).bind fun r5 =>
    (chk (r3.length + ([r5.1] : List Int).length ≤ 4294967296)).bind fun u1 =>
    some (r5.2.code_, r5.2.at_, r5.2.seed_.v, (r3 ++ ([r5.1] : List Int)))
   else
    some (r4.2.code_, r4.2.at_, r4.2.seed_.v, r3)).bind fun ((v, v1, v2, v3) : (List UInt8) × Int × Int × (List Int)) =>
   some (v3, (⟨v, v1, (⟨v2⟩ : IK .u64)⟩ : l1Cur))
def zq42 (code : List UInt8) : Option (Timetable × Fleet × (List (List Int)) × Rules × (List Int) × (List Int)) :=
 (zq81 (⟨code, 0, (⟨0⟩ : IK .u64)⟩ : l1Cur)).bind fun r =>
 (zq82 r.2.2.2).bind fun r4 =>
 (zq80 r4.2 r.2.2.1).bind fun r5 =>
 (zq80 r5.2 r.2.2.1).bind fun r6 =>
 some (r.1, r.2.1, r.2.2.1, r4.1, r5.1, r6.1)
def zq40 (x : IK .u64) : Option (Int) :=
 (if (decide (4294967296 ≤ x.v)) = true then
  (chk ((0 : Int) ≤ 32)).bind fun u =>
  some ((x.v.fdiv (2 ^ (min (32 : Int).toNat (IntKind.u64).bits))), (32 : Int))
 else
  some (x.v, (0 : Int))).bind fun ((x1, v) : Int × Int) =>
 (if (decide (65536 ≤ x1)) = true then
  (chk ((0 : Int) ≤ 16)).bind fun u1 =>
  some ((x1.fdiv (2 ^ (min (16 : Int).toNat (IntKind.u64).bits))), (w64 (v + 16)))
 else
  some (x1, v)).bind fun ((x2, v1) : Int × Int) =>
 (if (decide (256 ≤ x2)) = true then
  (chk ((0 : Int) ≤ 8)).bind fun u2 =>
  some ((x2.fdiv (2 ^ (min (8 : Int).toNat (IntKind.u64).bits))), (w64 (v1 + 8)))
 else
  some (x2, v1)).bind fun ((x3, v2) : Int × Int) =>
 (chk ((0 : Int) ≤ (IntKind.u8.wrap (x3)) ∧ (IntKind.u8.wrap (x3)) < ((str [0, 1, 2, 2, 3, 3, 3, 3, 4, 4, 4, 4, 4, 4, 4, 4, 5, 5, 5, 5, 5, 5, 5, 5, 5, 5, 5, 5, 5, 5, 5, 5, 6, 6, 6, 6, 6, 6, 6, 6, 6, 6, 6, 6, 6, 6, 6, 6, 6, 6, 6, 6, 6, 6, 6, 6, 6, 6, 6, 6, 6, 6, 6, 6, 7, 7, 7, 7, 7, 7, 7, 7, 7, 7, 7, 7, 7, 7, 7, 7, 7, 7, 7, 7, 7, 7, 7, 7, 7, 7, 7, 7, 7, 7, 7, 7, 7, 7, 7, 7, 7, 7, 7, 7, 7, 7, 7, 7, 7, 7, 7, 7, 7, 7, 7, 7, 7, 7, 7, 7, 7, 7, 7, 7, 7, 7, 7, 7, 8, 8, 8, 8, 8, 8, 8, 8, 8, 8, 8, 8, 8, 8, 8, 8, 8, 8, 8, 8, 8, 8, 8, 8, 8, 8, 8, 8, 8, 8, 8, 8, 8, 8, 8, 8, 8, 8, 8, 8, 8, 8, 8, 8, 8, 8, 8, 8, 8, 8, 8, 8, 8, 8, 8, 8, 8, 8, 8, 8, 8, 8, 8, 8, 8, 8, 8, 8, 8, 8, 8, 8, 8, 8, 8, 8, 8, 8, 8, 8, 8, 8, 8, 8, 8, 8, 8, 8, 8, 8, 8, 8, 8, 8, 8, 8, 8, 8, 8, 8, 8, 8, 8, 8, 8, 8, 8, 8, 8, 8, 8, 8, 8, 8, 8, 8, 8, 8, 8, 8, 8, 8, 8, 8, 8, 8, 8, 8]).size : Int))).bind fun u3 =>
 some (w64 (v2 + (w64 ((((str [0, 1, 2, 2, 3, 3, 3, 3, 4, 4, 4, 4, 4, 4, 4, 4, 5, 5, 5, 5, 5, 5, 5, 5, 5, 5, 5, 5, 5, 5, 5, 5, 6, 6, 6, 6, 6, 6, 6, 6, 6, 6, 6, 6, 6, 6, 6, 6, 6, 6, 6, 6, 6, 6, 6, 6, 6, 6, 6, 6, 6, 6, 6, 6, 7, 7, 7, 7, 7, 7, 7, 7, 7, 7, 7, 7, 7, 7, 7, 7, 7, 7, 7, 7, 7, 7, 7, 7, 7, 7, 7, 7, 7, 7, 7, 7, 7, 7, 7, 7, 7, 7, 7, 7, 7, 7, 7, 7, 7, 7, 7, 7, 7, 7, 7, 7, 7, 7, 7, 7, 7, 7, 7, 7, 7, 7, 7, 7, 8, 8, 8, 8, 8, 8, 8, 8, 8, 8, 8, 8, 8, 8, 8, 8, 8, 8, 8, 8, 8, 8, 8, 8, 8, 8, 8, 8, 8, 8, 8, 8, 8, 8, 8, 8, 8, 8, 8, 8, 8, 8, 8, 8, 8, 8, 8, 8, 8, 8, 8, 8, 8, 8, 8, 8, 8, 8, 8, 8, 8, 8, 8, 8, 8, 8, 8, 8, 8, 8, 8, 8, 8, 8, 8, 8, 8, 8, 8, 8, 8, 8, 8, 8, 8, 8, 8, 8, 8, 8, 8, 8, 8, 8, 8, 8, 8, 8, 8, 8, 8, 8, 8, 8, 8, 8, 8, 8, 8, 8, 8, 8, 8, 8, 8, 8, 8, 8, 8, 8, 8, 8, 8, 8, 8, 8, 8, 8]).data.toList.getD (IntKind.u8.wrap (x3)).toNat 0).toNat : Int)))))
def zq39 (x : IK .u64) : Option (Int) :=
 (zq40 x).bind fun r =>
 some r
def zq1 (x : Int) : Option (Bool) :=
 some (x != x)
def zq0 (x : Int) (y_ : Int) : Option (Bool) :=
 (zq1 x).bind fun r =>
 (if r = true then (zq1 y_).bind fun r1 =>
 if (!r1) = true then some true else some (decide (x < y_)) else some (decide (x < y_))).bind fun (v : Bool) =>
 some v
def yaed (a : Int) : Int × (List Int) → Option (Lp (Int × (List Int)) ((List Int)))
 | (v1, data2) =>
  (if (decide (a < v1)) = true then (idx data2 v1).bind fun e2 =>
  (idx data2 (w64 (v1 - 1))).bind fun e3 =>
  (zq0 e2 e3).bind fun r1 =>
  some r1 else some false).bind fun (v2 : Bool) =>
  if v2 = true then
   (idx data2 (w64 (v1 - 1))).bind fun e8 =>
   (idx data2 v1).bind fun e9 =>
   (idx data2 v1).bind fun e10 =>
   (idx (data2.set v1.toNat e8) (w64 (v1 - 1))).bind fun e11 =>
   some (.nx ((w64 (v1 - 1)), ((data2.set v1.toNat e8).set (w64 (v1 - 1)).toNat e9)))
  else
   some (.dn data2)
def yaec (a : Int) (b : Int) : Int × (List Int) → Option (Lp (Int × (List Int)) ((List Int)))
 | (v, data1) =>
  if (decide (v < b)) = true then
   (iter (yaed a) (v, data1)).bind fun (data3 : List Int) =>
   some (.nx ((w64 (v + 1)), data3))
  else
   some (.dn data1)
def zq122 (data : List Int) (a : Int) (b : Int) : Option ((List Int)) :=
 iter (yaec a b) ((w64 (a + 1)), data)
def yadn (hi : Int) (first : Int) : Int × (List Int) → Option (Lp (Int × (List Int)) ((List Int)))
 | (v, data1) =>
  if (decide (hi ≤ (w64 ((w64 (2 * v)) + 1)))) = true then
   some (.dn data1)
  else
   ((if (decide ((w64 ((w64 ((w64 (2 * v)) + 1)) + 1)) < hi)) = true then (idx data1 (w64 (first + (w64 ((w64 (2 * v)) + 1))))).bind fun e3 =>
   (idx data1 (w64 ((w64 (first + (w64 ((w64 (2 * v)) + 1)))) + 1))).bind fun e4 =>
   (zq0 e3 e4).bind fun r2 =>
   some r2 else some false).bind fun (v2 : Bool) =>
   if v2 = true then
    some (w64 ((w64 ((w64 (2 * v)) + 1)) + 1))
   else
    some (w64 ((w64 (2 * v)) + 1))).bind fun (v1 : Int) =>
   (idx data1 (w64 (first + v))).bind fun e7 =>
   (idx data1 (w64 (first + v1))).bind fun e8 =>
   (zq0 e7 e8).bind fun r4 =>
   if (!r4) = true then
    some (.dn data1)
   else
    (idx data1 (w64 (first + v1))).bind fun e14 =>
    (idx data1 (w64 (first + v))).bind fun e15 =>
    (idx data1 (w64 (first + v))).bind fun e16 =>
    (idx (data1.set (w64 (first + v)).toNat e14) (w64 (first + v1))).bind fun e17 =>
    some (.nx (v1, ((data1.set (w64 (first + v)).toNat e14).set (w64 (first + v1)).toNat e15)))
def zq132 (data : List Int) (lo : Int) (hi : Int) (first : Int) : Option ((List Int)) :=
 iter (yadn hi first) (lo, data)
def yaef (a : Int) (b : Int) : Int × (List Int) → Option (Lp (Int × (List Int)) ((List Int)))
 | (v, data1) =>
  if (decide (0 ≤ v)) = true then
   (zq132 data1 v (w64 (b - a)) a).bind fun r =>
   some (.nx ((w64 (v - 1)), r))
  else
   some (.dn data1)
def yaee (a : Int) : Int × (List Int) → Option (Lp (Int × (List Int)) ((List Int)))
 | (v1, data3) =>
  if (decide (0 ≤ v1)) = true then
   (idx data3 (w64 (a + v1))).bind fun e4 =>
   (idx data3 a).bind fun e5 =>
   (idx data3 a).bind fun e6 =>
   (idx (data3.set a.toNat e4) (w64 (a + v1))).bind fun e7 =>
   (zq132 ((data3.set a.toNat e4).set (w64 (a + v1)).toNat e5) 0 v1 a).bind fun r1 =>
   some (.nx ((w64 (v1 - 1)), r1))
  else
   some (.dn data3)
def zq121 (data : List Int) (a : Int) (b : Int) : Option ((List Int)) :=
 (chk ((2 : Int) ≠ 0)).bind fun u =>
 (iter (yaef a b) ((w64 ((w64 ((w64 (b - a)) - 1)).tdiv 2)), data)).bind fun (data2 : List Int) =>
 iter (yaee a) ((w64 ((w64 (b - a)) - 1)), data2)
def zq126 (data : List Int) (a : Int) (b : Int) (swaps : Int) : Option (Int × Int × Int) :=
 (idx data b).bind fun e2 =>
 (idx data a).bind fun e3 =>
 (zq0 e2 e3).bind fun r1 =>
 if r1 = true then
  some (b, a, (w64 (swaps + 1)))
 else
  some (a, b, swaps)
def zq124 (data : List Int) (a : Int) (b : Int) (c : Int) (swaps : Int) : Option (Int × Int) :=
 (zq126 data a b swaps).bind fun r =>
 (zq126 data r.2.1 c r.2.2).bind fun r1 =>
 (zq126 data r.1 r1.1 r1.2.2).bind fun r2 =>
 some (r2.2.1, r2.2.2)
def zq123 (data : List Int) (a : Int) (swaps : Int) : Option (Int × Int) :=
 (zq124 data (w64 (a - 1)) a (w64 (a + 1)) swaps).bind fun r =>
 some (r.1, r.2)
def zq120 (data : List Int) (a : Int) (b : Int) : Option (Int × Int) :=
 (chk ((4 : Int) ≠ 0)).bind fun u =>
 (chk ((4 : Int) ≠ 0)).bind fun u1 =>
 (chk ((4 : Int) ≠ 0)).bind fun u2 =>
 (if (decide (8 ≤ (w64 (b - a)))) = true then
  (if (decide (50 ≤ (w64 (b - a)))) = true then
   (zq123 data (w64 (a + (w64 ((w64 ((w64 (b - a)).tdiv 4)) * 1)))) 0).bind fun r =>
   (zq123 data (w64 (a + (w64 ((w64 ((w64 (b - a)).tdiv 4)) * 2)))) r.2).bind fun r1 =>
   (zq123 data (w64 (a + (w64 ((w64 ((w64 (b - a)).tdiv 4)) * 3)))) r1.2).bind fun r2 =>
   some (r.1, r1.1, r2.1, r2.2)
  else
   some ((w64 (a + (w64 ((w64 ((w64 (b - a)).tdiv 4)) * 1)))), (w64 (a + (w64 ((w64 ((w64 (b - a)).tdiv 4)) * 2)))), (w64 (a + (w64 ((w64 ((w64 (b - a)).tdiv 4)) * 3)))), (0 : Int))).bind fun ((v2, v3, v4, v5) : Int × Int × Int × Int) =>
  (zq124 data v2 v3 v4 v5).bind fun r3 =>
  some (r3.1, r3.2)
 else
  some ((w64 (a + (w64 ((w64 ((w64 (b - a)).tdiv 4)) * 2)))), (0 : Int))).bind fun ((v, v1) : Int × Int) =>
 if (v1 == 0) = true then
  some (v, 1)
 else
  if (v1 == 12) = true then
   some (v, 2)
  else
   some (v, 0)
def yado : Int × Int × (List Int) → Option (Lp (Int × Int × (List Int)) ((List Int)))
 | (v, v1, data1) =>
  if (decide (v < v1)) = true then
   (idx data1 v1).bind fun e4 =>
   (idx data1 v).bind fun e5 =>
   (idx data1 v).bind fun e6 =>
   (idx (data1.set v.toNat e4) v1).bind fun e7 =>
   some (.nx ((w64 (v + 1)), (w64 (v1 - 1)), ((data1.set v.toNat e4).set v1.toNat e5)))
  else
   some (.dn data1)
def zq131 (data : List Int) (a : Int) (b : Int) : Option ((List Int)) :=
 iter (yado) (a, (w64 (b - 1)), data)
def yaeb (b : Int) (data1 : List Int) : Int → Option (Lp (Int) (Int))
 | j2 =>
  (if (decide (j2 < b)) = true then (idx data1 j2).bind fun e2 =>
  (idx data1 (w64 (j2 - 1))).bind fun e3 =>
  (zq0 e2 e3).bind fun r1 =>
  some (!r1) else some false).bind fun (v1 : Bool) =>
  if v1 = true then
   some (.nx (w64 (j2 + 1)))
  else
   some (.dn j2)
def yaea : Int × (List Int) → Option (Lp (Int × (List Int)) ((List Int)))
 | (v2, data4) =>
  if (decide (1 ≤ v2)) = true then
   (idx data4 v2).bind fun e18 =>
   (idx data4 (w64 (v2 - 1))).bind fun e19 =>
   (zq0 e18 e19).bind fun r7 =>
   if (!r7) = true then
    some (.dn data4)
   else
    (idx data4 (w64 (v2 - 1))).bind fun e24 =>
    (idx data4 v2).bind fun e25 =>
    (idx data4 v2).bind fun e26 =>
    (idx (data4.set v2.toNat e24) (w64 (v2 - 1))).bind fun e27 =>
    some (.nx ((w64 (v2 - 1)), ((data4.set v2.toNat e24).set (w64 (v2 - 1)).toNat e25)))
  else
   some (.dn data4)
def yadz (b : Int) : Int × (List Int) → Option (Lp (Int × (List Int)) ((List Int)))
 | (v3, data6) =>
  if (decide (v3 < b)) = true then
   (idx data6 v3).bind fun e30 =>
   (idx data6 (w64 (v3 - 1))).bind fun e31 =>
   (zq0 e30 e31).bind fun r9 =>
   if (!r9) = true then
    some (.dn data6)
   else
    (idx data6 (w64 (v3 - 1))).bind fun e36 =>
    (idx data6 v3).bind fun e37 =>
    (idx data6 v3).bind fun e38 =>
    (idx (data6.set v3.toNat e36) (w64 (v3 - 1))).bind fun e39 =>
    some (.nx ((w64 (v3 + 1)), ((data6.set v3.toNat e36).set (w64 (v3 - 1)).toNat e37)))
  else
   some (.dn data6)
def yady (a : Int) (b : Int) : Int × Int × (List Int) → Option (Lp (Int × Int × (List Int)) (Fl (Bool × (List Int)) ((List Int))))
 | (j, v, data1) =>
  if (decide (v < 5)) = true then
   flb ((iter (yaeb b data1) j).bind fun (j3 : Int) =>
   if (j3 == b) = true then
    some (.ret (.dn (.ret (true, data1))))
   else
    if (decide ((w64 (b - a)) < 50)) = true then
     some (.ret (.dn (.ret (false, data1))))
    else
     (idx data1 (w64 (j3 - 1))).bind fun e12 =>
     (idx data1 j3).bind fun e13 =>
     (idx data1 j3).bind fun e14 =>
     (idx (data1.set j3.toNat e12) (w64 (j3 - 1))).bind fun e15 =>
     (if (decide (2 ≤ (w64 (j3 - a)))) = true then
      (iter (yaea) ((w64 (j3 - 1)), ((data1.set j3.toNat e12).set (w64 (j3 - 1)).toNat e13))).bind fun (data5 : List Int) =>
      some data5
     else
      some ((data1.set j3.toNat e12).set (w64 (j3 - 1)).toNat e13)).bind fun (data3 : List Int) =>
     if (decide (2 ≤ (w64 (b - j3)))) = true then
      (iter (yadz b) ((w64 (j3 + 1)), data3)).bind fun (data7 : List Int) =>
      some (.go (j3, data7))
     else
      some (.go (j3, data3))) fun ((j1, data2) : Int × (List Int)) =>
   some (.nx (j1, (w64 (v + 1)), data2))
  else
   some (.dn (.go data1))
def zq127 (data : List Int) (a : Int) (b : Int) : Option (Bool × (List Int)) :=
 flb (iter (yady a b) ((w64 (a + 1)), (0 : Int), data)) fun (data8 : List Int) =>
 some (false, data8)
def yadx (a : Int) (v1 : Int) (data1 : List Int) : Int → Option (Lp (Int) (Int))
 | v2 =>
  (if (decide (v2 ≤ v1)) = true then (idx data1 a).bind fun e10 =>
  (idx data1 v2).bind fun e11 =>
  (zq0 e10 e11).bind fun r1 =>
  some (!r1) else some false).bind fun (v3 : Bool) =>
  if v3 = true then
   some (.nx (w64 (v2 + 1)))
  else
   some (.dn v2)
def yadw (a : Int) (data1 : List Int) (v4 : Int) : Int → Option (Lp (Int) (Int))
 | v5 =>
  (if (decide (v4 ≤ v5)) = true then (idx data1 a).bind fun e14 =>
  (idx data1 v5).bind fun e15 =>
  (zq0 e14 e15).bind fun r3 =>
  some r3 else some false).bind fun (v6 : Bool) =>
  if v6 = true then
   some (.nx (w64 (v5 - 1)))
  else
   some (.dn v5)
def yadv (a : Int) : Int × Int × (List Int) → Option (Lp (Int × Int × (List Int)) (Int × (List Int)))
 | (v, v1, data1) =>
  (iter (yadx a v1 data1) v).bind fun (v4 : Int) =>
  (iter (yadw a data1 v4) v1).bind fun (v7 : Int) =>
  if (decide (v7 < v4)) = true then
   some (.dn (v4, data1))
  else
   (idx data1 v7).bind fun e20 =>
   (idx data1 v4).bind fun e21 =>
   (idx data1 v4).bind fun e22 =>
   (idx (data1.set v4.toNat e20) v7).bind fun e23 =>
   some (.nx ((w64 (v4 + 1)), (w64 (v7 - 1)), ((data1.set v4.toNat e20).set v7.toNat e21)))
def zq128 (data : List Int) (a : Int) (b : Int) (pivot : Int) : Option (Int × (List Int)) :=
 (idx data pivot).bind fun e4 =>
 (idx data a).bind fun e5 =>
 (idx data a).bind fun e6 =>
 (idx (data.set a.toNat e4) pivot).bind fun e7 =>
 (iter (yadv a) ((w64 (a + 1)), (w64 (b - 1)), ((data.set a.toNat e4).set pivot.toNat e5))).bind fun ((v8, data2) : Int × (List Int)) =>
 some (v8, data2)
def yadu (data : List Int) (a : Int) (b : Int) (pivot : Int) (e4 : Int) (e5 : Int) : Int → Option (Lp (Int) (Int))
 | v =>
  (if (decide (v ≤ (w64 (b - 1)))) = true then (idx ((data.set a.toNat e4).set pivot.toNat e5) v).bind fun e10 =>
  (idx ((data.set a.toNat e4).set pivot.toNat e5) a).bind fun e11 =>
  (zq0 e10 e11).bind fun r1 =>
  some r1 else some false).bind fun (v1 : Bool) =>
  if v1 = true then
   some (.nx (w64 (v + 1)))
  else
   some (.dn v)
def yadt (data : List Int) (a : Int) (pivot : Int) (e4 : Int) (e5 : Int) (v2 : Int) : Int → Option (Lp (Int) (Int))
 | v3 =>
  (if (decide (v2 ≤ v3)) = true then (idx ((data.set a.toNat e4).set pivot.toNat e5) v3).bind fun e14 =>
  (idx ((data.set a.toNat e4).set pivot.toNat e5) a).bind fun e15 =>
  (zq0 e14 e15).bind fun r3 =>
  some (!r3) else some false).bind fun (v4 : Bool) =>
  if v4 = true then
   some (.nx (w64 (v3 - 1)))
  else
   some (.dn v3)
def yads (a : Int) (v7 : Int) (data1 : List Int) : Int → Option (Lp (Int) (Int))
 | v8 =>
  (if (decide (v8 ≤ v7)) = true then (idx data1 v8).bind fun e34 =>
  (idx data1 a).bind fun e35 =>
  (zq0 e34 e35).bind fun r5 =>
  some r5 else some false).bind fun (v9 : Bool) =>
  if v9 = true then
   some (.nx (w64 (v8 + 1)))
  else
   some (.dn v8)
def yadr (a : Int) (data1 : List Int) (v10 : Int) : Int → Option (Lp (Int) (Int))
 | v11 =>
  (if (decide (v10 ≤ v11)) = true then (idx data1 v11).bind fun e38 =>
  (idx data1 a).bind fun e39 =>
  (zq0 e38 e39).bind fun r7 =>
  some (!r7) else some false).bind fun (v12 : Bool) =>
  if v12 = true then
   some (.nx (w64 (v11 - 1)))
  else
   some (.dn v11)
def yadq (a : Int) : Int × Int × (List Int) → Option (Lp (Int × Int × (List Int)) (Int × (List Int)))
 | (v6, v7, data1) =>
  (iter (yads a v7 data1) v6).bind fun (v10 : Int) =>
  (iter (yadr a data1 v10) v7).bind fun (v13 : Int) =>
  if (decide (v13 < v10)) = true then
   some (.dn (v13, data1))
  else
   (idx data1 v13).bind fun e44 =>
   (idx data1 v10).bind fun e45 =>
   (idx data1 v10).bind fun e46 =>
   (idx (data1.set v10.toNat e44) v13).bind fun e47 =>
   some (.nx ((w64 (v10 + 1)), (w64 (v13 - 1)), ((data1.set v10.toNat e44).set v13.toNat e45)))
def zq129 (data : List Int) (a : Int) (b : Int) (pivot : Int) : Option (Int × Bool × (List Int)) :=
 (idx data pivot).bind fun e4 =>
 (idx data a).bind fun e5 =>
 (idx data a).bind fun e6 =>
 (idx (data.set a.toNat e4) pivot).bind fun e7 =>
 (iter (yadu data a b pivot e4 e5) (w64 (a + 1))).bind fun (v2 : Int) =>
 (iter (yadt data a pivot e4 e5 v2) (w64 (b - 1))).bind fun (v5 : Int) =>
 if (decide (v5 < v2)) = true then
  (idx ((data.set a.toNat e4).set pivot.toNat e5) a).bind fun e20 =>
  (idx ((data.set a.toNat e4).set pivot.toNat e5) v5).bind fun e21 =>
  (idx ((data.set a.toNat e4).set pivot.toNat e5) v5).bind fun e22 =>
  (idx (((data.set a.toNat e4).set pivot.toNat e5).set v5.toNat e20) a).bind fun e23 =>
  some (v5, true, ((((data.set a.toNat e4).set pivot.toNat e5).set v5.toNat e20).set a.toNat e21))
 else
  (idx ((data.set a.toNat e4).set pivot.toNat e5) v5).bind fun e28 =>
  (idx ((data.set a.toNat e4).set pivot.toNat e5) v2).bind fun e29 =>
  (idx ((data.set a.toNat e4).set pivot.toNat e5) v2).bind fun e30 =>
  (idx (((data.set a.toNat e4).set pivot.toNat e5).set v2.toNat e28) v5).bind fun e31 =>
  (iter (yadq a) ((w64 (v2 + 1)), (w64 (v5 - 1)), ((((data.set a.toNat e4).set pivot.toNat e5).set v2.toNat e28).set v5.toNat e29))).bind fun ((v14, data2) : Int × (List Int)) =>
  (idx data2 a).bind fun e52 =>
  (idx data2 v14).bind fun e53 =>
  (idx data2 v14).bind fun e54 =>
  (idx (data2.set v14.toNat e52) a).bind fun e55 =>
  some (v14, false, ((data2.set v14.toNat e52).set a.toNat e53))
def zq125 (length : Int) : Option ((IK .u64)) :=
 (zq39 (⟨(IntKind.u64.wrap (length))⟩ : IK .u64)).bind fun r =>
 (chk ((0 : Int) ≤ r)).bind fun u =>
 some (⟨(IntKind.u64.wrap (1 * 2 ^ (min (r : Int).toNat (IntKind.u64).bits)))⟩ : IK .u64)
def zq133 (r : IK .u64) : Option ((IK .u64) × (IK .u64)) :=
 (chk ((0 : Int) ≤ 13)).bind fun u1 =>
 (chk ((0 : Int) ≤ 7)).bind fun u3 =>
 (chk ((0 : Int) ≤ 17)).bind fun u5 =>
 some ((⟨(IntKind.u64.wrap ((BitVec.ofInt (IntKind.u64).bits (IntKind.u64.wrap ((BitVec.ofInt (IntKind.u64).bits (IntKind.u64.wrap ((BitVec.ofInt (IntKind.u64).bits r.v ^^^ BitVec.ofInt (IntKind.u64).bits (IntKind.u64.wrap (r.v * 2 ^ (min (13 : Int).toNat (IntKind.u64).bits)))).toNat : Int)) ^^^ BitVec.ofInt (IntKind.u64).bits ((IntKind.u64.wrap ((BitVec.ofInt (IntKind.u64).bits r.v ^^^ BitVec.ofInt (IntKind.u64).bits (IntKind.u64.wrap (r.v * 2 ^ (min (13 : Int).toNat (IntKind.u64).bits)))).toNat : Int)).fdiv (2 ^ (min (7 : Int).toNat (IntKind.u64).bits)))).toNat : Int)) ^^^ BitVec.ofInt (IntKind.u64).bits (IntKind.u64.wrap ((IntKind.u64.wrap ((BitVec.ofInt (IntKind.u64).bits (IntKind.u64.wrap ((BitVec.ofInt (IntKind.u64).bits r.v ^^^ BitVec.ofInt (IntKind.u64).bits (IntKind.u64.wrap (r.v * 2 ^ (min (13 : Int).toNat (IntKind.u64).bits)))).toNat : Int)) ^^^ BitVec.ofInt (IntKind.u64).bits ((IntKind.u64.wrap ((BitVec.ofInt (IntKind.u64).bits r.v ^^^ BitVec.ofInt (IntKind.u64).bits (IntKind.u64.wrap (r.v * 2 ^ (min (13 : Int).toNat (IntKind.u64).bits)))).toNat : Int)).fdiv (2 ^ (min (7 : Int).toNat (IntKind.u64).bits)))).toNat : Int)) * 2 ^ (min (17 : Int).toNat (IntKind.u64).bits)))).toNat : Int))⟩ : IK .u64), (⟨(IntKind.u64.wrap ((BitVec.ofInt (IntKind.u64).bits (IntKind.u64.wrap ((BitVec.ofInt (IntKind.u64).bits (IntKind.u64.wrap ((BitVec.ofInt (IntKind.u64).bits r.v ^^^ BitVec.ofInt (IntKind.u64).bits (IntKind.u64.wrap (r.v * 2 ^ (min (13 : Int).toNat (IntKind.u64).bits)))).toNat : Int)) ^^^ BitVec.ofInt (IntKind.u64).bits ((IntKind.u64.wrap ((BitVec.ofInt (IntKind.u64).bits r.v ^^^ BitVec.ofInt (IntKind.u64).bits (IntKind.u64.wrap (r.v * 2 ^ (min (13 : Int).toNat (IntKind.u64).bits)))).toNat : Int)).fdiv (2 ^ (min (7 : Int).toNat (IntKind.u64).bits)))).toNat : Int)) ^^^ BitVec.ofInt (IntKind.u64).bits (IntKind.u64.wrap ((IntKind.u64.wrap ((BitVec.ofInt (IntKind.u64).bits (IntKind.u64.wrap ((BitVec.ofInt (IntKind.u64).bits r.v ^^^ BitVec.ofInt (IntKind.u64).bits (IntKind.u64.wrap (r.v * 2 ^ (min (13 : Int).toNat (IntKind.u64).bits)))).toNat : Int)) ^^^ BitVec.ofInt (IntKind.u64).bits ((IntKind.u64.wrap ((BitVec.ofInt (IntKind.u64).bits r.v ^^^ BitVec.ofInt (IntKind.u64).bits (IntKind.u64.wrap (r.v * 2 ^ (min (13 : Int).toNat (IntKind.u64).bits)))).toNat : Int)).fdiv (2 ^ (min (7 : Int).toNat (IntKind.u64).bits)))).toNat : Int)) * 2 ^ (min (17 : Int).toNat (IntKind.u64).bits)))).toNat : Int))⟩ : IK .u64))
def yaeg (a : Int) (b : Int) (r : (IK .u64)) : Int × (List Int) × Int → Option (Lp (Int × (List Int) × Int) ((List Int)))
 | (v, data1, v1) =>
  (chk ((4 : Int) ≠ 0)).bind fun u1 =>
  if (decide (v ≤ (w64 ((w64 (a + (w64 ((w64 ((w64 (b - a)).tdiv 4)) * 2)))) + 1)))) = true then
   (zq133 (⟨v1⟩ : IK .u64)).bind fun r1 =>
   (if (decide ((w64 (b - a)) ≤ (w64 ((IntKind.u64.wrap ((BitVec.ofInt (IntKind.u64).bits r1.1.v &&& BitVec.ofInt (IntKind.u64).bits (IntKind.u64.wrap (r.v - 1))).toNat : Int)))))) = true then
    some (w64 ((w64 ((IntKind.u64.wrap ((BitVec.ofInt (IntKind.u64).bits r1.1.v &&& BitVec.ofInt (IntKind.u64).bits (IntKind.u64.wrap (r.v - 1))).toNat : Int)))) - (w64 (b - a))))
   else
    some (w64 ((IntKind.u64.wrap ((BitVec.ofInt (IntKind.u64).bits r1.1.v &&& BitVec.ofInt (IntKind.u64).bits (IntKind.u64.wrap (r.v - 1))).toNat : Int))))).bind fun (v2 : Int) =>
   (idx data1 (w64 (a + v2))).bind fun e4 =>
   (idx data1 v).bind fun e5 =>
   (idx data1 v).bind fun e6 =>
   (idx (data1.set v.toNat e4) (w64 (a + v2))).bind fun e7 =>
   some (.nx ((w64 (v + 1)), ((data1.set v.toNat e4).set (w64 (a + v2)).toNat e5), r1.2.v))
  else
   some (.dn data1)
def zq119 (data : List Int) (a : Int) (b : Int) : Option ((List Int)) :=
 if (decide (8 ≤ (w64 (b - a)))) = true then
  (zq125 (w64 (b - a))).bind fun r =>
  (chk ((4 : Int) ≠ 0)).bind fun u =>
  iter (yaeg a b r) ((w64 ((w64 (a + (w64 ((w64 ((w64 (b - a)).tdiv 4)) * 2)))) - 1)), data, (IntKind.u64.wrap ((w64 (b - a)))))
 else
  some data
def yadp (rec_ : (List Int) → Int → Int → Int → Option ((List Int))) : Int × Int × Int × Bool × Bool × (List Int) → Option (Lp (Int × Int × Int × Bool × Bool × (List Int)) ((List Int)))
 | (a1, b1, limit1, hint, mid, data1) =>
  if (decide ((w64 (b1 - a1)) ≤ 12)) = true then
   (zq122 data1 a1 b1).bind fun r =>
   some (.dn r)
  else
   if (limit1 == 0) = true then
    (zq121 data1 a1 b1).bind fun r2 =>
    some (.dn r2)
   else
    (if (!hint) = true then
     (zq119 data1 a1 b1).bind fun r4 =>
     some ((w64 (limit1 - 1)), r4)
    else
     some (limit1, data1)).bind fun ((limit2, data2) : Int × (List Int)) =>
    (zq120 data2 a1 b1).bind fun r5 =>
    (if (r5.2 == 2) = true then
     (zq131 data2 a1 b1).bind fun r6 =>
     some ((w64 ((w64 (b1 - 1)) - (w64 (r5.1 - a1)))), (1 : Int), r6)
    else
     some (r5.1, r5.2, data2)).bind fun ((alreadyPartitioned, leftLen, data3) : Int × Int × (List Int)) =>
    flb ((if hint = true then if mid = true then some (leftLen == 1) else some false else some false).bind fun (v : Bool) =>
    if v = true then
     (zq127 data3 a1 b1).bind fun r7 =>
     if r7.1 = true then
      some (.ret (.dn r7.2))
     else
      some (.go r7.2)
    else
     some (.go data3)) fun (data4 : List Int) =>
    (if (decide (0 < a1)) = true then (idx data4 (w64 (a1 - 1))).bind fun e6 =>
    (idx data4 alreadyPartitioned).bind fun e7 =>
    (zq0 e6 e7).bind fun r11 =>
    some (!r11) else some false).bind fun (v1 : Bool) =>
    if v1 = true then
     (zq128 data4 a1 b1 alreadyPartitioned).bind fun r12 =>
     some (.nx (r12.1, b1, limit2, hint, mid, r12.2))
    else
     (zq129 data4 a1 b1 alreadyPartitioned).bind fun r13 =>
     (chk ((8 : Int) ≠ 0)).bind fun u =>
     if (decide ((w64 (r13.1 - a1)) < (w64 (b1 - r13.1)))) = true then
      (rec_ r13.2.2 a1 r13.1 limit2).bind fun r14 =>
      some (.nx ((w64 (r13.1 + 1)), b1, limit2, (decide ((w64 ((w64 (b1 - a1)).tdiv 8)) ≤ (w64 (r13.1 - a1)))), r13.2.1, r14))
     else
      (rec_ r13.2.2 (w64 (r13.1 + 1)) b1 limit2).bind fun r15 =>
      some (.nx (a1, r13.1, limit2, (decide ((w64 ((w64 (b1 - a1)).tdiv 8)) ≤ (w64 (b1 - r13.1)))), r13.2.1, r15))
def yacf (rec_ : (List Int) → Int → Int → Int → Option ((List Int))) (data : List Int) (a : Int) (b : Int) (limit : Int) : Option ((List Int)) :=
 iter (yadp rec_) (a, b, limit, true, true, data)
def yaew : Nat → (List Int) → Int → Int → Int → Option ((List Int))
 | 0 => fun _ _ _ _ => none
 | n + 1 => yacf (yaew n)
def zq130 (data : List Int) (a : Int) (b : Int) (limit : Int) : Option ((List Int)) := yaew 4294967296 data a b limit
def zq118 (x : List Int) : Option ((List Int)) :=
 (zq39 (⟨(IntKind.u64.wrap ((x.length : Int)))⟩ : IK .u64)).bind fun r =>
 (zq130 x 0 (x.length : Int) r).bind fun r1 =>
 some r1
def zq112 (s : List Int) : Option ((List Int)) :=
 comM s
def yakg (t : Timetable) (f : Fleet) (pieces : List (List Int)) : Int × (List Int) → Option (Lp (Int × (List Int)) ((List Int)))
 | (v, b) =>
  if (decide (v < (pieces.length : Int))) = true then
   (idx pieces (w64 (v - 1))).bind fun e2 =>
   (idx pieces v).bind fun e3 =>
   (zq33 t e3).bind fun r5 =>
   (zq33 t e2).bind fun r6 =>
   (idx e2 (w64 ((e2.length : Int) - 1))).bind fun e6 =>
   (zq37 t e6).bind fun r7 =>
   (idx e3 0).bind fun e7 =>
   (zq37 t e7).bind fun r8 =>
   (zq17 t f r7 r8).bind fun r9 =>
   (chk (b.length + ([(w64 ((w64 (r5.From - r6.To)) - r9))] : List Int).length ≤ 4294967296)).bind fun u1 =>
   some (.nx ((w64 (v + 1)), (b ++ ([(w64 ((w64 (r5.From - r6.To)) - r9))] : List Int))))
  else
   some (.dn b)
def zq20 (t : Timetable) (f : Fleet) (pieces : List (List Int)) : Option ((List Int)) :=
 (iter (yakg t f pieces) ((1 : Int), ([] : List Int))).bind fun (b1 : List Int) =>
 some b1
def zq29 (t : Timetable) (r : Rules) (d : Duty) : Option (Int) :=
 (idx d.Pieces (w64 ((d.Pieces.length : Int) - 1))).bind fun e2 =>
 (zq33 t e2).bind fun r3 =>
 (idx d.Pieces 0).bind fun e3 =>
 (zq33 t e3).bind fun r4 =>
 some (w64 ((w64 ((w64 (r.SignOn + r3.To)) - r4.From)) + r.SignOff))
def yahb (blocks : List (List Int)) (d : Duty) : Int × (List Int) → Option (Lp (Int × (List Int)) (Fl (Int) ((List Int))))
 | (v, s) =>
  if (decide (v < (d.Pieces.length : Int))) = true then
   (idx d.Pieces v).bind fun e =>
   (zq24 blocks e).bind fun r2 =>
   if (!r2) = true then
    some (.dn (.ret 1))
   else
    (chk (s.length + e.length ≤ 4294967296)).bind fun u =>
    some (.nx ((w64 (v + 1)), (s ++ e)))
  else
   some (.dn (.go s))
def yade (t : Timetable) (r : Rules) (d : Duty) : Int → Option (Lp (Int) (Fl (Int) (Unit)))
 | v1 =>
  if (decide (v1 < (d.Pieces.length : Int))) = true then
   (idx d.Pieces v1).bind fun e2 =>
   (zq33 t e2).bind fun r7 =>
   if (decide (r.MaxDrive < (w64 (r7.To - r7.From)))) = true then
    some (.dn (.ret 2))
   else
    some (.nx (w64 (v1 + 1)))
  else
   some (.dn (.go ()))
def yadd (r : Rules) (r9 : (List Int)) : Int → Option (Lp (Int) (Fl (Int) (Unit)))
 | v2 =>
  if (decide (v2 < (r9.length : Int))) = true then
   (idx r9 v2).bind fun e4 =>
   if (decide (e4 < r.MinBreak)) = true then
    some (.dn (.ret 3))
   else
    some (.nx (w64 (v2 + 1)))
  else
   some (.dn (.go ()))
def zq15 (t : Timetable) (f : Fleet) (blocks : List (List Int)) (r : Rules) (d : Duty) : Option (Int) :=
 (zq38 (d.Pieces.length : Int) 1 3).bind fun r1 =>
 if (!r1) = true then
  some 1
 else
  flb (iter (yahb blocks d) ((0 : Int), ([] : List Int))) fun (s1 : List Int) =>
  (zq118 s1).bind fun r4 =>
  (zq111 r4).bind fun r5 =>
  (zq112 r5).bind fun r6 =>
  if (decide ((r6.length : Int) < (r4.length : Int))) = true then
   some 1
  else
   flb (iter (yade t r d) (0 : Int)) fun (_ : Unit) =>
   (zq20 t f d.Pieces).bind fun r9 =>
   flb (iter (yadd r r9) (0 : Int)) fun (_ : Unit) =>
   (zq29 t r d).bind fun r12 =>
   if (decide (r.MaxLength < r12)) = true then
    some 4
   else
    some 0
def zq3 (t : Timetable) (f : Fleet) (blocks : List (List Int)) (r : Rules) (a : List Int) (b : List Int) : Option (Bool × Bool) :=
 (zq13 t f blocks r).bind fun r1 =>
 if (!r1) = true then
  some (false, false)
 else
  (zq15 t f blocks r (⟨([a, b] : List (List Int))⟩ : Duty)).bind fun r2 =>
  some ((r2 == 0), true)
def zq2 (t : Timetable) (f : Fleet) (blocks : List (List Int)) (r : Rules) (d : Duty) : Option (Int × Bool) :=
 (zq13 t f blocks r).bind fun r1 =>
 if (!r1) = true then
  some (0, false)
 else
  (zq15 t f blocks r d).bind fun r2 =>
  some (r2, true)
def yaeu (a : List Int) (b : List Int) : Int → Option (Lp (Int) (Fl (Bool) (Unit)))
 | v =>
  if (decide (v < (a.length : Int))) = true then
   (idx a v).bind fun e2 =>
   (idx b v).bind fun e3 =>
   if (e2 != e3) = true then
    some (.dn (.ret false))
   else
    some (.nx (w64 (v + 1)))
  else
   some (.dn (.go ()))
def zq92 (a : List Int) (b : List Int) : Option (Bool) :=
 if ((a.length : Int) != (b.length : Int)) = true then
  some false
 else
  flb (iter (yaeu a b) (0 : Int)) fun (_ : Unit) =>
  some true
def zq61 (blocks : List (List Int)) (piece : List Int) : Option (Bool) :=
 if ((piece.length : Int) == 0) = true then
  some false
 else
  (idx piece 0).bind fun e =>
  (zq52 blocks e).bind fun r =>
  (if (decide (r.1 < 0)) = true then some true else (idx blocks r.1).bind fun e1 =>
  some (decide ((e1.length : Int) < (w64 (r.2 + (piece.length : Int)))))).bind fun (v : Bool) =>
  if v = true then
   some false
  else
   (idx blocks r.1).bind fun e2 =>
   (chk ((0 : Int) ≤ r.2 ∧ r.2 ≤ (w64 (r.2 + (piece.length : Int))) ∧ (w64 (r.2 + (piece.length : Int))) ≤ (e2.length : Int))).bind fun u =>
   (zq92 ((e2.take (w64 (r.2 + (piece.length : Int))).toNat).drop r.2.toNat) piece).bind fun r1 =>
   some r1
def yagn (d : Duty) (v : Int) : Int × (List Int) → Option (Lp (Int × (List Int)) (Fl (Lp (Int × (List Int)) (Fl (Bool) (Unit))) ((List Int))))
 | (v1, k1) =>
  (idx d.Pieces v).bind fun e2 =>
  if (decide (v1 < (e2.length : Int))) = true then
   (idx d.Pieces v).bind fun e3 =>
   (idx e3 v1).bind fun e4 =>
   (zq85 k1 e4).bind fun r2 =>
   if r2 = true then
    some (.dn (.ret (.dn (.ret false))))
   else
    (idx d.Pieces v).bind fun e7 =>
    (idx e7 v1).bind fun e8 =>
    (chk (k1.length + ([e8] : List Int).length ≤ 4294967296)).bind fun u =>
    some (.nx ((w64 (v1 + 1)), (k1 ++ ([e8] : List Int))))
  else
   some (.dn (.go k1))
def yagm (blocks : List (List Int)) (d : Duty) : Int × (List Int) → Option (Lp (Int × (List Int)) (Fl (Bool) (Unit)))
 | (v, k) =>
  if (decide (v < (d.Pieces.length : Int))) = true then
   (idx d.Pieces v).bind fun e =>
   (zq61 blocks e).bind fun r =>
   if (!r) = true then
    some (.dn (.ret false))
   else
    flb (iter (yagn d v) ((0 : Int), k)) fun (k2 : List Int) =>
    some (.nx ((w64 (v + 1)), k2))
  else
   some (.dn (.go ()))
def zq62 (blocks : List (List Int)) (d : Duty) : Option (Bool) :=
 flb (iter (yagm blocks d) ((0 : Int), ([] : List Int))) fun (_ : Unit) =>
 (zq86 (d.Pieces.length : Int) 1 3).bind fun r5 =>
 some r5
def zq58 (t : Timetable) (f : Fleet) (a : List Int) (b : List Int) : Option (Int) :=
 (zq64 t b).bind fun r5 =>
 (zq57 t a).bind fun r6 =>
 (idx a (w64 ((a.length : Int) - 1))).bind fun e2 =>
 (zq107 t e2).bind fun r7 =>
 (idx b 0).bind fun e3 =>
 (zq107 t e3).bind fun r8 =>
 (zq49 t f r7 r8).bind fun r9 =>
 some (w64 ((w64 (r5 - r6)) - r9))
def zq59 (t : Timetable) (r : Rules) (d : Duty) : Option (Int) :=
 (idx d.Pieces (w64 ((d.Pieces.length : Int) - 1))).bind fun e2 =>
 (zq57 t e2).bind fun r3 =>
 (idx d.Pieces 0).bind fun e3 =>
 (zq64 t e3).bind fun r4 =>
 some (w64 ((w64 ((w64 (r.SignOn + r3)) - r4)) + r.SignOff))
def yacz (t : Timetable) (r : Rules) (d : Duty) : Int → Option (Lp (Int) (Fl (Int) (Unit)))
 | v =>
  if (decide (v < (d.Pieces.length : Int))) = true then
   (idx d.Pieces v).bind fun e2 =>
   (zq57 t e2).bind fun r4 =>
   (idx d.Pieces v).bind fun e3 =>
   (zq64 t e3).bind fun r5 =>
   if (decide (r.MaxDrive < (w64 (r4 - r5)))) = true then
    some (.dn (.ret 2))
   else
    some (.nx (w64 (v + 1)))
  else
   some (.dn (.go ()))
def yacy (t : Timetable) (f : Fleet) (r : Rules) (d : Duty) : Int → Option (Lp (Int) (Fl (Int) (Unit)))
 | v1 =>
  if (decide (v1 < (d.Pieces.length : Int))) = true then
   (idx d.Pieces (w64 (v1 - 1))).bind fun e7 =>
   (idx d.Pieces v1).bind fun e8 =>
   (zq58 t f e7 e8).bind fun r8 =>
   if (decide (r8 < r.MinBreak)) = true then
    some (.dn (.ret 3))
   else
    some (.nx (w64 (v1 + 1)))
  else
   some (.dn (.go ()))
def zq56 (t : Timetable) (f : Fleet) (blocks : List (List Int)) (r : Rules) (d : Duty) : Option (Int) :=
 (zq62 blocks d).bind fun r1 =>
 if (!r1) = true then
  some 1
 else
  flb (iter (yacz t r d) (0 : Int)) fun (_ : Unit) =>
  flb (iter (yacy t f r d) (1 : Int)) fun (_ : Unit) =>
  (zq59 t r d).bind fun r11 =>
  if (decide (r.MaxLength < r11)) = true then
   some 4
  else
   some 0
def zq41 (t : Timetable) (f : Fleet) (blocks : List (List Int)) (r : Rules) (a : List Int) (b : List Int) : Option (Bool × Bool) :=
 (zq54 t f blocks r).bind fun r1 =>
 if (!r1) = true then
  some (false, false)
 else
  (zq56 t f blocks r (⟨([a, b] : List (List Int))⟩ : Duty)).bind fun r2 =>
  some ((r2 == 0), true)
def yabf (r1 : Timetable × Fleet × (List (List Int)) × Rules × Int) (r2 : (List (List Int)) × Bool) : Int → Option (Lp (Int) (Fl (Bool) (Unit)))
 | yes =>
  if (decide (yes < (r2.1.length : Int))) = true then
   (idx r2.1 yes).bind fun e1 =>
   (zq4 r1.1 r1.2.1 r1.2.2.1 e1).bind fun r6 =>
   (if (!r6.2) = true then some true else if (!r6.1) = true then some true else (idx r2.1 yes).bind fun e2 =>
   if ((e2.length : Int) == 0) = true then some true else (idx r2.1 yes).bind fun e3 =>
   (idx e3 0).bind fun e4 =>
   some (e4 != r1.2.2.2.2)).bind fun (v1 : Bool) =>
   if v1 = true then
    some (.dn (.ret false))
   else
    some (.nx (w64 (yes + 1)))
  else
   some (.dn (.go ()))
def yabt (code : List UInt8) : Option (Bool) :=
 (zq134 code).bind fun r =>
 if r = true then
  some true
 else
  (zq43 code).bind fun r1 =>
  (zq10 r1.1 r1.2.1 r1.2.2.1 r1.2.2.2.1 r1.2.2.2.2).bind fun r2 =>
  (zq44 r1.1 r1.2.1 r1.2.2.1 r1.2.2.2.1 r1.2.2.2.2).bind fun r3 =>
  (if (!(r2.2 == r3.2)) = true then some true else (zq136 r2.1 r3.1).bind fun r4 =>
  some (!r4)).bind fun (v : Bool) =>
  if v = true then
   some false
  else
   flb (iter (yabf r1 r2) (0 : Int)) fun (_ : Unit) =>
   (zq42 code).bind fun r8 =>
   (zq3 r8.1 r8.2.1 r8.2.2.1 r8.2.2.2.1 r8.2.2.2.2.1 r8.2.2.2.2.2).bind fun r9 =>
   (zq2 r8.1 r8.2.1 r8.2.2.1 r8.2.2.2.1 (⟨([r8.2.2.2.2.1, r8.2.2.2.2.2] : List (List Int))⟩ : Duty)).bind fun r10 =>
   (zq41 r8.1 r8.2.1 r8.2.2.1 r8.2.2.2.1 r8.2.2.2.2.1 r8.2.2.2.2.2).bind fun r11 =>
   (if (r9.1 == r11.1) = true then if (r9.2 == r11.2) = true then if (r10.2 == r9.2) = true then if (!r9.2) = true then some true else some (r9.1 == (r10.1 == 0)) else some false else some false else some false).bind fun (t : Bool) =>
   some t
end
end Go.Proofs.YtaegkodcjpgndaaGreat
