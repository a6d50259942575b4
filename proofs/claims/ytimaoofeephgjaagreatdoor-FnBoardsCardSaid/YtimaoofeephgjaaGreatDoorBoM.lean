/- Models of the functions that the law reaches: plain Lean; none where the function would panic or not end. Made by program (dec.py). -/
import Derived.Test.YtimaoofeephgjaaGreatDoorAbC0
import Derived.Test.YtimaoofeephgjaaGreatDoorAbStr2
import Derived.Test.YtimaoofeephgjaaGreatDoorAbBld
namespace Go.Proofs.YtimaoofeephgjaaGreatDoor
open Go Go.Ab
set_option maxRecDepth 100000
set_option maxHeartbeats 4000000
set_option linter.unusedVariables false
set_option linter.unusedSimpArgs false
structure l1Cur where
 code_ : List UInt8
 at_ : Int
 seed_ : IK .u64
instance enc_l1Cur : Enc l1Cur := ⟨3, fun x => .agg [Enc.e x.code_, .sc (.int .i64 x.at_), .sc (.int .u64 x.seed_.v)], fun a b h => by
 simp only [D.agg.injEq, List.cons.injEq, and_true] at h
 obtain ⟨a1, a2, a3⟩ := a
 obtain ⟨b1, b2, b3⟩ := b
 obtain ⟨h1, h2, h3⟩ := h
 have q1 := Enc.inj (α := List UInt8) a1 b1 h1
 have q2 := Enc.inj (α := Int) a2 b2 h2
 have q3 := Enc.inj (α := IK .u64) a3 b3 h3
 subst q1; subst q2; subst q3; rfl⟩
structure Line where
 Name : ByteArray
 Stops : List Int
 Runs : List Int
instance enc_Line : Enc Line := ⟨3, fun x => .agg [.sc (.string x.Name), Enc.e x.Stops, Enc.e x.Runs], fun a b h => by
 simp only [D.agg.injEq, List.cons.injEq, and_true] at h
 obtain ⟨a1, a2, a3⟩ := a
 obtain ⟨b1, b2, b3⟩ := b
 obtain ⟨h1, h2, h3⟩ := h
 have q1 := Enc.inj (α := ByteArray) a1 b1 h1
 have q2 := Enc.inj (α := List Int) a2 b2 h2
 have q3 := Enc.inj (α := List Int) a3 b3 h3
 subst q1; subst q2; subst q3; rfl⟩
structure Network where
 Stops : List ByteArray
 Lines : List Line
instance enc_Network : Enc Network := ⟨2, fun x => .agg [Enc.e x.Stops, Enc.e x.Lines], fun a b h => by
 simp only [D.agg.injEq, List.cons.injEq, and_true] at h
 obtain ⟨a1, a2⟩ := a
 obtain ⟨b1, b2⟩ := b
 obtain ⟨h1, h2⟩ := h
 have q1 := Enc.inj (α := List ByteArray) a1 b1 h1
 have q2 := Enc.inj (α := List Line) a2 b2 h2
 subst q1; subst q2; rfl⟩
structure Trip where
 Id : Int
 Line : Int
 Start : Int
instance enc_Trip : Enc Trip := ⟨3, fun x => .agg [.sc (.int .i64 x.Id), .sc (.int .i64 x.Line), .sc (.int .i64 x.Start)], fun a b h => by
 simp only [D.agg.injEq, List.cons.injEq, and_true] at h
 obtain ⟨a1, a2, a3⟩ := a
 obtain ⟨b1, b2, b3⟩ := b
 obtain ⟨h1, h2, h3⟩ := h
 have q1 := Enc.inj (α := Int) a1 b1 h1
 have q2 := Enc.inj (α := Int) a2 b2 h2
 have q3 := Enc.inj (α := Int) a3 b3 h3
 subst q1; subst q2; subst q3; rfl⟩
structure Timetable where
 Network : Network
 Trips : List Trip
instance enc_Timetable : Enc Timetable := ⟨3, fun x => .agg [Enc.e x.Network.Stops, Enc.e x.Network.Lines, Enc.e x.Trips], fun a b h => by
 simp only [D.agg.injEq, List.cons.injEq, and_true] at h
 obtain ⟨⟨a1, a2⟩, a3⟩ := a
 obtain ⟨⟨b1, b2⟩, b3⟩ := b
 obtain ⟨h1, h2, h3⟩ := h
 have q1 := Enc.inj (α := List ByteArray) a1 b1 h1
 have q2 := Enc.inj (α := List Line) a2 b2 h2
 have q3 := Enc.inj (α := List Trip) a3 b3 h3
 subst q1; subst q2; subst q3; rfl⟩
structure TripDelay where
 Id : Int
 Minutes : Int
instance enc_TripDelay : Enc TripDelay := ⟨2, fun x => .agg [.sc (.int .i64 x.Id), .sc (.int .i64 x.Minutes)], fun a b h => by
 simp only [D.agg.injEq, List.cons.injEq, and_true] at h
 obtain ⟨a1, a2⟩ := a
 obtain ⟨b1, b2⟩ := b
 obtain ⟨h1, h2⟩ := h
 have q1 := Enc.inj (α := Int) a1 b1 h1
 have q2 := Enc.inj (α := Int) a2 b2 h2
 subst q1; subst q2; rfl⟩
structure departure where
 trip_ : Trip
 time_ : Int
 delay_ : Int
instance enc_departure : Enc departure := ⟨5, fun x => .agg [.sc (.int .i64 x.trip_.Id), .sc (.int .i64 x.trip_.Line), .sc (.int .i64 x.trip_.Start), .sc (.int .i64 x.time_), .sc (.int .i64 x.delay_)], fun a b h => by
 simp only [D.agg.injEq, List.cons.injEq, and_true] at h
 obtain ⟨⟨a1, a2, a3⟩, a4, a5⟩ := a
 obtain ⟨⟨b1, b2, b3⟩, b4, b5⟩ := b
 obtain ⟨h1, h2, h3, h4, h5⟩ := h
 have q1 := Enc.inj (α := Int) a1 b1 h1
 have q2 := Enc.inj (α := Int) a2 b2 h2
 have q3 := Enc.inj (α := Int) a3 b3 h3
 have q4 := Enc.inj (α := Int) a4 b4 h4
 have q5 := Enc.inj (α := Int) a5 b5 h5
 subst q1; subst q2; subst q3; subst q4; subst q5; rfl⟩
structure BoardRow where
 Time : Int
 Delay : Int
 Line : ByteArray
 Destination : ByteArray
instance enc_BoardRow : Enc BoardRow := ⟨4, fun x => .agg [.sc (.int .i64 x.Time), .sc (.int .i64 x.Delay), .sc (.string x.Line), .sc (.string x.Destination)], fun a b h => by
 simp only [D.agg.injEq, List.cons.injEq, and_true] at h
 obtain ⟨a1, a2, a3, a4⟩ := a
 obtain ⟨b1, b2, b3, b4⟩ := b
 obtain ⟨h1, h2, h3, h4⟩ := h
 have q1 := Enc.inj (α := Int) a1 b1 h1
 have q2 := Enc.inj (α := Int) a2 b2 h2
 have q3 := Enc.inj (α := ByteArray) a3 b3 h3
 have q4 := Enc.inj (α := ByteArray) a4 b4 h4
 subst q1; subst q2; subst q3; subst q4; rfl⟩
instance : BxE l1Cur := ⟨fun x y h => Enc.inj x y (congrArg D.agg h)⟩
instance : BxE Line := ⟨fun x y h => Enc.inj x y (congrArg D.agg h)⟩
instance : BxE Network := ⟨fun x y h => Enc.inj x y (congrArg D.agg h)⟩
instance : BxE Trip := ⟨fun x y h => Enc.inj x y (congrArg D.agg h)⟩
instance : BxE Timetable := ⟨fun x y h => Enc.inj x y (congrArg D.agg h)⟩
instance : BxE TripDelay := ⟨fun x y h => Enc.inj x y (congrArg D.agg h)⟩
instance : BxE departure := ⟨fun x y h => Enc.inj x y (congrArg D.agg h)⟩
instance : BxE BoardRow := ⟨fun x y h => Enc.inj x y (congrArg D.agg h)⟩
instance : FlatEnc Trip := ⟨fun _ => flatDB_ok rfl⟩
instance : FlatEnc TripDelay := ⟨fun _ => flatDB_ok rfl⟩
instance : FlatEnc departure := ⟨fun _ => flatDB_ok rfl⟩
instance : FlatEnc BoardRow := ⟨fun _ => flatDB_ok rfl⟩
noncomputable def zq109 (code : List UInt8) : Option (Bool) :=
 some (decide (65536 < (code.length : Int)))
noncomputable def zq51 (c : l1Cur) : Option (Int × l1Cur) :=
 (if (decide (c.at_ < (c.code_.length : Int))) = true then
  (idx c.code_ c.at_).bind fun e1 =>
  some (w64 ((e1.toNat : Int)))
 else
  some (0 : Int)).bind fun (v : Int) =>
 if (decide ((w64 (c.at_ + 1)) ≤ (c.code_.length : Int))) = true then
  some (v, (⟨c.code_, (w64 (c.at_ + 1)), (⟨(IntKind.u64.wrap ((IntKind.u64.wrap ((IntKind.u64.wrap (c.seed_.v * 6364136223846793005)) + (IntKind.u64.wrap (v)))) + 900900))⟩ : IK .u64)⟩ : l1Cur))
 else
  (chk ((0 : Int) ≤ 40)).bind fun u =>
  some ((w64 ((IntKind.u64.wrap ((BitVec.ofInt (IntKind.u64).bits ((IntKind.u64.wrap ((IntKind.u64.wrap ((IntKind.u64.wrap (c.seed_.v * 6364136223846793005)) + (IntKind.u64.wrap (v)))) + 900900)).fdiv (2 ^ (min (40 : Int).toNat (IntKind.u64).bits))) &&& BitVec.ofInt (IntKind.u64).bits 255).toNat : Int)))), (⟨c.code_, (w64 (c.at_ + 1)), (⟨(IntKind.u64.wrap ((IntKind.u64.wrap ((IntKind.u64.wrap (c.seed_.v * 6364136223846793005)) + (IntKind.u64.wrap (v)))) + 900900))⟩ : IK .u64)⟩ : l1Cur))
noncomputable def zq56 (c : l1Cur) (n : Int) : Option (Int × l1Cur) :=
 if (decide (n ≤ 1)) = true then
  some (0, c)
 else
  (zq51 c).bind fun r =>
  (if (decide (200 < n)) = true then
   (zq51 r.2).bind fun r1 =>
   some ((w64 ((w64 (r.1 * 256)) + r1.1)), r1.2.code_, r1.2.at_, r1.2.seed_.v)
  else
   some (r.1, r.2.code_, r.2.at_, r.2.seed_.v)).bind fun ((v, v1, v2, v3) : Int × (List UInt8) × Int × Int) =>
  (chk ((n : Int) ≠ 0)).bind fun u =>
  some ((v.tmod n), (⟨v1, v2, (⟨v3⟩ : IK .u64)⟩ : l1Cur))
noncomputable def zq62_F (rec_ : Int → Option (ByteArray)) (n : Int) : Option (ByteArray) :=
 if (decide (n < 0)) = true then
  (rec_ (w64 (0 - n))).bind fun r =>
  (chk ((str [45]).size + r.size ≤ 4294967296)).bind fun u =>
  some ((str [45]) ++ r)
 else
  if (decide (n < 10)) = true then
   (chk ((0 : Int) ≤ n ∧ (n : Int) ≤ (w64 (n + 1)) ∧ (w64 (n + 1)) ≤ ((str [48, 49, 50, 51, 52, 53, 54, 55, 56, 57]).size : Int))).bind fun u1 =>
   some ((str [48, 49, 50, 51, 52, 53, 54, 55, 56, 57]).extract n.toNat (w64 (n + 1)).toNat)
  else
   (chk ((10 : Int) ≠ 0)).bind fun u7 =>
   (rec_ (w64 (n.tdiv 10))).bind fun r2 =>
   (chk ((10 : Int) ≠ 0)).bind fun u8 =>
   (chk ((10 : Int) ≠ 0)).bind fun u9 =>
   (chk ((0 : Int) ≤ (n.tmod 10) ∧ ((n.tmod 10) : Int) ≤ (w64 ((n.tmod 10) + 1)) ∧ (w64 ((n.tmod 10) + 1)) ≤ ((str [48, 49, 50, 51, 52, 53, 54, 55, 56, 57]).size : Int))).bind fun u10 =>
   (chk (r2.size + ((str [48, 49, 50, 51, 52, 53, 54, 55, 56, 57]).extract (n.tmod 10).toNat (w64 ((n.tmod 10) + 1)).toNat).size ≤ 4294967296)).bind fun u11 =>
   some (r2 ++ ((str [48, 49, 50, 51, 52, 53, 54, 55, 56, 57]).extract (n.tmod 10).toNat (w64 ((n.tmod 10) + 1)).toNat))
noncomputable def zq62_k : Nat → Int → Option (ByteArray)
 | 0 => fun _ => none
 | n + 1 => zq62_F (zq62_k n)
noncomputable def zq62 (n : Int) : Option (ByteArray) := zq62_k 4294967296 n
noncomputable def zq81_L1 (x : Line) (stop : Int) : Int → Option (Lp (Int) (Fl (Int) (Unit)))
 | v =>
  if (decide (v < (x.Stops.length : Int))) = true then
   (idx x.Stops v).bind fun e =>
   if (e == stop) = true then
    some (.dn (.ret v))
   else
    some (.nx (w64 (v + 1)))
  else
   some (.dn (.go ()))
noncomputable def zq81 (x : Line) (stop : Int) : Option (Int) :=
 flb (iter (zq81_L1 x stop) (0 : Int)) fun (_ : Unit) =>
 some (-1)
noncomputable def zq47_L1 (name : ByteArray) (stops : Int) : Int × Int × (List UInt8) × Int × Int × (List Int) → Option (Lp (Int × Int × (List UInt8) × Int × Int × (List Int)) ((List UInt8) × Int × Int × (List Int)))
 | (v, v1, v2, v3, v4, v5) =>
  if (decide (0 < v1)) = true then
   ((zq81 (⟨name, v5, ([] : List Int)⟩ : Line) v).bind fun r2 =>
   if (decide (r2 < 0)) = true then
    (chk (v5.length + ([v] : List Int).length ≤ 4294967296)).bind fun u =>
    some (v5 ++ ([v] : List Int))
   else
    some v5).bind fun (v6 : List Int) =>
   (zq56 (⟨v2, v3, (⟨v4⟩ : IK .u64)⟩ : l1Cur) 2).bind fun r3 =>
   (chk ((stops : Int) ≠ 0)).bind fun u1 =>
   some (.nx (((w64 ((w64 (v + 1)) + r3.1)).tmod stops), (w64 (v1 - 1)), r3.2.code_, r3.2.at_, r3.2.seed_.v, v6))
  else
   some (.dn (v2, v3, v4, v5))
noncomputable def zq47_L2 (v11 : List Int) : Int × (List UInt8) × Int × Int × (List Int) → Option (Lp (Int × (List UInt8) × Int × Int × (List Int)) ((List UInt8) × Int × Int × (List Int)))
 | (v12, v13, v14, v15, v16) =>
  if (decide (v12 < (v11.length : Int))) = true then
   (zq56 (⟨v13, v14, (⟨v15⟩ : IK .u64)⟩ : l1Cur) 12).bind fun r5 =>
   (chk (v16.length + ([(w64 (3 + r5.1))] : List Int).length ≤ 4294967296)).bind fun u7 =>
   some (.nx ((w64 (v12 + 1)), r5.2.code_, r5.2.at_, r5.2.seed_.v, (v16 ++ ([(w64 (3 + r5.1))] : List Int))))
  else
   some (.dn (v13, v14, v15, v16))
noncomputable def zq47 (c : l1Cur) (name : ByteArray) (stops : Int) : Option (Line × l1Cur) :=
 (zq56 c stops).bind fun r =>
 (zq56 r.2 3).bind fun r1 =>
 (iter (zq47_L1 name stops) (r.1, (w64 (2 + r1.1)), r1.2.code_, r1.2.at_, r1.2.seed_.v, ([] : List Int))).bind fun ((v7, v8, v9, v10) : (List UInt8) × Int × Int × (List Int)) =>
 (if (decide ((v10.length : Int) < 2)) = true then
  (idx v10 0).bind fun e1 =>
  (chk ((stops : Int) ≠ 0)).bind fun u4 =>
  (chk (v10.length + ([((w64 (e1 + 1)).tmod stops)] : List Int).length ≤ 4294967296)).bind fun u5 =>
  some (v10 ++ ([((w64 (e1 + 1)).tmod stops)] : List Int))
 else
  some v10).bind fun (v11 : List Int) =>
 (iter (zq47_L2 v11) ((1 : Int), v7, v8, v9, ([] : List Int))).bind fun ((v17, v18, v19, v20) : (List UInt8) × Int × Int × (List Int)) =>
 some ((⟨name, v11, v20⟩ : Line), (⟨v17, v18, (⟨v19⟩ : IK .u64)⟩ : l1Cur))
noncomputable def zq48_L1 (name : ByteArray) (stops : Int) : Int × Int × (List UInt8) × Int × Int × (List Int) → Option (Lp (Int × Int × (List UInt8) × Int × Int × (List Int)) ((List UInt8) × Int × Int × (List Int)))
 | (v, v1, v2, v3, v4, v5) =>
  if (decide (0 < v1)) = true then
   ((zq81 (⟨name, v5, ([] : List Int)⟩ : Line) v).bind fun r2 =>
   if (decide (r2 < 0)) = true then
    (chk (v5.length + ([v] : List Int).length ≤ 4294967296)).bind fun u =>
    some (v5 ++ ([v] : List Int))
   else
    some v5).bind fun (v6 : List Int) =>
   (zq56 (⟨v2, v3, (⟨v4⟩ : IK .u64)⟩ : l1Cur) 2).bind fun r3 =>
   (chk ((stops : Int) ≠ 0)).bind fun u1 =>
   some (.nx (((w64 ((w64 (v + 1)) + r3.1)).tmod stops), (w64 (v1 - 1)), r3.2.code_, r3.2.at_, r3.2.seed_.v, v6))
  else
   some (.dn (v2, v3, v4, v5))
noncomputable def zq48_L2 (v11 : List Int) : Int × (List UInt8) × Int × Int × (List Int) → Option (Lp (Int × (List UInt8) × Int × Int × (List Int)) ((List UInt8) × Int × Int × (List Int)))
 | (v12, v13, v14, v15, v16) =>
  if (decide (v12 < (v11.length : Int))) = true then
   (zq56 (⟨v13, v14, (⟨v15⟩ : IK .u64)⟩ : l1Cur) 12).bind fun r5 =>
   (chk (v16.length + ([(w64 (3 + r5.1))] : List Int).length ≤ 4294967296)).bind fun u7 =>
   some (.nx ((w64 (v12 + 1)), r5.2.code_, r5.2.at_, r5.2.seed_.v, (v16 ++ ([(w64 (3 + r5.1))] : List Int))))
  else
   some (.dn (v13, v14, v15, v16))
noncomputable def zq48 (c : l1Cur) (name : ByteArray) (stops : Int) : Option (Line × l1Cur) :=
 (zq56 c stops).bind fun r =>
 (zq56 r.2 3).bind fun r1 =>
 (iter (zq48_L1 name stops) (r.1, (w64 (2 + r1.1)), r1.2.code_, r1.2.at_, r1.2.seed_.v, ([] : List Int))).bind fun ((v7, v8, v9, v10) : (List UInt8) × Int × Int × (List Int)) =>
 (if (decide ((v10.length : Int) < 2)) = true then
  (idx v10 0).bind fun e1 =>
  (chk ((stops : Int) ≠ 0)).bind fun u4 =>
  (chk (v10.length + ([((w64 (e1 + 1)).tmod stops)] : List Int).length ≤ 4294967296)).bind fun u5 =>
  some (v10 ++ ([((w64 (e1 + 1)).tmod stops)] : List Int))
 else
  some v10).bind fun (v11 : List Int) =>
 (iter (zq48_L2 v11) ((1 : Int), v7, v8, v9, ([] : List Int))).bind fun ((v17, v18, v19, v20) : (List UInt8) × Int × Int × (List Int)) =>
 some ((⟨name, v11, v20⟩ : Line), (⟨v17, v18, (⟨v19⟩ : IK .u64)⟩ : l1Cur))
noncomputable def zq55 (c : l1Cur) (n : Int) : Option (Bool × l1Cur) :=
 (zq56 c n).bind fun r =>
 some ((r.1 == 0), r.2)
noncomputable def zq72_L1 (list : List Int) : Int × (List Int) → Option (Lp (Int × (List Int)) ((List Int)))
 | (v, i) =>
  if (decide (0 ≤ v)) = true then
   (idx list v).bind fun e =>
   (chk (i.length + ([e] : List Int).length ≤ 4294967296)).bind fun u =>
   some (.nx ((w64 (v - 1)), (i ++ ([e] : List Int))))
  else
   some (.dn i)
noncomputable def zq72 (list : List Int) : Option ((List Int)) :=
 (iter (zq72_L1 list) ((w64 ((list.length : Int) - 1)), ([] : List Int))).bind fun (i1 : List Int) =>
 some i1
noncomputable def zq73_L1 (list : List Int) : Int × (List Int) → Option (Lp (Int × (List Int)) ((List Int)))
 | (v, i) =>
  if (decide (0 ≤ v)) = true then
   (idx list v).bind fun e =>
   (chk (i.length + ([e] : List Int).length ≤ 4294967296)).bind fun u =>
   some (.nx ((w64 (v - 1)), (i ++ ([e] : List Int))))
  else
   some (.dn i)
noncomputable def zq73 (list : List Int) : Option ((List Int)) :=
 (iter (zq73_L1 list) ((w64 ((list.length : Int) - 1)), ([] : List Int))).bind fun (i1 : List Int) =>
 some i1
noncomputable def zq63 (l : List Int) : Option ((List Int)) :=
 (chk (([] : List Int).length + l.length ≤ 4294967296)).bind fun u =>
 some (([] : List Int) ++ l)
noncomputable def zq64 (l : List Int) : Option ((List Int)) :=
 (chk (([] : List Int).length + l.length ≤ 4294967296)).bind fun u =>
 some (([] : List Int) ++ l)
noncomputable def zq79_L1 (n : Network) : Int × (List Line) → Option (Lp (Int × (List Line)) ((List Line)))
 | (v, v1) =>
  if (decide (v < (n.Lines.length : Int))) = true then
   (idx n.Lines v).bind fun e3 =>
   (idx n.Lines v).bind fun e4 =>
   (zq64 e4.Stops).bind fun r2 =>
   (idx n.Lines v).bind fun e5 =>
   (zq64 e5.Runs).bind fun r3 =>
   (chk (v1.length + ([(⟨e3.Name, r2, r3⟩ : Line)] : List Line).length ≤ 4294967296)).bind fun u2 =>
   some (.nx ((w64 (v + 1)), (v1 ++ ([(⟨e3.Name, r2, r3⟩ : Line)] : List Line))))
  else
   some (.dn v1)
noncomputable def zq79 (n : Network) : Option (Network) :=
 (chk (([] : List ByteArray).length + n.Stops.length ≤ 4294967296)).bind fun u =>
 (iter (zq79_L1 n) ((0 : Int), ([] : List Line))).bind fun (v2 : List Line) =>
 some (⟨(([] : List ByteArray) ++ n.Stops), v2⟩ : Network)
noncomputable def zq49_L1 (r : Int × l1Cur) : Int × (List UInt8) × Int × Int × (List Line) → Option (Lp (Int × (List UInt8) × Int × Int × (List Line)) ((List UInt8) × Int × Int × (List Line)))
 | (x, v, v1, v2, v3) =>
  if (decide (0 < x)) = true then
   (zq62 x).bind fun r4 =>
   (chk ((str [108]).size + r4.size ≤ 4294967296)).bind fun u3 =>
   (zq48 (⟨v, v1, (⟨v2⟩ : IK .u64)⟩ : l1Cur) ((str [108]) ++ r4) (w64 (2 + r.1))).bind fun r5 =>
   (chk (v3.length + ([r5.1] : List Line).length ≤ 4294967296)).bind fun u4 =>
   some (.nx ((w64 (x - 1)), r5.2.code_, r5.2.at_, r5.2.seed_.v, (v3 ++ ([r5.1] : List Line))))
  else
   some (.dn (v, v1, v2, v3))
noncomputable def zq49 (c : l1Cur) : Option (Network × l1Cur) :=
 (zq56 c 5).bind fun r =>
 (chk ((0 : Int) ≤ 0 ∧ (0 : Int) ≤ (w64 (2 + r.1)) ∧ (w64 (2 + r.1)) ≤ (([(str [112, 111, 114, 116]), (str [109, 105, 108, 108]), (str [112, 97, 114, 107]), (str [104, 97, 108, 108]), (str [100, 111, 99, 107]), (str [102, 97, 105, 114])] : List ByteArray).length : Int))).bind fun u =>
 (zq56 r.2 3).bind fun r1 =>
 (iter (zq49_L1 r) ((w64 (1 + r1.1)), r1.2.code_, r1.2.at_, r1.2.seed_.v, ([] : List Line))).bind fun ((v4, v5, v6, v7) : (List UInt8) × Int × Int × (List Line)) =>
 ((zq55 (⟨v4, v5, (⟨v6⟩ : IK .u64)⟩ : l1Cur) 2).bind fun r6 =>
 if r6.1 = true then
  (idx v7 0).bind fun e =>
  (zq73 e.Stops).bind fun r9 =>
  (zq73 e.Runs).bind fun r10 =>
  (chk (v7.length + ([(⟨(str [114, 49]), r9, r10⟩ : Line)] : List Line).length ≤ 4294967296)).bind fun u6 =>
  some (r6.2.code_, r6.2.at_, r6.2.seed_.v, (v7 ++ ([(⟨(str [114, 49]), r9, r10⟩ : Line)] : List Line)))
 else
  some (r6.2.code_, r6.2.at_, r6.2.seed_.v, v7)).bind fun ((v8, v9, v10, v11) : (List UInt8) × Int × Int × (List Line)) =>
 (zq79 (⟨((([(str [112, 111, 114, 116]), (str [109, 105, 108, 108]), (str [112, 97, 114, 107]), (str [104, 97, 108, 108]), (str [100, 111, 99, 107]), (str [102, 97, 105, 114])] : List ByteArray).take (w64 (2 + r.1)).toNat).drop (0 : Int).toNat), v11⟩ : Network)).bind fun r11 =>
 some ((⟨r11.Stops, r11.Lines⟩ : Network), (⟨v8, v9, (⟨v10⟩ : IK .u64)⟩ : l1Cur))
noncomputable def zq59_L1 (r : Network × l1Cur) : Int × Int × (List UInt8) × Int × Int × (List Trip) → Option (Lp (Int × Int × (List UInt8) × Int × Int × (List Trip)) ((List UInt8) × Int × Int × (List Trip)))
 | (n, v, v1, v2, v3, v4) =>
  if (decide (0 < v)) = true then
   (zq56 (⟨v1, v2, (⟨v3⟩ : IK .u64)⟩ : l1Cur) 3).bind fun r2 =>
   (zq56 r2.2 (r.1.Lines.length : Int)).bind fun r5 =>
   (zq56 r5.2 24).bind fun r6 =>
   (chk (v4.length + ([(⟨(w64 ((w64 (n + 1)) + r2.1)), r5.1, (w64 (360 + (w64 (5 * r6.1))))⟩ : Trip)] : List Trip).length ≤ 4294967296)).bind fun u1 =>
   some (.nx ((w64 ((w64 (n + 1)) + r2.1)), (w64 (v - 1)), r6.2.code_, r6.2.at_, r6.2.seed_.v, (v4 ++ ([(⟨(w64 ((w64 (n + 1)) + r2.1)), r5.1, (w64 (360 + (w64 (5 * r6.1))))⟩ : Trip)] : List Trip))))
  else
   some (.dn (v1, v2, v3, v4))
noncomputable def zq59 (c : l1Cur) : Option (Timetable × l1Cur) :=
 (zq49 c).bind fun r =>
 (zq56 r.2 8).bind fun r1 =>
 (iter (zq59_L1 r) ((0 : Int), r1.1, r1.2.code_, r1.2.at_, r1.2.seed_.v, ([] : List Trip))).bind fun ((v5, v6, v7, v8) : (List UInt8) × Int × Int × (List Trip)) =>
 some ((⟨(⟨r.1.Stops, r.1.Lines⟩ : Network), v8⟩ : Timetable), (⟨v5, v6, (⟨v7⟩ : IK .u64)⟩ : l1Cur))
noncomputable def zq42 (c : l1Cur) (list : List Int) : Option (Int × l1Cur) :=
 (zq56 c (list.length : Int)).bind fun r =>
 (idx list r.1).bind fun e =>
 some (e, r.2)
noncomputable def zq53 (c : l1Cur) (list : List ByteArray) : Option (ByteArray × l1Cur) :=
 (zq56 c (list.length : Int)).bind fun r =>
 (idx list r.1).bind fun e =>
 some (e, r.2)
noncomputable def zq54 (c : l1Cur) (list : List ByteArray) : Option (ByteArray × l1Cur) :=
 (zq56 c (list.length : Int)).bind fun r =>
 (idx list r.1).bind fun e =>
 some (e, r.2)
noncomputable def zq80_L1 (n : Network) : Int × (List Line) → Option (Lp (Int × (List Line)) ((List Line)))
 | (v, v1) =>
  if (decide (v < (n.Lines.length : Int))) = true then
   (idx n.Lines v).bind fun e3 =>
   (idx n.Lines v).bind fun e4 =>
   (zq63 e4.Stops).bind fun r2 =>
   (idx n.Lines v).bind fun e5 =>
   (zq63 e5.Runs).bind fun r3 =>
   (chk (v1.length + ([(⟨e3.Name, r2, r3⟩ : Line)] : List Line).length ≤ 4294967296)).bind fun u2 =>
   some (.nx ((w64 (v + 1)), (v1 ++ ([(⟨e3.Name, r2, r3⟩ : Line)] : List Line))))
  else
   some (.dn v1)
noncomputable def zq80 (n : Network) : Option (Network) :=
 (chk (([] : List ByteArray).length + n.Stops.length ≤ 4294967296)).bind fun u =>
 (iter (zq80_L1 n) ((0 : Int), ([] : List Line))).bind fun (v2 : List Line) =>
 some (⟨(([] : List ByteArray) ++ n.Stops), v2⟩ : Network)
noncomputable def zq50_L1 (r : Int × l1Cur) : Int × (List UInt8) × Int × Int × (List Line) → Option (Lp (Int × (List UInt8) × Int × Int × (List Line)) ((List UInt8) × Int × Int × (List Line)))
 | (x, v, v1, v2, v3) =>
  if (decide (0 < x)) = true then
   (zq62 x).bind fun r4 =>
   (chk ((str [108]).size + r4.size ≤ 4294967296)).bind fun u3 =>
   (zq48 (⟨v, v1, (⟨v2⟩ : IK .u64)⟩ : l1Cur) ((str [108]) ++ r4) (w64 (2 + r.1))).bind fun r5 =>
   (chk (v3.length + ([r5.1] : List Line).length ≤ 4294967296)).bind fun u4 =>
   some (.nx ((w64 (x - 1)), r5.2.code_, r5.2.at_, r5.2.seed_.v, (v3 ++ ([r5.1] : List Line))))
  else
   some (.dn (v, v1, v2, v3))
noncomputable def zq50 (c : l1Cur) : Option (Network × l1Cur) :=
 (zq56 c 5).bind fun r =>
 (chk ((0 : Int) ≤ 0 ∧ (0 : Int) ≤ (w64 (2 + r.1)) ∧ (w64 (2 + r.1)) ≤ (([(str [112, 111, 114, 116]), (str [109, 105, 108, 108]), (str [112, 97, 114, 107]), (str [104, 97, 108, 108]), (str [100, 111, 99, 107]), (str [102, 97, 105, 114])] : List ByteArray).length : Int))).bind fun u =>
 (zq56 r.2 3).bind fun r1 =>
 (iter (zq50_L1 r) ((w64 (1 + r1.1)), r1.2.code_, r1.2.at_, r1.2.seed_.v, ([] : List Line))).bind fun ((v4, v5, v6, v7) : (List UInt8) × Int × Int × (List Line)) =>
 ((zq55 (⟨v4, v5, (⟨v6⟩ : IK .u64)⟩ : l1Cur) 2).bind fun r6 =>
 if r6.1 = true then
  (idx v7 0).bind fun e =>
  (zq73 e.Stops).bind fun r9 =>
  (zq73 e.Runs).bind fun r10 =>
  (chk (v7.length + ([(⟨(str [114, 49]), r9, r10⟩ : Line)] : List Line).length ≤ 4294967296)).bind fun u6 =>
  some (r6.2.code_, r6.2.at_, r6.2.seed_.v, (v7 ++ ([(⟨(str [114, 49]), r9, r10⟩ : Line)] : List Line)))
 else
  some (r6.2.code_, r6.2.at_, r6.2.seed_.v, v7)).bind fun ((v8, v9, v10, v11) : (List UInt8) × Int × Int × (List Line)) =>
 (zq80 (⟨((([(str [112, 111, 114, 116]), (str [109, 105, 108, 108]), (str [112, 97, 114, 107]), (str [104, 97, 108, 108]), (str [100, 111, 99, 107]), (str [102, 97, 105, 114])] : List ByteArray).take (w64 (2 + r.1)).toNat).drop (0 : Int).toNat), v11⟩ : Network)).bind fun r11 =>
 some ((⟨r11.Stops, r11.Lines⟩ : Network), (⟨v8, v9, (⟨v10⟩ : IK .u64)⟩ : l1Cur))
noncomputable def zq43 (c : l1Cur) (list : List Int) : Option (Int × l1Cur) :=
 (zq56 c (list.length : Int)).bind fun r =>
 (idx list r.1).bind fun e =>
 some (e, r.2)
noncomputable def zq44_L1 (r : Network × l1Cur) : Int × (List UInt8) × Int × Int × (List Line) → Option (Lp (Int × (List UInt8) × Int × Int × (List Line)) ((List UInt8) × Int × Int × (List Line)))
 | (v7, v8, v9, v10, v11) =>
  (zq56 (⟨v8, v9, (⟨v10⟩ : IK .u64)⟩ : l1Cur) 2).bind fun r16 =>
  (if (decide ((v11.length : Int) < (w64 (5 + r16.1)))) = true then some (decide (v7 < 7)) else some false).bind fun (v12 : Bool) =>
  if v12 = true then
   (zq62 v7).bind fun r19 =>
   (chk ((str [120]).size + r19.size ≤ 4294967296)).bind fun u3 =>
   (zq47 r16.2 ((str [120]) ++ r19) (r.1.Stops.length : Int)).bind fun r20 =>
   (chk (v11.length + ([(⟨r20.1.Name, r20.1.Stops, r20.1.Runs⟩ : Line)] : List Line).length ≤ 4294967296)).bind fun u4 =>
   some (.nx ((w64 (v7 + 1)), r20.2.code_, r20.2.at_, r20.2.seed_.v, (v11 ++ ([(⟨r20.1.Name, r20.1.Stops, r20.1.Runs⟩ : Line)] : List Line))))
  else
   some (.dn (r16.2.code_, r16.2.at_, r16.2.seed_.v, v11))
noncomputable def zq44 (c : l1Cur) : Option (Network × l1Cur) :=
 (zq50 c).bind fun r =>
 (zq56 r.2 (r.1.Lines.length : Int)).bind fun r1 =>
 (idx r.1.Lines r1.1).bind fun e =>
 flb ((zq56 r1.2 24).bind fun r2 =>
 if (r2.1 == 0) = true then
  (zq54 r2.2 ([(str [109, 105, 108, 108]), (str []), (str [65]), (str [97, 98, 99, 100, 101, 102, 103, 104]), (str [97, 98, 99, 100, 101, 102, 103, 104, 105])] : List ByteArray)).bind fun r4 =>
  (idx r.1.Stops 0).bind fun e2 =>
  some (.go (r4.2.code_, r4.2.at_, r4.2.seed_.v, e.Name, (r.1.Stops.set (0 : Int).toNat r4.1), r.1.Lines, e.Runs))
 else
  if (r2.1 == 1) = true then
   (zq54 r2.2 ([(str [114, 49]), (str [108, 49]), (str []), (str [88])] : List ByteArray)).bind fun r5 =>
   some (.go (r5.2.code_, r5.2.at_, r5.2.seed_.v, r5.1, r.1.Stops, r.1.Lines, e.Runs))
  else
   if (r2.1 == 2) = true then
    (zq56 r2.2 (e.Stops.length : Int)).bind fun r8 =>
    (zq56 r8.2 10).bind fun r9 =>
    (idx e.Stops r8.1).bind fun e4 =>
    some (.go (r9.2.code_, r9.2.at_, r9.2.seed_.v, e.Name, r.1.Stops, (r.1.Lines.set r1.1.toNat (⟨e.Name, (e.Stops.set r8.1.toNat (w64 (r9.1 - 1))), e.Runs⟩ : Line)), ((⟨e.Name, (e.Stops.set r8.1.toNat (w64 (r9.1 - 1))), e.Runs⟩ : Line).Runs)))
   else
    if (r2.1 == 3) = true then
     (zq56 r2.2 (e.Runs.length : Int)).bind fun r12 =>
     (zq43 r12.2 ([0, 60, 61, (-1)] : List Int)).bind fun r13 =>
     (idx e.Runs r12.1).bind fun e6 =>
     some (.go (r13.2.code_, r13.2.at_, r13.2.seed_.v, e.Name, r.1.Stops, (r.1.Lines.set r1.1.toNat (⟨e.Name, e.Stops, (e.Runs.set r12.1.toNat r13.1)⟩ : Line)), ((⟨e.Name, e.Stops, (e.Runs.set r12.1.toNat r13.1)⟩ : Line).Runs)))
    else
     if (r2.1 == 4) = true then
      (chk (e.Runs.length + ([3] : List Int).length ≤ 4294967296)).bind fun u =>
      some (.go (r2.2.code_, r2.2.at_, r2.2.seed_.v, e.Name, r.1.Stops, r.1.Lines, (e.Runs ++ ([3] : List Int))))
     else
      if (r2.1 == 5) = true then
       some (.ret ((⟨r.1.Stops, ([] : List Line)⟩ : Network), r2.2))
      else
       if (r2.1 == 6) = true then
        (iter (zq44_L1 r) ((0 : Int), r2.2.code_, r2.2.at_, r2.2.seed_.v, r.1.Lines)).bind fun ((v13, v14, v15, v16) : (List UInt8) × Int × Int × (List Line)) =>
        some (.ret ((⟨r.1.Stops, v16⟩ : Network), (⟨v13, v14, (⟨v15⟩ : IK .u64)⟩ : l1Cur)))
       else
        some (.go (r2.2.code_, r2.2.at_, r2.2.seed_.v, e.Name, r.1.Stops, r.1.Lines, e.Runs))) fun ((v, v1, v2, v3, v4, v5, v6) : (List UInt8) × Int × Int × ByteArray × (List ByteArray) × (List Line) × (List Int)) =>
 (idx v5 r1.1).bind fun e9 =>
 some ((⟨v4, (v5.set r1.1.toNat (⟨v3, e9.Stops, v6⟩ : Line))⟩ : Network), (⟨v, v1, (⟨v2⟩ : IK .u64)⟩ : l1Cur))
noncomputable def zq45_L1 : Int × (List UInt8) × Int × Int × (List Trip) → Option (Lp (Int × (List UInt8) × Int × Int × (List Trip)) ((List UInt8) × Int × Int × (List Trip)))
 | (v8, v9, v10, v11, v12) =>
  (zq56 (⟨v9, v10, (⟨v11⟩ : IK .u64)⟩ : l1Cur) 2).bind fun r8 =>
  (if (decide ((v12.length : Int) < (w64 (12 + r8.1)))) = true then some (decide (v8 < 14)) else some false).bind fun (v13 : Bool) =>
  if v13 = true then
   (chk (v12.length + ([(⟨(w64 (100 + v8)), 0, (w64 (400 + v8))⟩ : Trip)] : List Trip).length ≤ 4294967296)).bind fun u =>
   some (.nx ((w64 (v8 + 1)), r8.2.code_, r8.2.at_, r8.2.seed_.v, (v12 ++ ([(⟨(w64 (100 + v8)), 0, (w64 (400 + v8))⟩ : Trip)] : List Trip))))
  else
   some (.dn (r8.2.code_, r8.2.at_, r8.2.seed_.v, v12))
noncomputable def zq45 (c : l1Cur) : Option (Timetable × l1Cur) :=
 (zq59 c).bind fun r =>
 if ((r.1.Trips.length : Int) == 0) = true then
  some ((⟨(⟨r.1.Network.Stops, r.1.Network.Lines⟩ : Network), r.1.Trips⟩ : Timetable), r.2)
 else
  (zq56 r.2 (r.1.Trips.length : Int)).bind fun r1 =>
  (idx r.1.Trips r1.1).bind fun e =>
  flb ((zq56 r1.2 24).bind fun r2 =>
  if (r2.1 == 0) = true then
   (zq42 r2.2 ([0, 999, 1000, 2] : List Int)).bind fun r3 =>
   some (.go (r3.2.code_, r3.2.at_, r3.2.seed_.v, r.1.Network.Lines, r3.1, e.Line, e.Start, r.1.Network.Stops))
  else
   if (r2.1 == 1) = true then
    (zq56 r2.2 7).bind fun r4 =>
    some (.go (r4.2.code_, r4.2.at_, r4.2.seed_.v, r.1.Network.Lines, e.Id, (w64 (r4.1 - 1)), e.Start, r.1.Network.Stops))
   else
    if (r2.1 == 2) = true then
     (zq42 r2.2 ([(-1), 0, 1799, 1798, 1800] : List Int)).bind fun r5 =>
     some (.go (r5.2.code_, r5.2.at_, r5.2.seed_.v, r.1.Network.Lines, e.Id, e.Line, r5.1, r.1.Network.Stops))
    else
     if (r2.1 == 3) = true then
      (zq44 r2.2).bind fun r6 =>
      some (.go (r6.2.code_, r6.2.at_, r6.2.seed_.v, r6.1.Lines, e.Id, e.Line, e.Start, r6.1.Stops))
     else
      if (r2.1 == 4) = true then
       (iter (zq45_L1) ((0 : Int), r2.2.code_, r2.2.at_, r2.2.seed_.v, r.1.Trips)).bind fun ((v14, v15, v16, v17) : (List UInt8) × Int × Int × (List Trip)) =>
       some (.ret ((⟨(⟨r.1.Network.Stops, r.1.Network.Lines⟩ : Network), v17⟩ : Timetable), (⟨v14, v15, (⟨v16⟩ : IK .u64)⟩ : l1Cur)))
      else
       some (.go (r2.2.code_, r2.2.at_, r2.2.seed_.v, r.1.Network.Lines, e.Id, e.Line, e.Start, r.1.Network.Stops))) fun ((v, v1, v2, v3, v4, v5, v6, v7) : (List UInt8) × Int × Int × (List Line) × Int × Int × Int × (List ByteArray)) =>
  (idx r.1.Trips r1.1).bind fun e2 =>
  some ((⟨(⟨v7, v3⟩ : Network), (r.1.Trips.set r1.1.toNat (⟨v4, v5, v6⟩ : Trip))⟩ : Timetable), (⟨v, v1, (⟨v2⟩ : IK .u64)⟩ : l1Cur))
noncomputable def zq46_L1 (t : Timetable) : Int × (List UInt8) × Int × Int × (List TripDelay) → Option (Lp (Int × (List UInt8) × Int × Int × (List TripDelay)) ((List UInt8) × Int × Int × (List TripDelay)))
 | (v, v1, v2, v3, v4) =>
  if (decide (v < (t.Trips.length : Int))) = true then
   ((zq55 (⟨v1, v2, (⟨v3⟩ : IK .u64)⟩ : l1Cur) 3).bind fun r =>
   if r.1 = true then
    (idx t.Trips v).bind fun e1 =>
    (zq43 r.2 ([1, 2, 5, 10, 30, 0] : List Int)).bind fun r2 =>
    (chk (v4.length + ([(⟨e1.Id, r2.1⟩ : TripDelay)] : List TripDelay).length ≤ 4294967296)).bind fun u1 =>
    some (r2.2.code_, r2.2.at_, r2.2.seed_.v, (v4 ++ ([(⟨e1.Id, r2.1⟩ : TripDelay)] : List TripDelay)))
   else
    some (r.2.code_, r.2.at_, r.2.seed_.v, v4)).bind fun ((v5, v6, v7, v8) : (List UInt8) × Int × Int × (List TripDelay)) =>
   some (.nx ((w64 (v + 1)), v5, v6, v7, v8))
  else
   some (.dn (v1, v2, v3, v4))
noncomputable def zq46 (c : l1Cur) (t : Timetable) : Option ((List TripDelay) × l1Cur) :=
 (iter (zq46_L1 t) ((0 : Int), c.code_, c.at_, c.seed_.v, ([] : List TripDelay))).bind fun ((v9, v10, v11, v12) : (List UInt8) × Int × Int × (List TripDelay)) =>
 ((zq56 (⟨v9, v10, (⟨v11⟩ : IK .u64)⟩ : l1Cur) 40).bind fun r3 =>
 if (r3.1 == 0) = true then
  (zq43 r3.2 ([0, 1, 999] : List Int)).bind fun r4 =>
  (chk (v12.length + ([(⟨r4.1, 5⟩ : TripDelay)] : List TripDelay).length ≤ 4294967296)).bind fun u2 =>
  some (r4.2.code_, r4.2.at_, r4.2.seed_.v, (v12 ++ ([(⟨r4.1, 5⟩ : TripDelay)] : List TripDelay)))
 else
  if (r3.1 == 1) = true then
   if (decide (0 < (v12.length : Int))) = true then
    (idx v12 (w64 ((v12.length : Int) - 1))).bind fun e4 =>
    (zq43 r3.2 ([(-1), 600, 601] : List Int)).bind fun r6 =>
    (idx v12 (w64 ((v12.length : Int) - 1))).bind fun e5 =>
    some (r6.2.code_, r6.2.at_, r6.2.seed_.v, (v12.set (w64 ((v12.length : Int) - 1)).toNat (⟨e4.Id, r6.1⟩ : TripDelay)))
   else
    some (r3.2.code_, r3.2.at_, r3.2.seed_.v, v12)
  else
   some (r3.2.code_, r3.2.at_, r3.2.seed_.v, v12)).bind fun ((v13, v14, v15, v16) : (List UInt8) × Int × Int × (List TripDelay)) =>
 some (v16, (⟨v13, v14, (⟨v15⟩ : IK .u64)⟩ : l1Cur))
noncomputable def zq60 (x : Int) (a : Int) (b : Int) : Option (Bool) :=
 (if (decide (a ≤ x)) = true then some (decide (x ≤ b)) else some false).bind fun (v : Bool) =>
 some v
noncomputable def zq78_L1 (s : ByteArray) : Int → Option (Lp (Int) (Fl (Bool) (Unit)))
 | v1 =>
  if (decide (v1 < (s.size : Int))) = true then
   (chk ((0 : Int) ≤ v1 ∧ v1 < (s.size : Int))).bind fun u2 =>
   (if (decide (((s.data.toList.getD v1.toNat 0).toNat : Int) < 97)) = true then (chk ((0 : Int) ≤ v1 ∧ v1 < (s.size : Int))).bind fun u3 =>
   if (decide (((s.data.toList.getD v1.toNat 0).toNat : Int) < 48)) = true then some true else (chk ((0 : Int) ≤ v1 ∧ v1 < (s.size : Int))).bind fun u4 =>
   some (decide (57 < ((s.data.toList.getD v1.toNat 0).toNat : Int))) else (chk ((0 : Int) ≤ v1 ∧ v1 < (s.size : Int))).bind fun u5 =>
   if (decide (122 < ((s.data.toList.getD v1.toNat 0).toNat : Int))) = true then (chk ((0 : Int) ≤ v1 ∧ v1 < (s.size : Int))).bind fun u6 =>
   if (decide (((s.data.toList.getD v1.toNat 0).toNat : Int) < 48)) = true then some true else (chk ((0 : Int) ≤ v1 ∧ v1 < (s.size : Int))).bind fun u7 =>
   some (decide (57 < ((s.data.toList.getD v1.toNat 0).toNat : Int))) else some false).bind fun (v2 : Bool) =>
   if v2 = true then
    some (.dn (.ret false))
   else
    some (.nx (w64 (v1 + 1)))
  else
   some (.dn (.go ()))
noncomputable def zq78 (s : ByteArray) : Option (Bool) :=
 (zq60 (s.size : Int) 1 8).bind fun r =>
 (if (!r) = true then some true else (chk ((0 : Int) ≤ 0 ∧ 0 < (s.size : Int))).bind fun u =>
 if (decide (((s.data.toList.getD (0 : Int).toNat 0).toNat : Int) < 97)) = true then some true else (chk ((0 : Int) ≤ 0 ∧ 0 < (s.size : Int))).bind fun u1 =>
 some (decide (122 < ((s.data.toList.getD (0 : Int).toNat 0).toNat : Int)))).bind fun (v : Bool) =>
 if v = true then
  some false
 else
  flb (iter (zq78_L1 s) (0 : Int)) fun (_ : Unit) =>
  some true
noncomputable def zq74_L1 (list : List ByteArray) (name : ByteArray) : Int → Option (Lp (Int) (Fl (Int) (Unit)))
 | v =>
  if (decide (v < (list.length : Int))) = true then
   (idx list v).bind fun e =>
   if (e.toList == name.toList) = true then
    some (.dn (.ret v))
   else
    some (.nx (w64 (v + 1)))
  else
   some (.dn (.go ()))
noncomputable def zq74 (list : List ByteArray) (name : ByteArray) : Option (Int) :=
 flb (iter (zq74_L1 list name) (0 : Int)) fun (_ : Unit) =>
 some (-1)
noncomputable def zq76_L1 (x : Line) (stops : Int) : Int → Option (Lp (Int) (Fl (Bool) (Unit)))
 | v1 =>
  if (decide (v1 < (x.Stops.length : Int))) = true then
   (idx x.Stops v1).bind fun e2 =>
   (zq60 e2 0 (w64 (stops - 1))).bind fun r4 =>
   (if (!r4) = true then some true else (idx x.Stops v1).bind fun e3 =>
   (zq81 x e3).bind fun r5 =>
   some (r5 != v1)).bind fun (v2 : Bool) =>
   if v2 = true then
    some (.dn (.ret false))
   else
    some (.nx (w64 (v1 + 1)))
  else
   some (.dn (.go ()))
noncomputable def zq76_L2 (x : Line) : Int → Option (Lp (Int) (Fl (Bool) (Unit)))
 | v3 =>
  if (decide (v3 < (x.Runs.length : Int))) = true then
   (idx x.Runs v3).bind fun e5 =>
   (zq60 e5 1 60).bind fun r7 =>
   if (!r7) = true then
    some (.dn (.ret false))
   else
    some (.nx (w64 (v3 + 1)))
  else
   some (.dn (.go ()))
noncomputable def zq76 (x : Line) (stops : Int) : Option (Bool) :=
 (zq78 x.Name).bind fun r =>
 (if (!r) = true then some true else (zq60 (x.Stops.length : Int) 2 6).bind fun r1 =>
 if (!r1) = true then some true else some ((x.Runs.length : Int) != (w64 ((x.Stops.length : Int) - 1)))).bind fun (v : Bool) =>
 if v = true then
  some false
 else
  flb (iter (zq76_L1 x stops) (0 : Int)) fun (_ : Unit) =>
  flb (iter (zq76_L2 x) (0 : Int)) fun (_ : Unit) =>
  some true
noncomputable def zq77_L1 (n : Network) (name : ByteArray) : Int → Option (Lp (Int) (Fl (Int) (Unit)))
 | v =>
  if (decide (v < (n.Lines.length : Int))) = true then
   (idx n.Lines v).bind fun e =>
   if (e.Name.toList == name.toList) = true then
    some (.dn (.ret v))
   else
    some (.nx (w64 (v + 1)))
  else
   some (.dn (.go ()))
noncomputable def zq77 (n : Network) (name : ByteArray) : Option (Int) :=
 flb (iter (zq77_L1 n name) (0 : Int)) fun (_ : Unit) =>
 some (-1)
noncomputable def zq75_L1 (n : Network) : Int → Option (Lp (Int) (Fl (Bool) (Unit)))
 | i =>
  if (decide (i < (n.Stops.length : Int))) = true then
   (idx n.Stops i).bind fun e2 =>
   (zq78 e2).bind fun r4 =>
   (if (!r4) = true then some true else (idx n.Stops i).bind fun e3 =>
   (zq74 n.Stops e3).bind fun r5 =>
   some (r5 != i)).bind fun (v1 : Bool) =>
   if v1 = true then
    some (.dn (.ret false))
   else
    some (.nx (w64 (i + 1)))
  else
   some (.dn (.go ()))
noncomputable def zq75_L2 (n : Network) : Int → Option (Lp (Int) (Fl (Bool) (Unit)))
 | v2 =>
  if (decide (v2 < (n.Lines.length : Int))) = true then
   (idx n.Lines v2).bind fun e7 =>
   (zq76 e7 (n.Stops.length : Int)).bind fun r9 =>
   (if (!r9) = true then some true else (idx n.Lines v2).bind fun e8 =>
   (zq77 n e8.Name).bind fun r10 =>
   some (r10 != v2)).bind fun (v3 : Bool) =>
   if v3 = true then
    some (.dn (.ret false))
   else
    some (.nx (w64 (v2 + 1)))
  else
   some (.dn (.go ()))
noncomputable def zq75 (n : Network) : Option (Bool) :=
 (zq60 (n.Stops.length : Int) 2 8).bind fun r =>
 (if (!r) = true then some true else (zq60 (n.Lines.length : Int) 1 5).bind fun r1 =>
 some (!r1)).bind fun (v : Bool) =>
 if v = true then
  some false
 else
  flb (iter (zq75_L1 n) (0 : Int)) fun (_ : Unit) =>
  flb (iter (zq75_L2 n) (0 : Int)) fun (_ : Unit) =>
  some true
noncomputable def zq84 (t : Int) : Option (Bool) :=
 (zq60 t 0 1799).bind fun r =>
 some r
noncomputable def zq90 (t : Timetable) (i : Int) : Option (Line) :=
 (idx t.Trips i).bind fun e2 =>
 (idx t.Network.Lines e2.Line).bind fun e3 =>
 some e3
noncomputable def zq91 (t : Timetable) (i : Int) : Option ((List Int)) :=
 (zq90 t i).bind fun r =>
 some r.Stops
noncomputable def zq82_L1 (x : Line) (to_ : Int) : Int × Int → Option (Lp (Int × Int) (Int))
 | (v, v1) =>
  if (decide (v1 < to_)) = true then
   (idx x.Runs v1).bind fun e =>
   some (.nx ((w64 (v + e)), (w64 (v1 + 1))))
  else
   some (.dn v)
noncomputable def zq82 (x : Line) (from_ : Int) (to_ : Int) : Option (Int) :=
 (iter (zq82_L1 x to_) ((0 : Int), from_)).bind fun (v2 : Int) =>
 some v2
noncomputable def zq86 (t : Timetable) (i : Int) (k : Int) : Option (Int) :=
 (idx t.Trips i).bind fun e1 =>
 (zq90 t i).bind fun r2 =>
 (zq82 r2 0 k).bind fun r3 =>
 some (w64 (e1.Start + r3))
noncomputable def zq87 (t : Timetable) (i : Int) : Option (Int) :=
 (zq91 t i).bind fun r2 =>
 (zq86 t i (w64 ((r2.length : Int) - 1))).bind fun r3 =>
 some r3
noncomputable def zq89_L1 (t : Timetable) : Int → Option (Lp (Int) (Fl (Bool) (Unit)))
 | x =>
  if (decide (x < (t.Trips.length : Int))) = true then
   (idx t.Trips x).bind fun e =>
   (zq60 e.Id 1 999).bind fun r6 =>
   (if (!r6) = true then some true else (zq60 e.Line 0 (w64 ((t.Network.Lines.length : Int) - 1))).bind fun r7 =>
   if (!r7) = true then some true else (zq84 e.Start).bind fun r8 =>
   if (!r8) = true then some true else (zq87 t x).bind fun r9 =>
   (zq84 r9).bind fun r10 =>
   if (!r10) = true then some true else if (decide (0 < x)) = true then (idx t.Trips (w64 (x - 1))).bind fun e2 =>
   some (decide (e.Id ≤ e2.Id)) else some false).bind fun (v1 : Bool) =>
   if v1 = true then
    some (.dn (.ret false))
   else
    some (.nx (w64 (x + 1)))
  else
   some (.dn (.go ()))
noncomputable def zq89 (t : Timetable) : Option (Bool) :=
 (zq75 t.Network).bind fun r =>
 (if (!r) = true then some true else some (decide (12 < (t.Trips.length : Int)))).bind fun (v : Bool) =>
 if v = true then
  some false
 else
  flb (iter (zq89_L1 t) (0 : Int)) fun (_ : Unit) =>
  some true
noncomputable def zq57 (c : l1Cur) (t : Timetable) : Option (Int × l1Cur) :=
 (if (decide (0 < (t.Trips.length : Int))) = true then (zq89 t).bind fun r =>
 if r = true then (zq55 c 6).bind fun r1 =>
 some ((!r1.1), r1.2.code_, r1.2.at_, r1.2.seed_.v) else some (false, c.code_, c.at_, c.seed_.v) else some (false, c.code_, c.at_, c.seed_.v)).bind fun ((v, v1, v2, v3) : Bool × (List UInt8) × Int × Int) =>
 if v = true then
  (zq56 (⟨v1, v2, (⟨v3⟩ : IK .u64)⟩ : l1Cur) (t.Trips.length : Int)).bind fun r4 =>
  (zq91 t r4.1).bind fun r5 =>
  (zq56 r4.2 (r5.length : Int)).bind fun r6 =>
  (idx r5 r6.1).bind fun e =>
  some (e, r6.2)
 else
  (zq56 (⟨v1, v2, (⟨v3⟩ : IK .u64)⟩ : l1Cur) (w64 ((t.Network.Stops.length : Int) + 1))).bind fun r7 =>
  (zq56 r7.2 12).bind fun r8 =>
  (chk ((11 : Int) ≠ 0)).bind fun u =>
  some ((w64 (r7.1 - (w64 (r8.1.tdiv 11)))), r8.2)
noncomputable def zq58 (c : l1Cur) : Option (Int × l1Cur) :=
 (zq55 c 16).bind fun r =>
 if r.1 = true then
  (zq42 r.2 ([0, 1799, 1800, (-1), 1440, 1439] : List Int)).bind fun r1 =>
  some (r1.1, r1.2)
 else
  (zq56 r.2 240).bind fun r2 =>
  some ((w64 (360 + r2.1)), r2.2)
noncomputable def zq52 (c : l1Cur) (t : Timetable) : Option (Int × l1Cur) :=
 (if (decide (0 < (t.Trips.length : Int))) = true then (zq55 c 6).bind fun r =>
 some ((!r.1), r.2.code_, r.2.at_, r.2.seed_.v) else some (false, c.code_, c.at_, c.seed_.v)).bind fun ((v, v1, v2, v3) : Bool × (List UInt8) × Int × Int) =>
 if v = true then
  (zq56 (⟨v1, v2, (⟨v3⟩ : IK .u64)⟩ : l1Cur) (t.Trips.length : Int)).bind fun r3 =>
  (idx t.Trips r3.1).bind fun e1 =>
  (zq56 r3.2 40).bind fun r4 =>
  some ((w64 ((w64 (e1.Start + r4.1)) - 10)), r4.2)
 else
  (zq58 (⟨v1, v2, (⟨v3⟩ : IK .u64)⟩ : l1Cur)).bind fun r5 =>
  some (r5.1, r5.2)
noncomputable def zq38 (code : List UInt8) : Option (Timetable × (List TripDelay) × Int × Int × Int) :=
 (zq45 (⟨code, 0, (⟨0⟩ : IK .u64)⟩ : l1Cur)).bind fun r =>
 (zq46 r.2 r.1).bind fun r1 =>
 (zq57 r1.2 r.1).bind fun r2 =>
 (zq52 r2.2 r.1).bind fun r3 =>
 (zq56 r3.2 24).bind fun r6 =>
 (chk ((11 : Int) ≠ 0)).bind fun u2 =>
 (chk ((0 : Int) ≤ 0 ∧ (0 : Int) ≤ (w64 (5 + (w64 (r6.1.tdiv 11)))) ∧ (w64 (5 + (w64 (r6.1.tdiv 11)))) ≤ (([1, 2, 3, 5, 10, 0, 11] : List Int).length : Int))).bind fun u3 =>
 (zq43 r6.2 ((([1, 2, 3, 5, 10, 0, 11] : List Int).take (w64 (5 + (w64 (r6.1.tdiv 11)))).toNat).drop (0 : Int).toNat)).bind fun r7 =>
 some (r.1, r1.1, r2.1, r3.1, r7.1)
noncomputable def zq36 (n : Int) (lo : Int) (hi : Int) : Option (Bool) :=
 (if (decide (lo ≤ n)) = true then some (decide (n ≤ hi)) else some false).bind fun (v : Bool) =>
 some v
noncomputable def zq24_L1 (s : ByteArray) : Int → Option (Lp (Int) (Fl (Bool) (Unit)))
 | v1 =>
  if (decide (v1 < (s.size : Int))) = true then
   (chk ((0 : Int) ≤ v1 ∧ v1 < (s.size : Int))).bind fun u =>
   (if (decide (97 ≤ ((s.data.toList.getD v1.toNat 0).toNat : Int))) = true then (chk ((0 : Int) ≤ v1 ∧ v1 < (s.size : Int))).bind fun u1 =>
   some (decide (((s.data.toList.getD v1.toNat 0).toNat : Int) ≤ 122)) else some false).bind fun (v2 : Bool) =>
   (if (!v2) = true then if (v1 == 0) = true then some true else (chk ((0 : Int) ≤ v1 ∧ v1 < (s.size : Int))).bind fun u2 =>
   if (decide (((s.data.toList.getD v1.toNat 0).toNat : Int) < 48)) = true then some true else (chk ((0 : Int) ≤ v1 ∧ v1 < (s.size : Int))).bind fun u3 =>
   some (decide (57 < ((s.data.toList.getD v1.toNat 0).toNat : Int))) else some false).bind fun (v3 : Bool) =>
   if v3 = true then
    some (.dn (.ret false))
   else
    some (.nx (w64 (v1 + 1)))
  else
   some (.dn (.go ()))
noncomputable def zq24 (s : ByteArray) : Option (Bool) :=
 (if (decide ((s.size : Int) < 1)) = true then some true else some (decide (8 < (s.size : Int)))).bind fun (v : Bool) =>
 if v = true then
  some false
 else
  flb (iter (zq24_L1 s) (0 : Int)) fun (_ : Unit) =>
  some true
noncomputable def zq95_L1 (s : List ByteArray) (v : ByteArray) : Int → Option (Lp (Int) (Fl (Int) (Unit)))
 | v1 =>
  if (decide (v1 < (s.length : Int))) = true then
   (idx s v1).bind fun e =>
   if (v.toList == e.toList) = true then
    some (.dn (.ret v1))
   else
    some (.nx (w64 (v1 + 1)))
  else
   some (.dn (.go ()))
noncomputable def zq95 (s : List ByteArray) (v : ByteArray) : Option (Int) :=
 flb (iter (zq95_L1 s v) (0 : Int)) fun (_ : Unit) =>
 some (-1)
noncomputable def zq11_L1 (names : List ByteArray) : Int → Option (Lp (Int) (Fl (Bool) (Unit)))
 | v =>
  if (decide (v < (names.length : Int))) = true then
   (idx names v).bind fun e =>
   (zq24 e).bind fun r =>
   (if (!r) = true then some true else (zq95 names e).bind fun r1 =>
   some (r1 != v)).bind fun (v1 : Bool) =>
   if v1 = true then
    some (.dn (.ret false))
   else
    some (.nx (w64 (v + 1)))
  else
   some (.dn (.go ()))
noncomputable def zq11 (names : List ByteArray) : Option (Bool) :=
 flb (iter (zq11_L1 names) (0 : Int)) fun (_ : Unit) =>
 some true
noncomputable def zq28_L1 (n : Network) : Int × (List ByteArray) → Option (Lp (Int × (List ByteArray)) ((List ByteArray)))
 | (v, i) =>
  if (decide (v < (n.Lines.length : Int))) = true then
   (idx n.Lines v).bind fun e =>
   (idx i v).bind fun e1 =>
   some (.nx ((w64 (v + 1)), (i.set v.toNat e.Name)))
  else
   some (.dn i)
noncomputable def zq28 (n : Network) : Option ((List ByteArray)) :=
 (chk ((0 : Int) ≤ (n.Lines.length : Int) ∧ ((n.Lines.length : Int) : Int) ≤ 4294967296)).bind fun u =>
 (iter (zq28_L1 n) ((0 : Int), (List.replicate (n.Lines.length : Int).toNat (ByteArray.empty : ByteArray)))).bind fun (i1 : List ByteArray) =>
 some i1
noncomputable def zq25 (n : Network) (stop : Int) : Option (Bool) :=
 (if (decide (0 ≤ stop)) = true then some (decide (stop < (n.Stops.length : Int))) else some false).bind fun (v : Bool) =>
 some v
noncomputable def zq94_L1 (s : List Int) (v : Int) : Int → Option (Lp (Int) (Fl (Int) (Unit)))
 | v1 =>
  if (decide (v1 < (s.length : Int))) = true then
   (idx s v1).bind fun e =>
   if (v == e) = true then
    some (.dn (.ret v1))
   else
    some (.nx (w64 (v1 + 1)))
  else
   some (.dn (.go ()))
noncomputable def zq94 (s : List Int) (v : Int) : Option (Int) :=
 flb (iter (zq94_L1 s v) (0 : Int)) fun (_ : Unit) =>
 some (-1)
noncomputable def zq26_L1 (n : Network) (l : Line) : Int → Option (Lp (Int) (Fl (Bool) (Unit)))
 | v1 =>
  if (decide (v1 < (l.Stops.length : Int))) = true then
   (idx l.Stops v1).bind fun e =>
   (zq25 n e).bind fun r1 =>
   (if (!r1) = true then some true else (zq94 l.Stops e).bind fun r2 =>
   some (r2 != v1)).bind fun (v2 : Bool) =>
   if v2 = true then
    some (.dn (.ret false))
   else
    some (.nx (w64 (v1 + 1)))
  else
   some (.dn (.go ()))
noncomputable def zq26_L2 (l : Line) : Int → Option (Lp (Int) (Fl (Bool) (Unit)))
 | v3 =>
  if (decide (v3 < (l.Runs.length : Int))) = true then
   (idx l.Runs v3).bind fun e2 =>
   (zq36 e2 1 60).bind fun r4 =>
   if (!r4) = true then
    some (.dn (.ret false))
   else
    some (.nx (w64 (v3 + 1)))
  else
   some (.dn (.go ()))
noncomputable def zq26 (n : Network) (l : Line) : Option (Bool) :=
 (zq36 (l.Stops.length : Int) 2 6).bind fun r =>
 (if (!r) = true then some true else some ((l.Runs.length : Int) != (w64 ((l.Stops.length : Int) - 1)))).bind fun (v : Bool) =>
 if v = true then
  some false
 else
  flb (iter (zq26_L1 n l) (0 : Int)) fun (_ : Unit) =>
  flb (iter (zq26_L2 l) (0 : Int)) fun (_ : Unit) =>
  some true
noncomputable def zq5_L1 (n : Network) : Int → Option (Lp (Int) (Fl (Bool) (Unit)))
 | v1 =>
  if (decide (v1 < (n.Lines.length : Int))) = true then
   (idx n.Lines v1).bind fun e =>
   (zq26 n e).bind fun r5 =>
   if (!r5) = true then
    some (.dn (.ret false))
   else
    some (.nx (w64 (v1 + 1)))
  else
   some (.dn (.go ()))
noncomputable def zq5 (n : Network) : Option (Bool) :=
 (zq36 (n.Stops.length : Int) 2 8).bind fun r =>
 (if (!r) = true then some true else (zq36 (n.Lines.length : Int) 1 5).bind fun r1 =>
 if (!r1) = true then some true else (zq11 n.Stops).bind fun r2 =>
 if (!r2) = true then some true else (zq28 n).bind fun r3 =>
 (zq11 r3).bind fun r4 =>
 some (!r4)).bind fun (v : Bool) =>
 if v = true then
  some false
 else
  flb (iter (zq5_L1 n) (0 : Int)) fun (_ : Unit) =>
  some true
noncomputable def zq23 (n : Network) (line : Int) : Option (Bool) :=
 (if (decide (0 ≤ line)) = true then some (decide (line < (n.Lines.length : Int))) else some false).bind fun (v : Bool) =>
 some v
noncomputable def zq6 (t : Int) : Option (Bool) :=
 (zq36 t 0 1799).bind fun r =>
 some r
noncomputable def zq33_L1 (list : List Int) : Int × Int → Option (Lp (Int × Int) (Int))
 | (v, v1) =>
  if (decide (v1 < (list.length : Int))) = true then
   (idx list v1).bind fun e =>
   some (.nx ((w64 (v + e)), (w64 (v1 + 1))))
  else
   some (.dn v)
noncomputable def zq33 (list : List Int) : Option (Int) :=
 (iter (zq33_L1 list) ((0 : Int), (0 : Int))).bind fun (v2 : Int) =>
 some v2
noncomputable def zq21 (t : Timetable) (x : Trip) : Option (Int) :=
 (idx t.Network.Lines x.Line).bind fun e1 =>
 (zq33 e1.Runs).bind fun r1 =>
 some (w64 (x.Start + r1))
noncomputable def zq13_L1 (t : Timetable) : Int × Int → Option (Lp (Int × Int) (Fl (Bool) (Unit)))
 | (v, v1) =>
  if (decide (v1 < (t.Trips.length : Int))) = true then
   (idx t.Trips v1).bind fun e =>
   (if (decide (e.Id ≤ v)) = true then some true else if (decide (999 < e.Id)) = true then some true else (zq23 t.Network e.Line).bind fun r =>
   if (!r) = true then some true else (zq6 e.Start).bind fun r1 =>
   if (!r1) = true then some true else (zq21 t e).bind fun r2 =>
   (zq6 r2).bind fun r3 =>
   some (!r3)).bind fun (v2 : Bool) =>
   if v2 = true then
    some (.dn (.ret false))
   else
    some (.nx (e.Id, (w64 (v1 + 1))))
  else
   some (.dn (.go ()))
noncomputable def zq13 (t : Timetable) : Option (Bool) :=
 if (decide (12 < (t.Trips.length : Int))) = true then
  some false
 else
  flb (iter (zq13_L1 t) ((0 : Int), (0 : Int))) fun (_ : Unit) =>
  some true
noncomputable def zq7 (t : Timetable) : Option (Bool) :=
 (zq5 t.Network).bind fun r =>
 (if r = true then (zq13 t).bind fun r1 =>
 some r1 else some false).bind fun (v : Bool) =>
 some v
noncomputable def zq35 (x : Trip) (c1 : Int) : Option (Bool) :=
 some (x.Id == c1)
noncomputable def zq92_L1 (s : List Trip) (f : Trip → Option (Bool)) : Int → Option (Lp (Int) (Fl (Int) (Unit)))
 | v =>
  if (decide (v < (s.length : Int))) = true then
   (idx s v).bind fun e =>
   (f e).bind fun r =>
   if r = true then
    some (.dn (.ret v))
   else
    some (.nx (w64 (v + 1)))
  else
   some (.dn (.go ()))
noncomputable def zq92 (s : List Trip) (f : Trip → Option (Bool)) : Option (Int) :=
 flb (iter (zq92_L1 s f) (0 : Int)) fun (_ : Unit) =>
 some (-1)
noncomputable def zq93 (s : List Trip) (c1 : Int) : Option (Int) :=
 zq92 s (fun (z0 : Trip) => zq35 z0 c1)
noncomputable def zq34 (t : Timetable) (id : Int) : Option (Int) :=
 (zq93 t.Trips id).bind fun r =>
 some r
noncomputable def zq12_L1 (t : Timetable) (delays : List TripDelay) : Int × Int → Option (Lp (Int × Int) (Fl (Bool) (Unit)))
 | (d, v) =>
  if (decide (v < (delays.length : Int))) = true then
   (idx delays v).bind fun e =>
   (if (decide (e.Id ≤ d)) = true then some true else (zq34 t e.Id).bind fun r =>
   if (decide (r < 0)) = true then some true else (zq36 e.Minutes 0 600).bind fun r1 =>
   some (!r1)).bind fun (v1 : Bool) =>
   if v1 = true then
    some (.dn (.ret false))
   else
    some (.nx (e.Id, (w64 (v + 1))))
  else
   some (.dn (.go ()))
noncomputable def zq12 (t : Timetable) (delays : List TripDelay) : Option (Bool) :=
 flb (iter (zq12_L1 t delays) ((0 : Int), (0 : Int))) fun (_ : Unit) =>
 some true
noncomputable def zq8 (t : Timetable) (delays : List TripDelay) : Option (Bool) :=
 (zq7 t).bind fun r =>
 (if r = true then (zq12 t delays).bind fun r1 =>
 some r1 else some false).bind fun (v : Bool) =>
 some v
noncomputable def zq22 (t : Timetable) (delays : List TripDelay) (stop : Int) (now : Int) : Option (Bool) :=
 (zq8 t delays).bind fun r =>
 (if r = true then (zq25 t.Network stop).bind fun r1 =>
 if r1 = true then (zq6 now).bind fun r2 =>
 some r2 else some false else some false).bind fun (v : Bool) =>
 some v
noncomputable def zq29 (t : Timetable) (x : Trip) : Option (Line) :=
 (idx t.Network.Lines x.Line).bind fun e =>
 some e
noncomputable def zq32_L1 (r : Line) : Int × (List Int) → Option (Lp (Int × (List Int)) ((List Int)))
 | (v, r1) =>
  if (decide (v < (r.Runs.length : Int))) = true then
   (idx r.Runs v).bind fun e =>
   (idx r1 v).bind fun e1 =>
   (chk (r1.length + ([(w64 (e1 + e))] : List Int).length ≤ 4294967296)).bind fun u =>
   some (.nx ((w64 (v + 1)), (r1 ++ ([(w64 (e1 + e))] : List Int))))
  else
   some (.dn r1)
noncomputable def zq32 (t : Timetable) (x : Trip) : Option ((List Int)) :=
 (zq29 t x).bind fun r =>
 (iter (zq32_L1 r) ((0 : Int), ([x.Start] : List Int))).bind fun (r2 : List Int) =>
 some r2
noncomputable def zq19_L1 (delays : List TripDelay) (id : Int) : Int → Option (Lp (Int) (Fl (Int) (Unit)))
 | v =>
  if (decide (v < (delays.length : Int))) = true then
   (idx delays v).bind fun e =>
   if (e.Id == id) = true then
    some (.dn (.ret e.Minutes))
   else
    some (.nx (w64 (v + 1)))
  else
   some (.dn (.go ()))
noncomputable def zq19 (delays : List TripDelay) (id : Int) : Option (Int) :=
 flb (iter (zq19_L1 delays id) (0 : Int)) fun (_ : Unit) =>
 some 0
noncomputable def zq20_L1 (t : Timetable) (delays : List TripDelay) (stop : Int) : Int × (List departure) → Option (Lp (Int × (List departure)) ((List departure)))
 | (v, stops) =>
  if (decide (v < (t.Trips.length : Int))) = true then
   ((idx t.Trips v).bind fun e =>
   (zq29 t e).bind fun r2 =>
   (zq32 t e).bind fun r3 =>
   (zq94 r2.Stops stop).bind fun r4 =>
   (if (decide (0 ≤ r4)) = true then some (decide (r4 < (w64 ((r2.Stops.length : Int) - 1)))) else some false).bind fun (v1 : Bool) =>
   if v1 = true then
    (idx r3 r4).bind fun e2 =>
    (zq19 delays e.Id).bind fun r6 =>
    (chk (stops.length + ([(⟨e, e2, r6⟩ : departure)] : List departure).length ≤ 4294967296)).bind fun u1 =>
    some (stops ++ ([(⟨e, e2, r6⟩ : departure)] : List departure))
   else
    some stops).bind fun (stops1 : List departure) =>
   some (.nx ((w64 (v + 1)), stops1))
  else
   some (.dn stops)
noncomputable def zq20 (t : Timetable) (delays : List TripDelay) (stop : Int) : Option ((List departure)) :=
 (iter (zq20_L1 t delays stop) ((0 : Int), ([] : List departure))).bind fun (stops2 : List departure) =>
 some stops2
noncomputable def zq2 (x : Int) : Option (Bool) :=
 some (x != x)
noncomputable def zq0 (x : Int) (y_ : Int) : Option (Int) :=
 (zq2 x).bind fun r =>
 (zq2 y_).bind fun r1 =>
 if r = true then
  if r1 = true then
   some 0
  else
   some (-1)
 else
  if r1 = true then
   some 1
  else
   if (decide (x < y_)) = true then
    some (-1)
   else
    if (decide (y_ < x)) = true then
     some 1
    else
     some 0
noncomputable def zq1_L1 (vals : List Int) : Int → Option (Lp (Int) (Fl (Int) (Unit)))
 | v =>
  if (decide (v < (vals.length : Int))) = true then
   (idx vals v).bind fun e =>
   if (e != 0) = true then
    some (.dn (.ret e))
   else
    some (.nx (w64 (v + 1)))
  else
   some (.dn (.go ()))
noncomputable def zq1 (vals : List Int) : Option (Int) :=
 flb (iter (zq1_L1 vals) (0 : Int)) fun (_ : Unit) =>
 some 0
noncomputable def zq15 (a : departure) (b : departure) : Option (Int) :=
 (zq0 (w64 (a.time_ + a.delay_)) (w64 (b.time_ + b.delay_))).bind fun r3 =>
 (zq0 a.time_ b.time_).bind fun r4 =>
 (zq1 ([r3, r4] : List Int)).bind fun r5 =>
 some r5
noncomputable def zq97_L1 (a : Int) (cmp : departure → departure → Option (Int)) : Int × (List departure) → Option (Lp (Int × (List departure)) ((List departure)))
 | (v1, data2) =>
  (if (decide (a < v1)) = true then (idx data2 v1).bind fun e2 =>
  (idx data2 (w64 (v1 - 1))).bind fun e3 =>
  (cmp e2 e3).bind fun r1 =>
  some (decide (r1 < 0)) else some false).bind fun (v2 : Bool) =>
  if v2 = true then
   (idx data2 (w64 (v1 - 1))).bind fun e8 =>
   (idx data2 v1).bind fun e9 =>
   (idx data2 v1).bind fun e10 =>
   (idx (data2.set v1.toNat e8) (w64 (v1 - 1))).bind fun e11 =>
   some (.nx ((w64 (v1 - 1)), ((data2.set v1.toNat e8).set (w64 (v1 - 1)).toNat e9)))
  else
   some (.dn data2)
noncomputable def zq97_L2 (a : Int) (b : Int) (cmp : departure → departure → Option (Int)) : Int × (List departure) → Option (Lp (Int × (List departure)) ((List departure)))
 | (v, data1) =>
  if (decide (v < b)) = true then
   (iter (zq97_L1 a cmp) (v, data1)).bind fun (data3 : List departure) =>
   some (.nx ((w64 (v + 1)), data3))
  else
   some (.dn data1)
noncomputable def zq97 (data : List departure) (a : Int) (b : Int) (cmp : departure → departure → Option (Int)) : Option ((List departure)) :=
 iter (zq97_L2 a b cmp) ((w64 (a + 1)), data)
noncomputable def zq98 (data : List departure) (a : Int) (b : Int) : Option ((List departure)) :=
 zq97 data a b (fun (z0 : departure) (z1 : departure) => zq15 z0 z1)
noncomputable def zq102_L1 (a : Int) (b : Int) (n : Int) : Int × (List departure) → Option (Lp (Int × (List departure)) ((List departure)))
 | (v, data1) =>
  if (decide (v < n)) = true then
   (idx data1 (w64 (b + v))).bind fun e4 =>
   (idx data1 (w64 (a + v))).bind fun e5 =>
   (idx data1 (w64 (a + v))).bind fun e6 =>
   (idx (data1.set (w64 (a + v)).toNat e4) (w64 (b + v))).bind fun e7 =>
   some (.nx ((w64 (v + 1)), ((data1.set (w64 (a + v)).toNat e4).set (w64 (b + v)).toNat e5)))
  else
   some (.dn data1)
noncomputable def zq102 (data : List departure) (a : Int) (b : Int) (n : Int) (cmp : departure → departure → Option (Int)) : Option ((List departure)) :=
 iter (zq102_L1 a b n) ((0 : Int), data)
noncomputable def zq103 (data : List departure) (a : Int) (b : Int) (n : Int) : Option ((List departure)) :=
 zq102 data a b n (fun (z0 : departure) (z1 : departure) => zq15 z0 z1)
noncomputable def zq99_L1 (m : Int) (cmp : departure → departure → Option (Int)) : Int × Int × (List departure) → Option (Lp (Int × Int × (List departure)) (Int × (List departure)))
 | (v, v1, data1) =>
  if (v != v1) = true then
   if (decide (v1 < v)) = true then
    (zq102 data1 (w64 (m - v)) m v1 cmp).bind fun r =>
    some (.nx ((w64 (v - v1)), v1, r))
   else
    (zq102 data1 (w64 (m - v)) (w64 ((w64 (m + v1)) - v)) v cmp).bind fun r1 =>
    some (.nx (v, (w64 (v1 - v)), r1))
  else
   some (.dn (v, data1))
noncomputable def zq99 (data : List departure) (a : Int) (m : Int) (b : Int) (cmp : departure → departure → Option (Int)) : Option ((List departure)) :=
 (iter (zq99_L1 m cmp) ((w64 (m - a)), (w64 (b - m)), data)).bind fun ((v2, data2) : Int × (List departure)) =>
 (zq102 data2 (w64 (m - v2)) m v2 cmp).bind fun r2 =>
 some r2
noncomputable def zq100 (data : List departure) (a : Int) (m : Int) (b : Int) : Option ((List departure)) :=
 zq99 data a m b (fun (z0 : departure) (z1 : departure) => zq15 z0 z1)
noncomputable def zq104_L1 (data : List departure) (a : Int) : Int × Int → Option (Lp (Int × Int) (Int))
 | (j, h) =>
  if (decide (j < h)) = true then
   (chk ((0 : Int) ≤ 1)).bind fun u =>
   (idx data (w64 (((IntKind.u64.wrap ((w64 (j + h)))).fdiv (2 ^ (min (1 : Int).toNat (IntKind.u64).bits)))))).bind fun e2 =>
   (idx data a).bind fun e3 =>
   (zq15 e2 e3).bind fun r1 =>
   if (decide (r1 < 0)) = true then
    some (.nx ((w64 ((w64 (((IntKind.u64.wrap ((w64 (j + h)))).fdiv (2 ^ (min (1 : Int).toNat (IntKind.u64).bits))))) + 1)), h))
   else
    some (.nx (j, (w64 (((IntKind.u64.wrap ((w64 (j + h)))).fdiv (2 ^ (min (1 : Int).toNat (IntKind.u64).bits)))))))
  else
   some (.dn j)
noncomputable def zq104_L2 (j1 : Int) : Int × (List departure) → Option (Lp (Int × (List departure)) ((List departure)))
 | (mid, data1) =>
  if (decide (mid < (w64 (j1 - 1)))) = true then
   (idx data1 (w64 (mid + 1))).bind fun e8 =>
   (idx data1 mid).bind fun e9 =>
   (idx data1 mid).bind fun e10 =>
   (idx (data1.set mid.toNat e8) (w64 (mid + 1))).bind fun e11 =>
   some (.nx ((w64 (mid + 1)), ((data1.set mid.toNat e8).set (w64 (mid + 1)).toNat e9)))
  else
   some (.dn data1)
noncomputable def zq104_L3 (data : List departure) (m : Int) : Int × Int → Option (Lp (Int × Int) (Int))
 | (n, start) =>
  if (decide (n < start)) = true then
   (chk ((0 : Int) ≤ 1)).bind fun u1 =>
   (idx data m).bind fun e14 =>
   (idx data (w64 (((IntKind.u64.wrap ((w64 (n + start)))).fdiv (2 ^ (min (1 : Int).toNat (IntKind.u64).bits)))))).bind fun e15 =>
   (zq15 e14 e15).bind fun r3 =>
   if (!(decide (r3 < 0))) = true then
    some (.nx ((w64 ((w64 (((IntKind.u64.wrap ((w64 (n + start)))).fdiv (2 ^ (min (1 : Int).toNat (IntKind.u64).bits))))) + 1)), start))
   else
    some (.nx (n, (w64 (((IntKind.u64.wrap ((w64 (n + start)))).fdiv (2 ^ (min (1 : Int).toNat (IntKind.u64).bits)))))))
  else
   some (.dn n)
noncomputable def zq104_L4 (n1 : Int) : Int × (List departure) → Option (Lp (Int × (List departure)) ((List departure)))
 | (p, data3) =>
  if (decide (n1 < p)) = true then
   (idx data3 (w64 (p - 1))).bind fun e20 =>
   (idx data3 p).bind fun e21 =>
   (idx data3 p).bind fun e22 =>
   (idx (data3.set p.toNat e20) (w64 (p - 1))).bind fun e23 =>
   some (.nx ((w64 (p - 1)), ((data3.set p.toNat e20).set (w64 (p - 1)).toNat e21)))
  else
   some (.dn data3)
noncomputable def zq104_L5 (data : List departure) (a : Int) (m : Int) (b : Int) : Int × Int → Option (Lp (Int × Int) (Int))
 | (v2, v3) =>
  if (decide (v2 < v3)) = true then
   (chk ((0 : Int) ≤ 1)).bind fun u3 =>
   (idx data (w64 ((w64 ((w64 ((w64 (((IntKind.u64.wrap ((w64 (a + b)))).fdiv (2 ^ (min (1 : Int).toNat (IntKind.u64).bits))))) + m)) - 1)) - (w64 (((IntKind.u64.wrap ((w64 (v2 + v3)))).fdiv (2 ^ (min (1 : Int).toNat (IntKind.u64).bits)))))))).bind fun e26 =>
   (idx data (w64 (((IntKind.u64.wrap ((w64 (v2 + v3)))).fdiv (2 ^ (min (1 : Int).toNat (IntKind.u64).bits)))))).bind fun e27 =>
   (zq15 e26 e27).bind fun r5 =>
   if (!(decide (r5 < 0))) = true then
    some (.nx ((w64 ((w64 (((IntKind.u64.wrap ((w64 (v2 + v3)))).fdiv (2 ^ (min (1 : Int).toNat (IntKind.u64).bits))))) + 1)), v3))
   else
    some (.nx (v2, (w64 (((IntKind.u64.wrap ((w64 (v2 + v3)))).fdiv (2 ^ (min (1 : Int).toNat (IntKind.u64).bits)))))))
  else
   some (.dn v2)
noncomputable def zq104_F (rec_ : (List departure) → Int → Int → Int → Option ((List departure))) (data : List departure) (a : Int) (m : Int) (b : Int) : Option ((List departure)) :=
 if ((w64 (m - a)) == 1) = true then
  (iter (zq104_L1 data a) (m, b)).bind fun (j1 : Int) =>
  (iter (zq104_L2 j1) (a, data)).bind fun (data2 : List departure) =>
  some data2
 else
  if ((w64 (b - m)) == 1) = true then
   (iter (zq104_L3 data m) (a, m)).bind fun (n1 : Int) =>
   (iter (zq104_L4 n1) (m, data)).bind fun (data4 : List departure) =>
   some data4
  else
   (chk ((0 : Int) ≤ 1)).bind fun u2 =>
   (if (decide ((w64 (((IntKind.u64.wrap ((w64 (a + b)))).fdiv (2 ^ (min (1 : Int).toNat (IntKind.u64).bits))))) < m)) = true then
    some ((w64 ((w64 ((w64 (((IntKind.u64.wrap ((w64 (a + b)))).fdiv (2 ^ (min (1 : Int).toNat (IntKind.u64).bits))))) + m)) - b)), (w64 (((IntKind.u64.wrap ((w64 (a + b)))).fdiv (2 ^ (min (1 : Int).toNat (IntKind.u64).bits))))))
   else
    some (a, m)).bind fun ((v, v1) : Int × Int) =>
   (iter (zq104_L5 data a m b) (v, v1)).bind fun (v4 : Int) =>
   ((if (decide (v4 < m)) = true then some (decide (m < (w64 ((w64 ((w64 (((IntKind.u64.wrap ((w64 (a + b)))).fdiv (2 ^ (min (1 : Int).toNat (IntKind.u64).bits))))) + m)) - v4)))) else some false).bind fun (v5 : Bool) =>
   if v5 = true then
    (zq100 data v4 m (w64 ((w64 ((w64 (((IntKind.u64.wrap ((w64 (a + b)))).fdiv (2 ^ (min (1 : Int).toNat (IntKind.u64).bits))))) + m)) - v4))).bind fun r6 =>
    some r6
   else
    some data).bind fun (data5 : List departure) =>
   ((if (decide (a < v4)) = true then some (decide (v4 < (w64 (((IntKind.u64.wrap ((w64 (a + b)))).fdiv (2 ^ (min (1 : Int).toNat (IntKind.u64).bits))))))) else some false).bind fun (v6 : Bool) =>
   if v6 = true then
    (rec_ data5 a v4 (w64 (((IntKind.u64.wrap ((w64 (a + b)))).fdiv (2 ^ (min (1 : Int).toNat (IntKind.u64).bits)))))).bind fun r7 =>
    some r7
   else
    some data5).bind fun (data6 : List departure) =>
   (if (decide ((w64 (((IntKind.u64.wrap ((w64 (a + b)))).fdiv (2 ^ (min (1 : Int).toNat (IntKind.u64).bits))))) < (w64 ((w64 ((w64 (((IntKind.u64.wrap ((w64 (a + b)))).fdiv (2 ^ (min (1 : Int).toNat (IntKind.u64).bits))))) + m)) - v4)))) = true then some (decide ((w64 ((w64 ((w64 (((IntKind.u64.wrap ((w64 (a + b)))).fdiv (2 ^ (min (1 : Int).toNat (IntKind.u64).bits))))) + m)) - v4)) < b)) else some false).bind fun (v7 : Bool) =>
   if v7 = true then
    (rec_ data6 (w64 (((IntKind.u64.wrap ((w64 (a + b)))).fdiv (2 ^ (min (1 : Int).toNat (IntKind.u64).bits))))) (w64 ((w64 ((w64 (((IntKind.u64.wrap ((w64 (a + b)))).fdiv (2 ^ (min (1 : Int).toNat (IntKind.u64).bits))))) + m)) - v4)) b).bind fun r8 =>
    some r8
   else
    some data6
noncomputable def zq104_k : Nat → (List departure) → Int → Int → Int → Option ((List departure))
 | 0 => fun _ _ _ _ => none
 | n + 1 => zq104_F (zq104_k n)
noncomputable def zq104 (data : List departure) (a : Int) (m : Int) (b : Int) : Option ((List departure)) := zq104_k 4294967296 data a m b
noncomputable def zq101_L1 (n : Int) : Int × Int × (List departure) → Option (Lp (Int × Int × (List departure)) (Int × (List departure)))
 | (v, v1, data1) =>
  if (decide (v1 ≤ n)) = true then
   (zq98 data1 v v1).bind fun r =>
   some (.nx (v1, (w64 (v1 + 20)), r))
  else
   some (.dn (v, data1))
noncomputable def zq101_L2 (n : Int) (m : Int) : Int × Int × (List departure) → Option (Lp (Int × Int × (List departure)) (Int × (List departure)))
 | (v3, v4, data4) =>
  if (decide (v4 ≤ n)) = true then
   (zq104 data4 v3 (w64 (v3 + m)) v4).bind fun r2 =>
   some (.nx (v4, (w64 (v4 + (w64 (2 * m)))), r2))
  else
   some (.dn (v3, data4))
noncomputable def zq101_L3 (n : Int) : Int × (List departure) → Option (Lp (Int × (List departure)) ((List departure)))
 | (m, data3) =>
  if (decide (m < n)) = true then
   (iter (zq101_L2 n m) ((0 : Int), (w64 (2 * m)), data3)).bind fun ((v5, data5) : Int × (List departure)) =>
   (if (decide ((w64 (v5 + m)) < n)) = true then
    (zq104 data5 v5 (w64 (v5 + m)) n).bind fun r3 =>
    some r3
   else
    some data5).bind fun (data6 : List departure) =>
   some (.nx ((w64 (m * 2)), data6))
  else
   some (.dn data3)
noncomputable def zq101 (data : List departure) (n : Int) : Option ((List departure)) :=
 (iter (zq101_L1 n) ((0 : Int), (20 : Int), data)).bind fun ((v2, data2) : Int × (List departure)) =>
 (zq98 data2 v2 n).bind fun r1 =>
 iter (zq101_L3 n) ((20 : Int), r1)
noncomputable def zq96 (x : List departure) : Option ((List departure)) :=
 (zq101 x (x.length : Int)).bind fun r =>
 some r
noncomputable def zq27 (t : Timetable) (x : Trip) : Option (Int) :=
 (zq29 t x).bind fun r =>
 (idx r.Stops (w64 ((r.Stops.length : Int) - 1))).bind fun e =>
 some e
noncomputable def zq14_L1 (t : Timetable) (now : Int) (count : Int) (r1 : (List departure)) : Int × (List BoardRow) → Option (Lp (Int × (List BoardRow)) ((List BoardRow)))
 | (v, v1) =>
  if (decide (v < (r1.length : Int))) = true then
   ((idx r1 v).bind fun e =>
   (if (decide (now ≤ (w64 (e.time_ + e.delay_)))) = true then some (decide ((v1.length : Int) < count)) else some false).bind fun (v3 : Bool) =>
   if v3 = true then
    (zq29 t e.trip_).bind fun r4 =>
    (zq27 t e.trip_).bind fun r5 =>
    (idx t.Network.Stops r5).bind fun e2 =>
    (chk (v1.length + ([(⟨e.time_, e.delay_, r4.Name, e2⟩ : BoardRow)] : List BoardRow).length ≤ 4294967296)).bind fun u1 =>
    some (v1 ++ ([(⟨e.time_, e.delay_, r4.Name, e2⟩ : BoardRow)] : List BoardRow))
   else
    some v1).bind fun (v2 : List BoardRow) =>
   some (.nx ((w64 (v + 1)), v2))
  else
   some (.dn v1)
noncomputable def zq14 (t : Timetable) (delays : List TripDelay) (stop : Int) (now : Int) (count : Int) : Option ((List BoardRow)) :=
 (zq20 t delays stop).bind fun r =>
 (zq96 r).bind fun r1 =>
 (iter (zq14_L1 t now count r1) ((0 : Int), ([] : List BoardRow))).bind fun (v4 : List BoardRow) =>
 some v4
noncomputable def zq3 (t : Timetable) (delays : List TripDelay) (stop : Int) (now : Int) (count : Int) : Option ((List BoardRow) × Bool) :=
 (zq22 t delays stop now).bind fun r =>
 (if (!r) = true then some true else (zq36 count 1 10).bind fun r1 =>
 some (!r1)).bind fun (v : Bool) =>
 if v = true then
  some (([] : List BoardRow), false)
 else
  (zq14 t delays stop now count).bind fun r2 =>
  some (r2, true)
noncomputable def zq88_L1 (t : Timetable) (id : Int) : Int → Option (Lp (Int) (Fl (Int) (Unit)))
 | v =>
  if (decide (v < (t.Trips.length : Int))) = true then
   (idx t.Trips v).bind fun e =>
   if (e.Id == id) = true then
    some (.dn (.ret v))
   else
    some (.nx (w64 (v + 1)))
  else
   some (.dn (.go ()))
noncomputable def zq88 (t : Timetable) (id : Int) : Option (Int) :=
 flb (iter (zq88_L1 t id) (0 : Int)) fun (_ : Unit) =>
 some (-1)
noncomputable def zq68_L1 (t : Timetable) (delays : List TripDelay) : Int → Option (Lp (Int) (Fl (Bool) (Unit)))
 | v =>
  if (decide (v < (delays.length : Int))) = true then
   (idx delays v).bind fun e4 =>
   (zq88 t e4.Id).bind fun r3 =>
   (if (decide (r3 < 0)) = true then some true else (idx delays v).bind fun e5 =>
   (zq60 e5.Minutes 0 600).bind fun r4 =>
   if (!r4) = true then some true else if (decide (0 < v)) = true then (idx delays (w64 (v - 1))).bind fun e6 =>
   (idx delays v).bind fun e7 =>
   some (decide (e7.Id ≤ e6.Id)) else some false).bind fun (v1 : Bool) =>
   if v1 = true then
    some (.dn (.ret false))
   else
    some (.nx (w64 (v + 1)))
  else
   some (.dn (.go ()))
noncomputable def zq68 (t : Timetable) (delays : List TripDelay) : Option (Bool) :=
 (zq89 t).bind fun r =>
 if (!r) = true then
  some false
 else
  flb (iter (zq68_L1 t delays) (0 : Int)) fun (_ : Unit) =>
  some true
noncomputable def zq65 (t : Timetable) (delays : List TripDelay) (stop : Int) : Option (Bool) :=
 (zq68 t delays).bind fun r =>
 (if r = true then (zq60 stop 0 (w64 ((t.Network.Stops.length : Int) - 1))).bind fun r1 =>
 some r1 else some false).bind fun (v : Bool) =>
 some v
noncomputable def zq67 (t : Timetable) (i : Int) (stop : Int) : Option (Int) :=
 (zq90 t i).bind fun r =>
 (zq81 r stop).bind fun r1 =>
 (if (decide (r1 < 0)) = true then some true else (zq91 t i).bind fun r2 =>
 some (r1 == (w64 ((r2.length : Int) - 1)))).bind fun (v : Bool) =>
 if v = true then
  some (-1)
 else
  (zq86 t i r1).bind fun r3 =>
  some r3
noncomputable def zq66_L1 (delays : List TripDelay) (id : Int) : Int → Option (Lp (Int) (Fl (Int) (Unit)))
 | v =>
  if (decide (v < (delays.length : Int))) = true then
   (idx delays v).bind fun e =>
   if (e.Id == id) = true then
    (idx delays v).bind fun e1 =>
    some (.dn (.ret e1.Minutes))
   else
    some (.nx (w64 (v + 1)))
  else
   some (.dn (.go ()))
noncomputable def zq66 (delays : List TripDelay) (id : Int) : Option (Int) :=
 flb (iter (zq66_L1 delays id) (0 : Int)) fun (_ : Unit) =>
 some 0
noncomputable def zq70_L1 (stops : List BoardRow) (r : Int) (r1 : Int) : Int → Option (Lp (Int) (Int))
 | v1 =>
  (if (decide (0 < v1)) = true then (idx stops (w64 (v1 - 1))).bind fun e10 =>
  (idx stops (w64 (v1 - 1))).bind fun e11 =>
  if (decide ((w64 (r + r1)) < (w64 (e10.Time + e11.Delay)))) = true then some true else (idx stops (w64 (v1 - 1))).bind fun e12 =>
  (idx stops (w64 (v1 - 1))).bind fun e13 =>
  if ((w64 (e12.Time + e13.Delay)) == (w64 (r + r1))) = true then (idx stops (w64 (v1 - 1))).bind fun e14 =>
  some (decide (r < e14.Time)) else some false else some false).bind fun (v2 : Bool) =>
  if v2 = true then
   some (.nx (w64 (v1 - 1)))
  else
   some (.dn v1)
noncomputable def zq70_L2 (t : Timetable) (delays : List TripDelay) (stop : Int) (now : Int) : Int × (List BoardRow) → Option (Lp (Int × (List BoardRow)) ((List BoardRow)))
 | (x, stops) =>
  if (decide (x < (t.Trips.length : Int))) = true then
   ((zq67 t x stop).bind fun r =>
   (idx t.Trips x).bind fun e =>
   (zq66 delays e.Id).bind fun r1 =>
   (if (decide (r < 0)) = true then some true else some (decide ((w64 (r + r1)) < now))).bind fun (v : Bool) =>
   if v = true then
    some stops
   else
    (zq91 t x).bind fun r2 =>
    (zq90 t x).bind fun r4 =>
    (idx r2 (w64 ((r2.length : Int) - 1))).bind fun e3 =>
    (idx t.Network.Stops e3).bind fun e4 =>
    (iter (zq70_L1 stops r r1) (stops.length : Int)).bind fun (v3 : Int) =>
    (chk ((0 : Int) ≤ 0 ∧ (0 : Int) ≤ v3 ∧ v3 ≤ (stops.length : Int))).bind fun u5 =>
    (chk (([] : List BoardRow).length + ((stops.take v3.toNat).drop (0 : Int).toNat).length ≤ 4294967296)).bind fun u6 =>
    (chk ((([] : List BoardRow) ++ ((stops.take v3.toNat).drop (0 : Int).toNat)).length + ([(⟨r, r1, r4.Name, e4⟩ : BoardRow)] : List BoardRow).length ≤ 4294967296)).bind fun u7 =>
    (chk ((0 : Int) ≤ v3 ∧ v3 ≤ (stops.length : Int))).bind fun u8 =>
    (chk (((([] : List BoardRow) ++ ((stops.take v3.toNat).drop (0 : Int).toNat)) ++ ([(⟨r, r1, r4.Name, e4⟩ : BoardRow)] : List BoardRow)).length + (stops.drop v3.toNat).length ≤ 4294967296)).bind fun u9 =>
    some (((([] : List BoardRow) ++ ((stops.take v3.toNat).drop (0 : Int).toNat)) ++ ([(⟨r, r1, r4.Name, e4⟩ : BoardRow)] : List BoardRow)) ++ (stops.drop v3.toNat))).bind fun (stops1 : List BoardRow) =>
   some (.nx ((w64 (x + 1)), stops1))
  else
   some (.dn stops)
noncomputable def zq70 (t : Timetable) (delays : List TripDelay) (stop : Int) (now : Int) : Option ((List BoardRow)) :=
 (iter (zq70_L2 t delays stop now) ((0 : Int), ([] : List BoardRow))).bind fun (stops2 : List BoardRow) =>
 some stops2
noncomputable def zq61 (a : Int) (b : Int) : Option (Int) :=
 if (decide (a < b)) = true then
  some a
 else
  some b
noncomputable def zq37 (t : Timetable) (delays : List TripDelay) (stop : Int) (now : Int) (count : Int) : Option ((List BoardRow) × Bool) :=
 (zq65 t delays stop).bind fun r =>
 (if (!r) = true then some true else (zq84 now).bind fun r1 =>
 if (!r1) = true then some true else (zq60 count 1 10).bind fun r2 =>
 some (!r2)).bind fun (v : Bool) =>
 if v = true then
  some (([] : List BoardRow), false)
 else
  (zq70 t delays stop now).bind fun r3 =>
  (zq61 count (r3.length : Int)).bind fun r4 =>
  (chk ((0 : Int) ≤ 0 ∧ (0 : Int) ≤ r4 ∧ r4 ≤ (r3.length : Int))).bind fun u =>
  some (((r3.take r4.toNat).drop (0 : Int).toNat), true)
noncomputable def zq18 (n : Int) : Option (ByteArray) :=
 (chk ((10 : Int) ≠ 0)).bind fun u =>
 (chk ((10 : Int) ≠ 0)).bind fun u1 =>
 some (bytS ([(mkU8 (IntKind.u8.wrap ((w64 (48 + (w64 (n.tdiv 10))))))), (mkU8 (IntKind.u8.wrap ((w64 (48 + (n.tmod 10))))))] : List UInt8))
noncomputable def zq17 (t : Int) : Option (ByteArray) :=
 (chk ((60 : Int) ≠ 0)).bind fun u =>
 (zq18 (w64 (t.tdiv 60))).bind fun r =>
 (chk (r.size + (str [58]).size ≤ 4294967296)).bind fun u1 =>
 (chk ((60 : Int) ≠ 0)).bind fun u2 =>
 (zq18 (t.tmod 60)).bind fun r1 =>
 (chk ((r ++ (str [58])).size + r1.size ≤ 4294967296)).bind fun u3 =>
 some ((r ++ (str [58])) ++ r1)
noncomputable def zq108 (s : ByteArray) (count : Int) : Option (ByteArray) :=
 repeatM s count
noncomputable def zq30 (s : ByteArray) (width : Int) : Option (ByteArray) :=
 (zq108 (str [32]) (if (w64 (width - (s.size : Int))) > 0 then (w64 (width - (s.size : Int))) else 0)).bind fun r =>
 (chk (s.size + r.size ≤ 4294967296)).bind fun u =>
 some (s ++ r)
noncomputable def zq105 (i : Int) : Option (ByteArray) :=
 itoaM i
noncomputable def zq31 (r : BoardRow) (now : Int) : Option (ByteArray) :=
 (zq17 r.Time).bind fun r4 =>
 (chk (r4.size + (str [32]).size ≤ 4294967296)).bind fun u5 =>
 (zq30 r.Line 8).bind fun r5 =>
 (chk ((r4 ++ (str [32])).size + r5.size ≤ 4294967296)).bind fun u6 =>
 (chk (((r4 ++ (str [32])) ++ r5).size + (str [32]).size ≤ 4294967296)).bind fun u7 =>
 (zq30 r.Destination 8).bind fun r6 =>
 (chk ((((r4 ++ (str [32])) ++ r5) ++ (str [32])).size + r6.size ≤ 4294967296)).bind fun u8 =>
 (chk (((((r4 ++ (str [32])) ++ r5) ++ (str [32])) ++ r6).size + (str [32]).size ≤ 4294967296)).bind fun u9 =>
 (if ((w64 ((w64 (r.Time + r.Delay)) - now)) == 0) = true then
  (chk ((((((r4 ++ (str [32])) ++ r5) ++ (str [32])) ++ r6) ++ (str [32])).size + (str [110, 111, 119]).size ≤ 4294967296)).bind fun u10 =>
  some ((((((r4 ++ (str [32])) ++ r5) ++ (str [32])) ++ r6) ++ (str [32])) ++ (str [110, 111, 119]))
 else
  if (decide ((w64 ((w64 (r.Time + r.Delay)) - now)) < 60)) = true then
   (zq105 (w64 ((w64 (r.Time + r.Delay)) - now))).bind fun r7 =>
   (chk (r7.size + (str [32, 109, 105, 110]).size ≤ 4294967296)).bind fun u11 =>
   (chk ((((((r4 ++ (str [32])) ++ r5) ++ (str [32])) ++ r6) ++ (str [32])).size + (r7 ++ (str [32, 109, 105, 110])).size ≤ 4294967296)).bind fun u12 =>
   some ((((((r4 ++ (str [32])) ++ r5) ++ (str [32])) ++ r6) ++ (str [32])) ++ (r7 ++ (str [32, 109, 105, 110])))
  else
   some (((((r4 ++ (str [32])) ++ r5) ++ (str [32])) ++ r6) ++ (str [32]))).bind fun (v : ByteArray) =>
 (zq30 v 30).bind fun r8 =>
 some r8
noncomputable def zq10 (r : BoardRow) (now : Int) : Option (ByteArray × Bool) :=
 (zq6 now).bind fun r1 =>
 (if (!r1) = true then some true else (zq6 r.Time).bind fun r2 =>
 if (!r2) = true then some true else (zq36 r.Delay 0 600).bind fun r3 =>
 if (!r3) = true then some true else (zq24 r.Line).bind fun r4 =>
 if (!r4) = true then some true else (zq24 r.Destination).bind fun r5 =>
 if (!r5) = true then some true else some (decide ((w64 (r.Time + r.Delay)) < now))).bind fun (v : Bool) =>
 if v = true then
  some ((str []), false)
 else
  (zq31 r now).bind fun r6 =>
  some (r6, true)
noncomputable def zq107 (b : List UInt8) (s : ByteArray) : Option (Int × NilErr × (List UInt8)) :=
 writeStringM b s
noncomputable def zq106 (b : List UInt8) : Option (ByteArray) :=
 bldStringM b
noncomputable def zq16_L1 (now : Int) (r : (List BoardRow)) : Int × (List UInt8) → Option (Lp (Int × (List UInt8)) ((List UInt8)))
 | (v, v1) =>
  if (decide (v < (r.length : Int))) = true then
   (idx r v).bind fun e =>
   (zq31 e now).bind fun r1 =>
   (chk (r1.size + (str [10]).size ≤ 4294967296)).bind fun u =>
   (zq107 v1 (r1 ++ (str [10]))).bind fun r2 =>
   some (.nx ((w64 (v + 1)), r2.2.2))
  else
   some (.dn v1)
noncomputable def zq16 (t : Timetable) (delays : List TripDelay) (stop : Int) (now : Int) (count : Int) : Option (ByteArray) :=
 (zq14 t delays stop now count).bind fun r =>
 (iter (zq16_L1 now r) ((0 : Int), ([] : List UInt8))).bind fun (v2 : List UInt8) =>
 (zq106 v2).bind fun r3 =>
 some r3
noncomputable def zq4 (t : Timetable) (delays : List TripDelay) (stop : Int) (now : Int) (count : Int) : Option (ByteArray × Bool) :=
 (zq22 t delays stop now).bind fun r =>
 (if (!r) = true then some true else (zq36 count 1 10).bind fun r1 =>
 some (!r1)).bind fun (v : Bool) =>
 if v = true then
  some ((str []), false)
 else
  (zq16 t delays stop now count).bind fun r2 =>
  some (r2, true)
noncomputable def zq9_L1 (t : Timetable) : Int × (List Int) → Option (Lp (Int × (List Int)) ((List Int)))
 | (v, at_) =>
  if (decide (v < ((List.replicate (t.Network.Lines.length : Int).toNat (0 : Int)).length : Int))) = true then
   (idx at_ v).bind fun e =>
   some (.nx ((w64 (v + 1)), (at_.set v.toNat (-1))))
  else
   some (.dn at_)
noncomputable def zq9_L2 (now : Int) (r1 : (List departure)) : Int × (List Int) → Option (Lp (Int × (List Int)) ((List Int)))
 | (v1, at_2) =>
  if (decide (v1 < (r1.length : Int))) = true then
   ((idx r1 v1).bind fun e1 =>
   (idx at_2 e1.trip_.Line).bind fun e2 =>
   (if (decide (now ≤ (w64 (e1.time_ + e1.delay_)))) = true then if (decide (e2 < 0)) = true then some true else some (decide ((w64 (e1.time_ + e1.delay_)) < e2)) else some false).bind fun (v2 : Bool) =>
   if v2 = true then
    (idx at_2 e1.trip_.Line).bind fun e3 =>
    some (at_2.set e1.trip_.Line.toNat (w64 (e1.time_ + e1.delay_)))
   else
    some at_2).bind fun (at_3 : List Int) =>
   some (.nx ((w64 (v1 + 1)), at_3))
  else
   some (.dn at_2)
noncomputable def zq9 (t : Timetable) (delays : List TripDelay) (stop : Int) (now : Int) : Option ((List Int) × Bool) :=
 (zq22 t delays stop now).bind fun r =>
 if (!r) = true then
  some (([] : List Int), false)
 else
  (chk ((0 : Int) ≤ (t.Network.Lines.length : Int) ∧ ((t.Network.Lines.length : Int) : Int) ≤ 4294967296)).bind fun u =>
  (iter (zq9_L1 t) ((0 : Int), (List.replicate (t.Network.Lines.length : Int).toNat (0 : Int)))).bind fun (at_1 : List Int) =>
  (zq20 t delays stop).bind fun r1 =>
  (iter (zq9_L2 now r1) ((0 : Int), at_1)).bind fun (at_4 : List Int) =>
  some (at_4, true)
noncomputable def zq40_L1 (t : Timetable) (delays : List TripDelay) (stop : Int) (now : Int) (x : Int) : Int × Int → Option (Lp (Int × Int) (Int))
 | (v1, v2) =>
  if (decide (v2 < (t.Trips.length : Int))) = true then
   ((zq67 t v2 stop).bind fun r2 =>
   (idx t.Trips v2).bind fun e =>
   (zq66 delays e.Id).bind fun r3 =>
   (idx t.Trips v2).bind fun e1 =>
   (if (e1.Line == x) = true then if (decide (0 ≤ r2)) = true then if (decide (now ≤ (w64 (r2 + r3)))) = true then if (decide (v1 < 0)) = true then some true else some (decide ((w64 (r2 + r3)) < v1)) else some false else some false else some false).bind fun (v4 : Bool) =>
   if v4 = true then
    some (w64 (r2 + r3))
   else
    some v1).bind fun (v3 : Int) =>
   some (.nx (v3, (w64 (v2 + 1))))
  else
   some (.dn v1)
noncomputable def zq40_L2 (t : Timetable) (delays : List TripDelay) (stop : Int) (now : Int) : Int × (List Int) → Option (Lp (Int × (List Int)) ((List Int)))
 | (x, at_) =>
  if (decide (x < (t.Network.Lines.length : Int))) = true then
   (iter (zq40_L1 t delays stop now x) (((-1) : Int), (0 : Int))).bind fun (v5 : Int) =>
   (chk (at_.length + ([v5] : List Int).length ≤ 4294967296)).bind fun u =>
   some (.nx ((w64 (x + 1)), (at_ ++ ([v5] : List Int))))
  else
   some (.dn at_)
noncomputable def zq40 (t : Timetable) (delays : List TripDelay) (stop : Int) (now : Int) : Option ((List Int) × Bool) :=
 (zq65 t delays stop).bind fun r =>
 (if (!r) = true then some true else (zq84 now).bind fun r1 =>
 some (!r1)).bind fun (v : Bool) =>
 if v = true then
  some (([] : List Int), false)
 else
  (iter (zq40_L2 t delays stop now) ((0 : Int), ([] : List Int))).bind fun (at_1 : List Int) =>
  some (at_1, true)
noncomputable def zq110_L1 (a : List Int) (b : List Int) : Int → Option (Lp (Int) (Fl (Bool) (Unit)))
 | v =>
  if (decide (v < (a.length : Int))) = true then
   (idx a v).bind fun e2 =>
   (idx b v).bind fun e3 =>
   if (e2 != e3) = true then
    some (.dn (.ret false))
   else
    some (.nx (w64 (v + 1)))
  else
   some (.dn (.go ()))
noncomputable def zq110 (a : List Int) (b : List Int) : Option (Bool) :=
 if ((a.length : Int) != (b.length : Int)) = true then
  some false
 else
  flb (iter (zq110_L1 a b) (0 : Int)) fun (_ : Unit) =>
  some true
noncomputable def zq39 (code : List UInt8) : Option (BoardRow × Int) :=
 (zq43 (⟨code, 0, (⟨0⟩ : IK .u64)⟩ : l1Cur) ([0, 425, 1439, 1799, 600] : List Int)).bind fun r =>
 (zq43 r.2 ([0, 3, 20, 600] : List Int)).bind fun r1 =>
 (zq53 r1.2 ([(str [97]), (str [97, 49]), (str [101, 120, 112, 114, 101, 115, 115, 49])] : List ByteArray)).bind fun r2 =>
 (zq53 r2.2 ([(str [104, 97, 114, 98, 111, 114]), (str [98]), (str [116, 101, 114, 109, 105, 110, 97, 108])] : List ByteArray)).bind fun r3 =>
 (zq43 r3.2 ([0, 1, 5, 59, 60, 200, (-1)] : List Int)).bind fun r5 =>
 ((zq56 r5.2 30).bind fun r6 =>
 if (r6.1 == 0) = true then
  (zq43 r6.2 ([(-1), 1800] : List Int)).bind fun r7 =>
  some (r7.1, r1.1, r2.1)
 else
  if (r6.1 == 1) = true then
   (zq43 r6.2 ([(-1), 601] : List Int)).bind fun r8 =>
   some (r.1, r8.1, r2.1)
  else
   if (r6.1 == 2) = true then
    (zq53 r6.2 ([(str []), (str [65]), (str [116, 111, 111, 108, 111, 110, 103, 120, 120])] : List ByteArray)).bind fun r9 =>
    some (r.1, r1.1, r9.1)
   else
    some (r.1, r1.1, r2.1)).bind fun ((v, v1, v2) : Int × Int × ByteArray) =>
 some ((⟨v, v1, v2, r3.1⟩ : BoardRow), (w64 ((w64 (r.1 + r1.1)) - r5.1)))
noncomputable def zq85 (n : Int) : Option (ByteArray) :=
 (chk ((10 : Int) ≠ 0)).bind fun u7 =>
 (chk ((10 : Int) ≠ 0)).bind fun u8 =>
 (chk ((0 : Int) ≤ (w64 (n.tdiv 10)) ∧ ((w64 (n.tdiv 10)) : Int) ≤ (w64 ((w64 (n.tdiv 10)) + 1)) ∧ (w64 ((w64 (n.tdiv 10)) + 1)) ≤ ((str [48, 49, 50, 51, 52, 53, 54, 55, 56, 57]).size : Int))).bind fun u9 =>
 (chk ((10 : Int) ≠ 0)).bind fun u10 =>
 (chk ((10 : Int) ≠ 0)).bind fun u11 =>
 (chk ((0 : Int) ≤ (n.tmod 10) ∧ ((n.tmod 10) : Int) ≤ (w64 ((n.tmod 10) + 1)) ∧ (w64 ((n.tmod 10) + 1)) ≤ ((str [48, 49, 50, 51, 52, 53, 54, 55, 56, 57]).size : Int))).bind fun u12 =>
 (chk (((str [48, 49, 50, 51, 52, 53, 54, 55, 56, 57]).extract (w64 (n.tdiv 10)).toNat (w64 ((w64 (n.tdiv 10)) + 1)).toNat).size + ((str [48, 49, 50, 51, 52, 53, 54, 55, 56, 57]).extract (n.tmod 10).toNat (w64 ((n.tmod 10) + 1)).toNat).size ≤ 4294967296)).bind fun u13 =>
 some (((str [48, 49, 50, 51, 52, 53, 54, 55, 56, 57]).extract (w64 (n.tdiv 10)).toNat (w64 ((w64 (n.tdiv 10)) + 1)).toNat) ++ ((str [48, 49, 50, 51, 52, 53, 54, 55, 56, 57]).extract (n.tmod 10).toNat (w64 ((n.tmod 10) + 1)).toNat))
noncomputable def zq83 (t : Int) : Option (ByteArray) :=
 (chk ((60 : Int) ≠ 0)).bind fun u =>
 (zq85 (w64 (t.tdiv 60))).bind fun r =>
 (chk (r.size + (str [58]).size ≤ 4294967296)).bind fun u1 =>
 (chk ((60 : Int) ≠ 0)).bind fun u2 =>
 (zq85 (t.tmod 60)).bind fun r1 =>
 (chk ((r ++ (str [58])).size + r1.size ≤ 4294967296)).bind fun u3 =>
 some ((r ++ (str [58])) ++ r1)
noncomputable def zq69_L1 (n : Int) : ByteArray → Option (Lp (ByteArray) (ByteArray))
 | s1 =>
  if (decide ((s1.size : Int) < n)) = true then
   (chk (s1.size + (str [32]).size ≤ 4294967296)).bind fun u =>
   some (.nx (s1 ++ (str [32])))
  else
   some (.dn s1)
noncomputable def zq69 (s : ByteArray) (n : Int) : Option (ByteArray) :=
 (iter (zq69_L1 n) s).bind fun (s2 : ByteArray) =>
 some s2
noncomputable def zq71 (r : BoardRow) (now : Int) : Option (ByteArray) :=
 (zq83 r.Time).bind fun r4 =>
 (chk (r4.size + (str [32]).size ≤ 4294967296)).bind fun u5 =>
 (zq69 r.Line 8).bind fun r5 =>
 (chk ((r4 ++ (str [32])).size + r5.size ≤ 4294967296)).bind fun u6 =>
 (chk (((r4 ++ (str [32])) ++ r5).size + (str [32]).size ≤ 4294967296)).bind fun u7 =>
 (zq69 r.Destination 8).bind fun r6 =>
 (chk ((((r4 ++ (str [32])) ++ r5) ++ (str [32])).size + r6.size ≤ 4294967296)).bind fun u8 =>
 (chk (((((r4 ++ (str [32])) ++ r5) ++ (str [32])) ++ r6).size + (str [32]).size ≤ 4294967296)).bind fun u9 =>
 (if ((w64 ((w64 (r.Time + r.Delay)) - now)) == 0) = true then
  (chk ((((((r4 ++ (str [32])) ++ r5) ++ (str [32])) ++ r6) ++ (str [32])).size + (str [110, 111, 119]).size ≤ 4294967296)).bind fun u10 =>
  some ((((((r4 ++ (str [32])) ++ r5) ++ (str [32])) ++ r6) ++ (str [32])) ++ (str [110, 111, 119]))
 else
  if (decide ((w64 ((w64 (r.Time + r.Delay)) - now)) < 60)) = true then
   (zq62 (w64 ((w64 (r.Time + r.Delay)) - now))).bind fun r7 =>
   (chk ((((((r4 ++ (str [32])) ++ r5) ++ (str [32])) ++ r6) ++ (str [32])).size + r7.size ≤ 4294967296)).bind fun u11 =>
   (chk (((((((r4 ++ (str [32])) ++ r5) ++ (str [32])) ++ r6) ++ (str [32])) ++ r7).size + (str [32, 109, 105, 110]).size ≤ 4294967296)).bind fun u12 =>
   some (((((((r4 ++ (str [32])) ++ r5) ++ (str [32])) ++ r6) ++ (str [32])) ++ r7) ++ (str [32, 109, 105, 110]))
  else
   some (((((r4 ++ (str [32])) ++ r5) ++ (str [32])) ++ r6) ++ (str [32]))).bind fun (v : ByteArray) =>
 (zq69 v 30).bind fun r8 =>
 some r8
noncomputable def zq41 (r : BoardRow) (now : Int) : Option (ByteArray × Bool) :=
 (zq84 r.Time).bind fun r1 =>
 (if (!r1) = true then some true else (zq60 r.Delay 0 600).bind fun r2 =>
 if (!r2) = true then some true else (zq78 r.Line).bind fun r3 =>
 if (!r3) = true then some true else (zq78 r.Destination).bind fun r4 =>
 if (!r4) = true then some true else (zq84 now).bind fun r5 =>
 if (!r5) = true then some true else some (decide ((w64 (r.Time + r.Delay)) < now))).bind fun (v : Bool) =>
 if v = true then
  some ((str []), false)
 else
  (zq71 r now).bind fun r6 =>
  some (r6, true)
noncomputable def v_FnBoards_L1 (r1 : Timetable × (List TripDelay) × Int × Int × Int) (r2 : (List BoardRow) × Bool) (r3 : (List BoardRow) × Bool) (r4 : (List BoardRow) × Bool) : ByteArray × Int → Option (Lp (ByteArray × Int) (Fl (Bool) (ByteArray)))
 | (i, x) =>
  if (decide (x < (r2.1.length : Int))) = true then
   (idx r2.1 x).bind fun e =>
   (idx r3.1 x).bind fun e5 =>
   (if (!((e.Time == e5.Time) && ((e.Delay == e5.Delay) && ((e.Line.toList == e5.Line.toList) && ((e.Destination.toList == e5.Destination.toList) && true))))) = true then some true else (idx r4.1 x).bind fun e6 =>
   if (!((e.Time == e6.Time) && ((e.Delay == e6.Delay) && ((e.Line.toList == e6.Line.toList) && ((e.Destination.toList == e6.Destination.toList) && true))))) = true then some true else if (decide ((w64 (e.Time + e.Delay)) < r1.2.2.2.1)) = true then some true else if (decide (0 < x)) = true then (idx r2.1 (w64 (x - 1))).bind fun e7 =>
   (idx r2.1 (w64 (x - 1))).bind fun e8 =>
   some (decide ((w64 (e.Time + e.Delay)) < (w64 (e7.Time + e8.Delay)))) else some false).bind fun (v2 : Bool) =>
   if v2 = true then
    some (.dn (.ret false))
   else
    (zq10 e r1.2.2.2.1).bind fun r7 =>
    (if (!r7.2) = true then some true else some ((r7.1.size : Int) != 30)).bind fun (v3 : Bool) =>
    if v3 = true then
     some (.dn (.ret false))
    else
     (chk (i.size + r7.1.size ≤ 4294967296)).bind fun u =>
     (chk ((i ++ r7.1).size + (str [10]).size ≤ 4294967296)).bind fun u1 =>
     some (.nx (((i ++ r7.1) ++ (str [10])), (w64 (x + 1))))
  else
   some (.dn (.go i))
noncomputable def v_FnBoards (code : List UInt8) : Option (Bool) :=
 (zq109 code).bind fun r =>
 if r = true then
  some true
 else
  (zq38 code).bind fun r1 =>
  (zq3 r1.1 r1.2.1 r1.2.2.1 r1.2.2.2.1 r1.2.2.2.2).bind fun r2 =>
  (zq37 r1.1 r1.2.1 r1.2.2.1 r1.2.2.2.1 r1.2.2.2.2).bind fun r3 =>
  (if (!(r2.2 == r3.2)) = true then some true else if ((r2.1.length : Int) != (r3.1.length : Int)) = true then some true else some (!r2.2)).bind fun (v : Bool) =>
  if v = true then
   (if (r2.2 == r3.2) = true then some ((r2.1.length : Int) == (r3.1.length : Int)) else some false).bind fun (t : Bool) =>
   some t
  else
   (zq3 r1.1 r1.2.1 r1.2.2.1 r1.2.2.2.1 10).bind fun r4 =>
   (if (!r4.2) = true then some true else if (decide ((r4.1.length : Int) < (r2.1.length : Int))) = true then some true else (zq8 r1.1 r1.2.1).bind fun r5 =>
   some (!r5)).bind fun (v1 : Bool) =>
   if v1 = true then
    some false
   else
    flb (iter (v_FnBoards_L1 r1 r2 r3 r4) ((str []), (0 : Int))) fun (i1 : ByteArray) =>
    (zq4 r1.1 r1.2.1 r1.2.2.1 r1.2.2.2.1 r1.2.2.2.2).bind fun r9 =>
    (zq9 r1.1 r1.2.1 r1.2.2.1 r1.2.2.2.1).bind fun r10 =>
    (zq40 r1.1 r1.2.1 r1.2.2.1 r1.2.2.2.1).bind fun r11 =>
    (if (!r9.2) = true then some true else if (!(r9.1.toList == i1.toList)) = true then some true else if (!r10.2) = true then some true else (zq110 r10.1 r11.1).bind fun r12 =>
    some (!r12)).bind fun (v4 : Bool) =>
    if v4 = true then
     some false
    else
     (zq39 code).bind fun r13 =>
     (zq10 r13.1 r13.2).bind fun r14 =>
     (zq41 r13.1 r13.2).bind fun r15 =>
     (if (r14.1.toList == r15.1.toList) = true then some (r14.2 == r15.2) else some false).bind fun (t1 : Bool) =>
     some t1
end Go.Proofs.YtimaoofeephgjaaGreatDoor
