/- Models of the functions that the law reaches: plain Lean; none where the function would panic or not end. Made by program (dec.py). -/
import Derived.Test.YtmmffjenpfeapaaAbC0
namespace Go.Proofs.Ytmmffjenpfeapaa
open Go Go.Ab
set_option maxRecDepth 100000
set_option maxHeartbeats 4000000
set_option linter.unusedVariables false
set_option linter.unusedSimpArgs false
structure l1Cur where
 code_ : List UInt8
 at_ : Int
 seed_ : IK .u64
instance enc_l1Cur : Enc l1Cur := ⟨3, fun x => .agg [Enc.e x.code_, .sc (.int .i64 x.at_), .sc (.int .u64 x.seed_.v)], fun a b h => by
 simp only [D.agg.injEq, List.cons.injEq, and_true] at h
 obtain ⟨a1, a2, a3⟩ := a
 obtain ⟨b1, b2, b3⟩ := b
 obtain ⟨h1, h2, h3⟩ := h
 have q1 := Enc.inj (α := List UInt8) a1 b1 h1
 have q2 := Enc.inj (α := Int) a2 b2 h2
 have q3 := Enc.inj (α := IK .u64) a3 b3 h3
 subst q1; subst q2; subst q3; rfl⟩
structure Line where
 Name : ByteArray
 Stops : List Int
 Runs : List Int
instance enc_Line : Enc Line := ⟨3, fun x => .agg [.sc (.string x.Name), Enc.e x.Stops, Enc.e x.Runs], fun a b h => by
 simp only [D.agg.injEq, List.cons.injEq, and_true] at h
 obtain ⟨a1, a2, a3⟩ := a
 obtain ⟨b1, b2, b3⟩ := b
 obtain ⟨h1, h2, h3⟩ := h
 have q1 := Enc.inj (α := ByteArray) a1 b1 h1
 have q2 := Enc.inj (α := List Int) a2 b2 h2
 have q3 := Enc.inj (α := List Int) a3 b3 h3
 subst q1; subst q2; subst q3; rfl⟩
structure Network where
 Stops : List ByteArray
 Lines : List Line
instance enc_Network : Enc Network := ⟨2, fun x => .agg [Enc.e x.Stops, Enc.e x.Lines], fun a b h => by
 simp only [D.agg.injEq, List.cons.injEq, and_true] at h
 obtain ⟨a1, a2⟩ := a
 obtain ⟨b1, b2⟩ := b
 obtain ⟨h1, h2⟩ := h
 have q1 := Enc.inj (α := List ByteArray) a1 b1 h1
 have q2 := Enc.inj (α := List Line) a2 b2 h2
 subst q1; subst q2; rfl⟩
structure Trip where
 Id : Int
 Line : Int
 Start : Int
instance enc_Trip : Enc Trip := ⟨3, fun x => .agg [.sc (.int .i64 x.Id), .sc (.int .i64 x.Line), .sc (.int .i64 x.Start)], fun a b h => by
 simp only [D.agg.injEq, List.cons.injEq, and_true] at h
 obtain ⟨a1, a2, a3⟩ := a
 obtain ⟨b1, b2, b3⟩ := b
 obtain ⟨h1, h2, h3⟩ := h
 have q1 := Enc.inj (α := Int) a1 b1 h1
 have q2 := Enc.inj (α := Int) a2 b2 h2
 have q3 := Enc.inj (α := Int) a3 b3 h3
 subst q1; subst q2; subst q3; rfl⟩
structure Timetable where
 Network : Network
 Trips : List Trip
instance enc_Timetable : Enc Timetable := ⟨3, fun x => .agg [Enc.e x.Network.Stops, Enc.e x.Network.Lines, Enc.e x.Trips], fun a b h => by
 simp only [D.agg.injEq, List.cons.injEq, and_true] at h
 obtain ⟨⟨a1, a2⟩, a3⟩ := a
 obtain ⟨⟨b1, b2⟩, b3⟩ := b
 obtain ⟨h1, h2, h3⟩ := h
 have q1 := Enc.inj (α := List ByteArray) a1 b1 h1
 have q2 := Enc.inj (α := List Line) a2 b2 h2
 have q3 := Enc.inj (α := List Trip) a3 b3 h3
 subst q1; subst q2; subst q3; rfl⟩
structure Flow where
 From : Int
 To : Int
 Time : Int
 Persons : Int
instance enc_Flow : Enc Flow := ⟨4, fun x => .agg [.sc (.int .i64 x.From), .sc (.int .i64 x.To), .sc (.int .i64 x.Time), .sc (.int .i64 x.Persons)], fun a b h => by
 simp only [D.agg.injEq, List.cons.injEq, and_true] at h
 obtain ⟨a1, a2, a3, a4⟩ := a
 obtain ⟨b1, b2, b3, b4⟩ := b
 obtain ⟨h1, h2, h3, h4⟩ := h
 have q1 := Enc.inj (α := Int) a1 b1 h1
 have q2 := Enc.inj (α := Int) a2 b2 h2
 have q3 := Enc.inj (α := Int) a3 b3 h3
 have q4 := Enc.inj (α := Int) a4 b4 h4
 subst q1; subst q2; subst q3; subst q4; rfl⟩
structure service where
 trip_ : Int
 from_ : Int
 to_ : Int
 arrive_ : Int
instance enc_service : Enc service := ⟨4, fun x => .agg [.sc (.int .i64 x.trip_), .sc (.int .i64 x.from_), .sc (.int .i64 x.to_), .sc (.int .i64 x.arrive_)], fun a b h => by
 simp only [D.agg.injEq, List.cons.injEq, and_true] at h
 obtain ⟨a1, a2, a3, a4⟩ := a
 obtain ⟨b1, b2, b3, b4⟩ := b
 obtain ⟨h1, h2, h3, h4⟩ := h
 have q1 := Enc.inj (α := Int) a1 b1 h1
 have q2 := Enc.inj (α := Int) a2 b2 h2
 have q3 := Enc.inj (α := Int) a3 b3 h3
 have q4 := Enc.inj (α := Int) a4 b4 h4
 subst q1; subst q2; subst q3; subst q4; rfl⟩
structure boarding where
 flow_ : Int
 service_ : service
 persons_ : Int
instance enc_boarding : Enc boarding := ⟨6, fun x => .agg [.sc (.int .i64 x.flow_), .sc (.int .i64 x.service_.trip_), .sc (.int .i64 x.service_.from_), .sc (.int .i64 x.service_.to_), .sc (.int .i64 x.service_.arrive_), .sc (.int .i64 x.persons_)], fun a b h => by
 simp only [D.agg.injEq, List.cons.injEq, and_true] at h
 obtain ⟨a1, ⟨a2, a3, a4, a5⟩, a6⟩ := a
 obtain ⟨b1, ⟨b2, b3, b4, b5⟩, b6⟩ := b
 obtain ⟨h1, h2, h3, h4, h5, h6⟩ := h
 have q1 := Enc.inj (α := Int) a1 b1 h1
 have q2 := Enc.inj (α := Int) a2 b2 h2
 have q3 := Enc.inj (α := Int) a3 b3 h3
 have q4 := Enc.inj (α := Int) a4 b4 h4
 have q5 := Enc.inj (α := Int) a5 b5 h5
 have q6 := Enc.inj (α := Int) a6 b6 h6
 subst q1; subst q2; subst q3; subst q4; subst q5; subst q6; rfl⟩
structure boards where
 list_ : List boarding
 loads_ : List (List Int)
 left_ : List Int
instance enc_boards : Enc boards := ⟨3, fun x => .agg [Enc.e x.list_, Enc.e x.loads_, Enc.e x.left_], fun a b h => by
 simp only [D.agg.injEq, List.cons.injEq, and_true] at h
 obtain ⟨a1, a2, a3⟩ := a
 obtain ⟨b1, b2, b3⟩ := b
 obtain ⟨h1, h2, h3⟩ := h
 have q1 := Enc.inj (α := List boarding) a1 b1 h1
 have q2 := Enc.inj (α := List (List Int)) a2 b2 h2
 have q3 := Enc.inj (α := List Int) a3 b3 h3
 subst q1; subst q2; subst q3; rfl⟩
structure l20State where
 loads_ : List (List Int)
 left_ : List Int
 minutes_ : Int
 persons_ : Int
 on_ : List Int
 off_ : List Int
instance enc_l20State : Enc l20State := ⟨6, fun x => .agg [Enc.e x.loads_, Enc.e x.left_, .sc (.int .i64 x.minutes_), .sc (.int .i64 x.persons_), Enc.e x.on_, Enc.e x.off_], fun a b h => by
 simp only [D.agg.injEq, List.cons.injEq, and_true] at h
 obtain ⟨a1, a2, a3, a4, a5, a6⟩ := a
 obtain ⟨b1, b2, b3, b4, b5, b6⟩ := b
 obtain ⟨h1, h2, h3, h4, h5, h6⟩ := h
 have q1 := Enc.inj (α := List (List Int)) a1 b1 h1
 have q2 := Enc.inj (α := List Int) a2 b2 h2
 have q3 := Enc.inj (α := Int) a3 b3 h3
 have q4 := Enc.inj (α := Int) a4 b4 h4
 have q5 := Enc.inj (α := List Int) a5 b5 h5
 have q6 := Enc.inj (α := List Int) a6 b6 h6
 subst q1; subst q2; subst q3; subst q4; subst q5; subst q6; rfl⟩
instance : BxE l1Cur := ⟨fun x y h => Enc.inj x y (congrArg D.agg h)⟩
instance : BxE Line := ⟨fun x y h => Enc.inj x y (congrArg D.agg h)⟩
instance : BxE Network := ⟨fun x y h => Enc.inj x y (congrArg D.agg h)⟩
instance : BxE Trip := ⟨fun x y h => Enc.inj x y (congrArg D.agg h)⟩
instance : BxE Timetable := ⟨fun x y h => Enc.inj x y (congrArg D.agg h)⟩
instance : BxE Flow := ⟨fun x y h => Enc.inj x y (congrArg D.agg h)⟩
instance : BxE service := ⟨fun x y h => Enc.inj x y (congrArg D.agg h)⟩
instance : BxE boarding := ⟨fun x y h => Enc.inj x y (congrArg D.agg h)⟩
instance : BxE boards := ⟨fun x y h => Enc.inj x y (congrArg D.agg h)⟩
instance : BxE l20State := ⟨fun x y h => Enc.inj x y (congrArg D.agg h)⟩
instance : FlatEnc Trip := ⟨fun _ => flatDB_ok rfl⟩
instance : FlatEnc Flow := ⟨fun _ => flatDB_ok rfl⟩
instance : FlatEnc service := ⟨fun _ => flatDB_ok rfl⟩
instance : FlatEnc boarding := ⟨fun _ => flatDB_ok rfl⟩
noncomputable def zq95 (code : List UInt8) : Option (Bool) :=
 some (decide (65536 < (code.length : Int)))
noncomputable def zq46 (c : l1Cur) : Option (Int × l1Cur) :=
 (if (decide (c.at_ < (c.code_.length : Int))) = true then
  (idx c.code_ c.at_).bind fun e1 =>
  some (w64 ((e1.toNat : Int)))
 else
  some (0 : Int)).bind fun (v : Int) =>
 if (decide ((w64 (c.at_ + 1)) ≤ (c.code_.length : Int))) = true then
  some (v, (⟨c.code_, (w64 (c.at_ + 1)), (⟨(IntKind.u64.wrap ((IntKind.u64.wrap ((IntKind.u64.wrap (c.seed_.v * 6364136223846793005)) + (IntKind.u64.wrap (v)))) + 900900))⟩ : IK .u64)⟩ : l1Cur))
 else
  (chk ((0 : Int) ≤ 40)).bind fun u =>
  some ((w64 ((IntKind.u64.wrap ((BitVec.ofInt (IntKind.u64).bits ((IntKind.u64.wrap ((IntKind.u64.wrap ((IntKind.u64.wrap (c.seed_.v * 6364136223846793005)) + (IntKind.u64.wrap (v)))) + 900900)).fdiv (2 ^ (min (40 : Int).toNat (IntKind.u64).bits))) &&& BitVec.ofInt (IntKind.u64).bits 255).toNat : Int)))), (⟨c.code_, (w64 (c.at_ + 1)), (⟨(IntKind.u64.wrap ((IntKind.u64.wrap ((IntKind.u64.wrap (c.seed_.v * 6364136223846793005)) + (IntKind.u64.wrap (v)))) + 900900))⟩ : IK .u64)⟩ : l1Cur))
noncomputable def zq50 (c : l1Cur) (n : Int) : Option (Int × l1Cur) :=
 if (decide (n ≤ 1)) = true then
  some (0, c)
 else
  (zq46 c).bind fun r =>
  (if (decide (200 < n)) = true then
   (zq46 r.2).bind fun r1 =>
   some ((w64 ((w64 (r.1 * 256)) + r1.1)), r1.2.code_, r1.2.at_, r1.2.seed_.v)
  else
   some (r.1, r.2.code_, r.2.at_, r.2.seed_.v)).bind fun ((v, v1, v2, v3) : Int × (List UInt8) × Int × Int) =>
  (chk ((n : Int) ≠ 0)).bind fun u =>
  some ((v.tmod n), (⟨v1, v2, (⟨v3⟩ : IK .u64)⟩ : l1Cur))
noncomputable def zq55_F (rec_ : Int → Option (ByteArray)) (n : Int) : Option (ByteArray) :=
 if (decide (n < 0)) = true then
  (rec_ (w64 (0 - n))).bind fun r =>
  (chk ((str [45]).size + r.size ≤ 4294967296)).bind fun u =>
  some ((str [45]) ++ r)
 else
  if (decide (n < 10)) = true then
   (chk ((0 : Int) ≤ n ∧ (n : Int) ≤ (w64 (n + 1)) ∧ (w64 (n + 1)) ≤ ((str [48, 49, 50, 51, 52, 53, 54, 55, 56, 57]).size : Int))).bind fun u1 =>
   some ((str [48, 49, 50, 51, 52, 53, 54, 55, 56, 57]).extract n.toNat (w64 (n + 1)).toNat)
  else
   (chk ((10 : Int) ≠ 0)).bind fun u7 =>
   (rec_ (w64 (n.tdiv 10))).bind fun r2 =>
   (chk ((10 : Int) ≠ 0)).bind fun u8 =>
   (chk ((10 : Int) ≠ 0)).bind fun u9 =>
   (chk ((0 : Int) ≤ (n.tmod 10) ∧ ((n.tmod 10) : Int) ≤ (w64 ((n.tmod 10) + 1)) ∧ (w64 ((n.tmod 10) + 1)) ≤ ((str [48, 49, 50, 51, 52, 53, 54, 55, 56, 57]).size : Int))).bind fun u10 =>
   (chk (r2.size + ((str [48, 49, 50, 51, 52, 53, 54, 55, 56, 57]).extract (n.tmod 10).toNat (w64 ((n.tmod 10) + 1)).toNat).size ≤ 4294967296)).bind fun u11 =>
   some (r2 ++ ((str [48, 49, 50, 51, 52, 53, 54, 55, 56, 57]).extract (n.tmod 10).toNat (w64 ((n.tmod 10) + 1)).toNat))
noncomputable def zq55_k : Nat → Int → Option (ByteArray)
 | 0 => fun _ => none
 | n + 1 => zq55_F (zq55_k n)
noncomputable def zq55 (n : Int) : Option (ByteArray) := zq55_k 4294967296 n
noncomputable def zq73_L1 (x : Line) (stop : Int) : Int → Option (Lp (Int) (Fl (Int) (Unit)))
 | v =>
  if (decide (v < (x.Stops.length : Int))) = true then
   (idx x.Stops v).bind fun e =>
   if (e == stop) = true then
    some (.dn (.ret v))
   else
    some (.nx (w64 (v + 1)))
  else
   some (.dn (.go ()))
noncomputable def zq73 (x : Line) (stop : Int) : Option (Int) :=
 flb (iter (zq73_L1 x stop) (0 : Int)) fun (_ : Unit) =>
 some (-1)
noncomputable def zq42_L1 (name : ByteArray) (stops : Int) : Int × Int × (List UInt8) × Int × Int × (List Int) → Option (Lp (Int × Int × (List UInt8) × Int × Int × (List Int)) ((List UInt8) × Int × Int × (List Int)))
 | (v, v1, v2, v3, v4, v5) =>
  if (decide (0 < v1)) = true then
   ((zq73 (⟨name, v5, ([] : List Int)⟩ : Line) v).bind fun r2 =>
   if (decide (r2 < 0)) = true then
    (chk (v5.length + ([v] : List Int).length ≤ 4294967296)).bind fun u =>
    some (v5 ++ ([v] : List Int))
   else
    some v5).bind fun (v6 : List Int) =>
   (zq50 (⟨v2, v3, (⟨v4⟩ : IK .u64)⟩ : l1Cur) 2).bind fun r3 =>
   (chk ((stops : Int) ≠ 0)).bind fun u1 =>
   some (.nx (((w64 ((w64 (v + 1)) + r3.1)).tmod stops), (w64 (v1 - 1)), r3.2.code_, r3.2.at_, r3.2.seed_.v, v6))
  else
   some (.dn (v2, v3, v4, v5))
noncomputable def zq42_L2 (v11 : List Int) : Int × (List UInt8) × Int × Int × (List Int) → Option (Lp (Int × (List UInt8) × Int × Int × (List Int)) ((List UInt8) × Int × Int × (List Int)))
 | (v12, v13, v14, v15, v16) =>
  if (decide (v12 < (v11.length : Int))) = true then
   (zq50 (⟨v13, v14, (⟨v15⟩ : IK .u64)⟩ : l1Cur) 12).bind fun r5 =>
   (chk (v16.length + ([(w64 (3 + r5.1))] : List Int).length ≤ 4294967296)).bind fun u7 =>
   some (.nx ((w64 (v12 + 1)), r5.2.code_, r5.2.at_, r5.2.seed_.v, (v16 ++ ([(w64 (3 + r5.1))] : List Int))))
  else
   some (.dn (v13, v14, v15, v16))
noncomputable def zq42 (c : l1Cur) (name : ByteArray) (stops : Int) : Option (Line × l1Cur) :=
 (zq50 c stops).bind fun r =>
 (zq50 r.2 3).bind fun r1 =>
 (iter (zq42_L1 name stops) (r.1, (w64 (2 + r1.1)), r1.2.code_, r1.2.at_, r1.2.seed_.v, ([] : List Int))).bind fun ((v7, v8, v9, v10) : (List UInt8) × Int × Int × (List Int)) =>
 (if (decide ((v10.length : Int) < 2)) = true then
  (idx v10 0).bind fun e1 =>
  (chk ((stops : Int) ≠ 0)).bind fun u4 =>
  (chk (v10.length + ([((w64 (e1 + 1)).tmod stops)] : List Int).length ≤ 4294967296)).bind fun u5 =>
  some (v10 ++ ([((w64 (e1 + 1)).tmod stops)] : List Int))
 else
  some v10).bind fun (v11 : List Int) =>
 (iter (zq42_L2 v11) ((1 : Int), v7, v8, v9, ([] : List Int))).bind fun ((v17, v18, v19, v20) : (List UInt8) × Int × Int × (List Int)) =>
 some ((⟨name, v11, v20⟩ : Line), (⟨v17, v18, (⟨v19⟩ : IK .u64)⟩ : l1Cur))
noncomputable def zq43_L1 (name : ByteArray) (stops : Int) : Int × Int × (List UInt8) × Int × Int × (List Int) → Option (Lp (Int × Int × (List UInt8) × Int × Int × (List Int)) ((List UInt8) × Int × Int × (List Int)))
 | (v, v1, v2, v3, v4, v5) =>
  if (decide (0 < v1)) = true then
   ((zq73 (⟨name, v5, ([] : List Int)⟩ : Line) v).bind fun r2 =>
   if (decide (r2 < 0)) = true then
    (chk (v5.length + ([v] : List Int).length ≤ 4294967296)).bind fun u =>
    some (v5 ++ ([v] : List Int))
   else
    some v5).bind fun (v6 : List Int) =>
   (zq50 (⟨v2, v3, (⟨v4⟩ : IK .u64)⟩ : l1Cur) 2).bind fun r3 =>
   (chk ((stops : Int) ≠ 0)).bind fun u1 =>
   some (.nx (((w64 ((w64 (v + 1)) + r3.1)).tmod stops), (w64 (v1 - 1)), r3.2.code_, r3.2.at_, r3.2.seed_.v, v6))
  else
   some (.dn (v2, v3, v4, v5))
noncomputable def zq43_L2 (v11 : List Int) : Int × (List UInt8) × Int × Int × (List Int) → Option (Lp (Int × (List UInt8) × Int × Int × (List Int)) ((List UInt8) × Int × Int × (List Int)))
 | (v12, v13, v14, v15, v16) =>
  if (decide (v12 < (v11.length : Int))) = true then
   (zq50 (⟨v13, v14, (⟨v15⟩ : IK .u64)⟩ : l1Cur) 12).bind fun r5 =>
   (chk (v16.length + ([(w64 (3 + r5.1))] : List Int).length ≤ 4294967296)).bind fun u7 =>
   some (.nx ((w64 (v12 + 1)), r5.2.code_, r5.2.at_, r5.2.seed_.v, (v16 ++ ([(w64 (3 + r5.1))] : List Int))))
  else
   some (.dn (v13, v14, v15, v16))
noncomputable def zq43 (c : l1Cur) (name : ByteArray) (stops : Int) : Option (Line × l1Cur) :=
 (zq50 c stops).bind fun r =>
 (zq50 r.2 3).bind fun r1 =>
 (iter (zq43_L1 name stops) (r.1, (w64 (2 + r1.1)), r1.2.code_, r1.2.at_, r1.2.seed_.v, ([] : List Int))).bind fun ((v7, v8, v9, v10) : (List UInt8) × Int × Int × (List Int)) =>
 (if (decide ((v10.length : Int) < 2)) = true then
  (idx v10 0).bind fun e1 =>
  (chk ((stops : Int) ≠ 0)).bind fun u4 =>
  (chk (v10.length + ([((w64 (e1 + 1)).tmod stops)] : List Int).length ≤ 4294967296)).bind fun u5 =>
  some (v10 ++ ([((w64 (e1 + 1)).tmod stops)] : List Int))
 else
  some v10).bind fun (v11 : List Int) =>
 (iter (zq43_L2 v11) ((1 : Int), v7, v8, v9, ([] : List Int))).bind fun ((v17, v18, v19, v20) : (List UInt8) × Int × Int × (List Int)) =>
 some ((⟨name, v11, v20⟩ : Line), (⟨v17, v18, (⟨v19⟩ : IK .u64)⟩ : l1Cur))
noncomputable def zq49 (c : l1Cur) (n : Int) : Option (Bool × l1Cur) :=
 (zq50 c n).bind fun r =>
 some ((r.1 == 0), r.2)
noncomputable def zq64_L1 (list : List Int) : Int × (List Int) → Option (Lp (Int × (List Int)) ((List Int)))
 | (v, i) =>
  if (decide (0 ≤ v)) = true then
   (idx list v).bind fun e =>
   (chk (i.length + ([e] : List Int).length ≤ 4294967296)).bind fun u =>
   some (.nx ((w64 (v - 1)), (i ++ ([e] : List Int))))
  else
   some (.dn i)
noncomputable def zq64 (list : List Int) : Option ((List Int)) :=
 (iter (zq64_L1 list) ((w64 ((list.length : Int) - 1)), ([] : List Int))).bind fun (i1 : List Int) =>
 some i1
noncomputable def zq65_L1 (list : List Int) : Int × (List Int) → Option (Lp (Int × (List Int)) ((List Int)))
 | (v, i) =>
  if (decide (0 ≤ v)) = true then
   (idx list v).bind fun e =>
   (chk (i.length + ([e] : List Int).length ≤ 4294967296)).bind fun u =>
   some (.nx ((w64 (v - 1)), (i ++ ([e] : List Int))))
  else
   some (.dn i)
noncomputable def zq65 (list : List Int) : Option ((List Int)) :=
 (iter (zq65_L1 list) ((w64 ((list.length : Int) - 1)), ([] : List Int))).bind fun (i1 : List Int) =>
 some i1
noncomputable def zq56 (l : List Int) : Option ((List Int)) :=
 (chk (([] : List Int).length + l.length ≤ 4294967296)).bind fun u =>
 some (([] : List Int) ++ l)
noncomputable def zq57 (l : List Int) : Option ((List Int)) :=
 (chk (([] : List Int).length + l.length ≤ 4294967296)).bind fun u =>
 some (([] : List Int) ++ l)
noncomputable def zq71_L1 (n : Network) : Int × (List Line) → Option (Lp (Int × (List Line)) ((List Line)))
 | (v, v1) =>
  if (decide (v < (n.Lines.length : Int))) = true then
   (idx n.Lines v).bind fun e3 =>
   (idx n.Lines v).bind fun e4 =>
   (zq57 e4.Stops).bind fun r2 =>
   (idx n.Lines v).bind fun e5 =>
   (zq57 e5.Runs).bind fun r3 =>
   (chk (v1.length + ([(⟨e3.Name, r2, r3⟩ : Line)] : List Line).length ≤ 4294967296)).bind fun u2 =>
   some (.nx ((w64 (v + 1)), (v1 ++ ([(⟨e3.Name, r2, r3⟩ : Line)] : List Line))))
  else
   some (.dn v1)
noncomputable def zq71 (n : Network) : Option (Network) :=
 (chk (([] : List ByteArray).length + n.Stops.length ≤ 4294967296)).bind fun u =>
 (iter (zq71_L1 n) ((0 : Int), ([] : List Line))).bind fun (v2 : List Line) =>
 some (⟨(([] : List ByteArray) ++ n.Stops), v2⟩ : Network)
noncomputable def zq44_L1 (r : Int × l1Cur) : Int × (List UInt8) × Int × Int × (List Line) → Option (Lp (Int × (List UInt8) × Int × Int × (List Line)) ((List UInt8) × Int × Int × (List Line)))
 | (x, v, v1, v2, v3) =>
  if (decide (0 < x)) = true then
   (zq55 x).bind fun r4 =>
   (chk ((str [108]).size + r4.size ≤ 4294967296)).bind fun u3 =>
   (zq43 (⟨v, v1, (⟨v2⟩ : IK .u64)⟩ : l1Cur) ((str [108]) ++ r4) (w64 (2 + r.1))).bind fun r5 =>
   (chk (v3.length + ([r5.1] : List Line).length ≤ 4294967296)).bind fun u4 =>
   some (.nx ((w64 (x - 1)), r5.2.code_, r5.2.at_, r5.2.seed_.v, (v3 ++ ([r5.1] : List Line))))
  else
   some (.dn (v, v1, v2, v3))
noncomputable def zq44 (c : l1Cur) : Option (Network × l1Cur) :=
 (zq50 c 5).bind fun r =>
 (chk ((0 : Int) ≤ 0 ∧ (0 : Int) ≤ (w64 (2 + r.1)) ∧ (w64 (2 + r.1)) ≤ (([(str [112, 111, 114, 116]), (str [109, 105, 108, 108]), (str [112, 97, 114, 107]), (str [104, 97, 108, 108]), (str [100, 111, 99, 107]), (str [102, 97, 105, 114])] : List ByteArray).length : Int))).bind fun u =>
 (zq50 r.2 3).bind fun r1 =>
 (iter (zq44_L1 r) ((w64 (1 + r1.1)), r1.2.code_, r1.2.at_, r1.2.seed_.v, ([] : List Line))).bind fun ((v4, v5, v6, v7) : (List UInt8) × Int × Int × (List Line)) =>
 ((zq49 (⟨v4, v5, (⟨v6⟩ : IK .u64)⟩ : l1Cur) 2).bind fun r6 =>
 if r6.1 = true then
  (idx v7 0).bind fun e =>
  (zq65 e.Stops).bind fun r9 =>
  (zq65 e.Runs).bind fun r10 =>
  (chk (v7.length + ([(⟨(str [114, 49]), r9, r10⟩ : Line)] : List Line).length ≤ 4294967296)).bind fun u6 =>
  some (r6.2.code_, r6.2.at_, r6.2.seed_.v, (v7 ++ ([(⟨(str [114, 49]), r9, r10⟩ : Line)] : List Line)))
 else
  some (r6.2.code_, r6.2.at_, r6.2.seed_.v, v7)).bind fun ((v8, v9, v10, v11) : (List UInt8) × Int × Int × (List Line)) =>
 (zq71 (⟨((([(str [112, 111, 114, 116]), (str [109, 105, 108, 108]), (str [112, 97, 114, 107]), (str [104, 97, 108, 108]), (str [100, 111, 99, 107]), (str [102, 97, 105, 114])] : List ByteArray).take (w64 (2 + r.1)).toNat).drop (0 : Int).toNat), v11⟩ : Network)).bind fun r11 =>
 some ((⟨r11.Stops, r11.Lines⟩ : Network), (⟨v8, v9, (⟨v10⟩ : IK .u64)⟩ : l1Cur))
noncomputable def zq51_L1 (r : Network × l1Cur) : Int × Int × (List UInt8) × Int × Int × (List Trip) → Option (Lp (Int × Int × (List UInt8) × Int × Int × (List Trip)) ((List UInt8) × Int × Int × (List Trip)))
 | (n, v, v1, v2, v3, v4) =>
  if (decide (0 < v)) = true then
   (zq50 (⟨v1, v2, (⟨v3⟩ : IK .u64)⟩ : l1Cur) 3).bind fun r2 =>
   (zq50 r2.2 (r.1.Lines.length : Int)).bind fun r5 =>
   (zq50 r5.2 24).bind fun r6 =>
   (chk (v4.length + ([(⟨(w64 ((w64 (n + 1)) + r2.1)), r5.1, (w64 (360 + (w64 (5 * r6.1))))⟩ : Trip)] : List Trip).length ≤ 4294967296)).bind fun u1 =>
   some (.nx ((w64 ((w64 (n + 1)) + r2.1)), (w64 (v - 1)), r6.2.code_, r6.2.at_, r6.2.seed_.v, (v4 ++ ([(⟨(w64 ((w64 (n + 1)) + r2.1)), r5.1, (w64 (360 + (w64 (5 * r6.1))))⟩ : Trip)] : List Trip))))
  else
   some (.dn (v1, v2, v3, v4))
noncomputable def zq51 (c : l1Cur) : Option (Timetable × l1Cur) :=
 (zq44 c).bind fun r =>
 (zq50 r.2 8).bind fun r1 =>
 (iter (zq51_L1 r) ((0 : Int), r1.1, r1.2.code_, r1.2.at_, r1.2.seed_.v, ([] : List Trip))).bind fun ((v5, v6, v7, v8) : (List UInt8) × Int × Int × (List Trip)) =>
 some ((⟨(⟨r.1.Stops, r.1.Lines⟩ : Network), v8⟩ : Timetable), (⟨v5, v6, (⟨v7⟩ : IK .u64)⟩ : l1Cur))
noncomputable def zq36 (c : l1Cur) (list : List Int) : Option (Int × l1Cur) :=
 (zq50 c (list.length : Int)).bind fun r =>
 (idx list r.1).bind fun e =>
 some (e, r.2)
noncomputable def zq47 (c : l1Cur) (list : List ByteArray) : Option (ByteArray × l1Cur) :=
 (zq50 c (list.length : Int)).bind fun r =>
 (idx list r.1).bind fun e =>
 some (e, r.2)
noncomputable def zq48 (c : l1Cur) (list : List ByteArray) : Option (ByteArray × l1Cur) :=
 (zq50 c (list.length : Int)).bind fun r =>
 (idx list r.1).bind fun e =>
 some (e, r.2)
noncomputable def zq72_L1 (n : Network) : Int × (List Line) → Option (Lp (Int × (List Line)) ((List Line)))
 | (v, v1) =>
  if (decide (v < (n.Lines.length : Int))) = true then
   (idx n.Lines v).bind fun e3 =>
   (idx n.Lines v).bind fun e4 =>
   (zq56 e4.Stops).bind fun r2 =>
   (idx n.Lines v).bind fun e5 =>
   (zq56 e5.Runs).bind fun r3 =>
   (chk (v1.length + ([(⟨e3.Name, r2, r3⟩ : Line)] : List Line).length ≤ 4294967296)).bind fun u2 =>
   some (.nx ((w64 (v + 1)), (v1 ++ ([(⟨e3.Name, r2, r3⟩ : Line)] : List Line))))
  else
   some (.dn v1)
noncomputable def zq72 (n : Network) : Option (Network) :=
 (chk (([] : List ByteArray).length + n.Stops.length ≤ 4294967296)).bind fun u =>
 (iter (zq72_L1 n) ((0 : Int), ([] : List Line))).bind fun (v2 : List Line) =>
 some (⟨(([] : List ByteArray) ++ n.Stops), v2⟩ : Network)
noncomputable def zq45_L1 (r : Int × l1Cur) : Int × (List UInt8) × Int × Int × (List Line) → Option (Lp (Int × (List UInt8) × Int × Int × (List Line)) ((List UInt8) × Int × Int × (List Line)))
 | (x, v, v1, v2, v3) =>
  if (decide (0 < x)) = true then
   (zq55 x).bind fun r4 =>
   (chk ((str [108]).size + r4.size ≤ 4294967296)).bind fun u3 =>
   (zq43 (⟨v, v1, (⟨v2⟩ : IK .u64)⟩ : l1Cur) ((str [108]) ++ r4) (w64 (2 + r.1))).bind fun r5 =>
   (chk (v3.length + ([r5.1] : List Line).length ≤ 4294967296)).bind fun u4 =>
   some (.nx ((w64 (x - 1)), r5.2.code_, r5.2.at_, r5.2.seed_.v, (v3 ++ ([r5.1] : List Line))))
  else
   some (.dn (v, v1, v2, v3))
noncomputable def zq45 (c : l1Cur) : Option (Network × l1Cur) :=
 (zq50 c 5).bind fun r =>
 (chk ((0 : Int) ≤ 0 ∧ (0 : Int) ≤ (w64 (2 + r.1)) ∧ (w64 (2 + r.1)) ≤ (([(str [112, 111, 114, 116]), (str [109, 105, 108, 108]), (str [112, 97, 114, 107]), (str [104, 97, 108, 108]), (str [100, 111, 99, 107]), (str [102, 97, 105, 114])] : List ByteArray).length : Int))).bind fun u =>
 (zq50 r.2 3).bind fun r1 =>
 (iter (zq45_L1 r) ((w64 (1 + r1.1)), r1.2.code_, r1.2.at_, r1.2.seed_.v, ([] : List Line))).bind fun ((v4, v5, v6, v7) : (List UInt8) × Int × Int × (List Line)) =>
 ((zq49 (⟨v4, v5, (⟨v6⟩ : IK .u64)⟩ : l1Cur) 2).bind fun r6 =>
 if r6.1 = true then
  (idx v7 0).bind fun e =>
  (zq65 e.Stops).bind fun r9 =>
  (zq65 e.Runs).bind fun r10 =>
  (chk (v7.length + ([(⟨(str [114, 49]), r9, r10⟩ : Line)] : List Line).length ≤ 4294967296)).bind fun u6 =>
  some (r6.2.code_, r6.2.at_, r6.2.seed_.v, (v7 ++ ([(⟨(str [114, 49]), r9, r10⟩ : Line)] : List Line)))
 else
  some (r6.2.code_, r6.2.at_, r6.2.seed_.v, v7)).bind fun ((v8, v9, v10, v11) : (List UInt8) × Int × Int × (List Line)) =>
 (zq72 (⟨((([(str [112, 111, 114, 116]), (str [109, 105, 108, 108]), (str [112, 97, 114, 107]), (str [104, 97, 108, 108]), (str [100, 111, 99, 107]), (str [102, 97, 105, 114])] : List ByteArray).take (w64 (2 + r.1)).toNat).drop (0 : Int).toNat), v11⟩ : Network)).bind fun r11 =>
 some ((⟨r11.Stops, r11.Lines⟩ : Network), (⟨v8, v9, (⟨v10⟩ : IK .u64)⟩ : l1Cur))
noncomputable def zq37 (c : l1Cur) (list : List Int) : Option (Int × l1Cur) :=
 (zq50 c (list.length : Int)).bind fun r =>
 (idx list r.1).bind fun e =>
 some (e, r.2)
noncomputable def zq38_L1 (r : Network × l1Cur) : Int × (List UInt8) × Int × Int × (List Line) → Option (Lp (Int × (List UInt8) × Int × Int × (List Line)) ((List UInt8) × Int × Int × (List Line)))
 | (v7, v8, v9, v10, v11) =>
  (zq50 (⟨v8, v9, (⟨v10⟩ : IK .u64)⟩ : l1Cur) 2).bind fun r16 =>
  (if (decide ((v11.length : Int) < (w64 (5 + r16.1)))) = true then some (decide (v7 < 7)) else some false).bind fun (v12 : Bool) =>
  if v12 = true then
   (zq55 v7).bind fun r19 =>
   (chk ((str [120]).size + r19.size ≤ 4294967296)).bind fun u3 =>
   (zq42 r16.2 ((str [120]) ++ r19) (r.1.Stops.length : Int)).bind fun r20 =>
   (chk (v11.length + ([(⟨r20.1.Name, r20.1.Stops, r20.1.Runs⟩ : Line)] : List Line).length ≤ 4294967296)).bind fun u4 =>
   some (.nx ((w64 (v7 + 1)), r20.2.code_, r20.2.at_, r20.2.seed_.v, (v11 ++ ([(⟨r20.1.Name, r20.1.Stops, r20.1.Runs⟩ : Line)] : List Line))))
  else
   some (.dn (r16.2.code_, r16.2.at_, r16.2.seed_.v, v11))
noncomputable def zq38 (c : l1Cur) : Option (Network × l1Cur) :=
 (zq45 c).bind fun r =>
 (zq50 r.2 (r.1.Lines.length : Int)).bind fun r1 =>
 (idx r.1.Lines r1.1).bind fun e =>
 flb ((zq50 r1.2 24).bind fun r2 =>
 if (r2.1 == 0) = true then
  (zq48 r2.2 ([(str [109, 105, 108, 108]), (str []), (str [65]), (str [97, 98, 99, 100, 101, 102, 103, 104]), (str [97, 98, 99, 100, 101, 102, 103, 104, 105])] : List ByteArray)).bind fun r4 =>
  (idx r.1.Stops 0).bind fun e2 =>
  some (.go (r4.2.code_, r4.2.at_, r4.2.seed_.v, e.Name, (r.1.Stops.set (0 : Int).toNat r4.1), r.1.Lines, e.Runs))
 else
  if (r2.1 == 1) = true then
   (zq48 r2.2 ([(str [114, 49]), (str [108, 49]), (str []), (str [88])] : List ByteArray)).bind fun r5 =>
   some (.go (r5.2.code_, r5.2.at_, r5.2.seed_.v, r5.1, r.1.Stops, r.1.Lines, e.Runs))
  else
   if (r2.1 == 2) = true then
    (zq50 r2.2 (e.Stops.length : Int)).bind fun r8 =>
    (zq50 r8.2 10).bind fun r9 =>
    (idx e.Stops r8.1).bind fun e4 =>
    some (.go (r9.2.code_, r9.2.at_, r9.2.seed_.v, e.Name, r.1.Stops, (r.1.Lines.set r1.1.toNat (⟨e.Name, (e.Stops.set r8.1.toNat (w64 (r9.1 - 1))), e.Runs⟩ : Line)), ((⟨e.Name, (e.Stops.set r8.1.toNat (w64 (r9.1 - 1))), e.Runs⟩ : Line).Runs)))
   else
    if (r2.1 == 3) = true then
     (zq50 r2.2 (e.Runs.length : Int)).bind fun r12 =>
     (zq37 r12.2 ([0, 60, 61, (-1)] : List Int)).bind fun r13 =>
     (idx e.Runs r12.1).bind fun e6 =>
     some (.go (r13.2.code_, r13.2.at_, r13.2.seed_.v, e.Name, r.1.Stops, (r.1.Lines.set r1.1.toNat (⟨e.Name, e.Stops, (e.Runs.set r12.1.toNat r13.1)⟩ : Line)), ((⟨e.Name, e.Stops, (e.Runs.set r12.1.toNat r13.1)⟩ : Line).Runs)))
    else
     if (r2.1 == 4) = true then
      (chk (e.Runs.length + ([3] : List Int).length ≤ 4294967296)).bind fun u =>
      some (.go (r2.2.code_, r2.2.at_, r2.2.seed_.v, e.Name, r.1.Stops, r.1.Lines, (e.Runs ++ ([3] : List Int))))
     else
      if (r2.1 == 5) = true then
       some (.ret ((⟨r.1.Stops, ([] : List Line)⟩ : Network), r2.2))
      else
       if (r2.1 == 6) = true then
        (iter (zq38_L1 r) ((0 : Int), r2.2.code_, r2.2.at_, r2.2.seed_.v, r.1.Lines)).bind fun ((v13, v14, v15, v16) : (List UInt8) × Int × Int × (List Line)) =>
        some (.ret ((⟨r.1.Stops, v16⟩ : Network), (⟨v13, v14, (⟨v15⟩ : IK .u64)⟩ : l1Cur)))
       else
        some (.go (r2.2.code_, r2.2.at_, r2.2.seed_.v, e.Name, r.1.Stops, r.1.Lines, e.Runs))) fun ((v, v1, v2, v3, v4, v5, v6) : (List UInt8) × Int × Int × ByteArray × (List ByteArray) × (List Line) × (List Int)) =>
 (idx v5 r1.1).bind fun e9 =>
 some ((⟨v4, (v5.set r1.1.toNat (⟨v3, e9.Stops, v6⟩ : Line))⟩ : Network), (⟨v, v1, (⟨v2⟩ : IK .u64)⟩ : l1Cur))
noncomputable def zq39_L1 : Int × (List UInt8) × Int × Int × (List Trip) → Option (Lp (Int × (List UInt8) × Int × Int × (List Trip)) ((List UInt8) × Int × Int × (List Trip)))
 | (v8, v9, v10, v11, v12) =>
  (zq50 (⟨v9, v10, (⟨v11⟩ : IK .u64)⟩ : l1Cur) 2).bind fun r8 =>
  (if (decide ((v12.length : Int) < (w64 (12 + r8.1)))) = true then some (decide (v8 < 14)) else some false).bind fun (v13 : Bool) =>
  if v13 = true then
   (chk (v12.length + ([(⟨(w64 (100 + v8)), 0, (w64 (400 + v8))⟩ : Trip)] : List Trip).length ≤ 4294967296)).bind fun u =>
   some (.nx ((w64 (v8 + 1)), r8.2.code_, r8.2.at_, r8.2.seed_.v, (v12 ++ ([(⟨(w64 (100 + v8)), 0, (w64 (400 + v8))⟩ : Trip)] : List Trip))))
  else
   some (.dn (r8.2.code_, r8.2.at_, r8.2.seed_.v, v12))
noncomputable def zq39 (c : l1Cur) : Option (Timetable × l1Cur) :=
 (zq51 c).bind fun r =>
 if ((r.1.Trips.length : Int) == 0) = true then
  some ((⟨(⟨r.1.Network.Stops, r.1.Network.Lines⟩ : Network), r.1.Trips⟩ : Timetable), r.2)
 else
  (zq50 r.2 (r.1.Trips.length : Int)).bind fun r1 =>
  (idx r.1.Trips r1.1).bind fun e =>
  flb ((zq50 r1.2 24).bind fun r2 =>
  if (r2.1 == 0) = true then
   (zq36 r2.2 ([0, 999, 1000, 2] : List Int)).bind fun r3 =>
   some (.go (r3.2.code_, r3.2.at_, r3.2.seed_.v, r.1.Network.Lines, r3.1, e.Line, e.Start, r.1.Network.Stops))
  else
   if (r2.1 == 1) = true then
    (zq50 r2.2 7).bind fun r4 =>
    some (.go (r4.2.code_, r4.2.at_, r4.2.seed_.v, r.1.Network.Lines, e.Id, (w64 (r4.1 - 1)), e.Start, r.1.Network.Stops))
   else
    if (r2.1 == 2) = true then
     (zq36 r2.2 ([(-1), 0, 1799, 1798, 1800] : List Int)).bind fun r5 =>
     some (.go (r5.2.code_, r5.2.at_, r5.2.seed_.v, r.1.Network.Lines, e.Id, e.Line, r5.1, r.1.Network.Stops))
    else
     if (r2.1 == 3) = true then
      (zq38 r2.2).bind fun r6 =>
      some (.go (r6.2.code_, r6.2.at_, r6.2.seed_.v, r6.1.Lines, e.Id, e.Line, e.Start, r6.1.Stops))
     else
      if (r2.1 == 4) = true then
       (iter (zq39_L1) ((0 : Int), r2.2.code_, r2.2.at_, r2.2.seed_.v, r.1.Trips)).bind fun ((v14, v15, v16, v17) : (List UInt8) × Int × Int × (List Trip)) =>
       some (.ret ((⟨(⟨r.1.Network.Stops, r.1.Network.Lines⟩ : Network), v17⟩ : Timetable), (⟨v14, v15, (⟨v16⟩ : IK .u64)⟩ : l1Cur)))
      else
       some (.go (r2.2.code_, r2.2.at_, r2.2.seed_.v, r.1.Network.Lines, e.Id, e.Line, e.Start, r.1.Network.Stops))) fun ((v, v1, v2, v3, v4, v5, v6, v7) : (List UInt8) × Int × Int × (List Line) × Int × Int × Int × (List ByteArray)) =>
  (idx r.1.Trips r1.1).bind fun e2 =>
  some ((⟨(⟨v7, v3⟩ : Network), (r.1.Trips.set r1.1.toNat (⟨v4, v5, v6⟩ : Trip))⟩ : Timetable), (⟨v, v1, (⟨v2⟩ : IK .u64)⟩ : l1Cur))
noncomputable def zq54 (a : Int) (b : Int) : Option (Int) :=
 if (decide (b < a)) = true then
  some a
 else
  some b
noncomputable def zq53 (a : Int) (b : Int) : Option (Int) :=
 if (decide (a < b)) = true then
  some a
 else
  some b
noncomputable def zq52 (x : Int) (a : Int) (b : Int) : Option (Bool) :=
 (if (decide (a ≤ x)) = true then some (decide (x ≤ b)) else some false).bind fun (v : Bool) =>
 some v
noncomputable def zq70_L1 (s : ByteArray) : Int → Option (Lp (Int) (Fl (Bool) (Unit)))
 | v1 =>
  if (decide (v1 < (s.size : Int))) = true then
   (chk ((0 : Int) ≤ v1 ∧ v1 < (s.size : Int))).bind fun u2 =>
   (if (decide (((s.data.toList.getD v1.toNat 0).toNat : Int) < 97)) = true then (chk ((0 : Int) ≤ v1 ∧ v1 < (s.size : Int))).bind fun u3 =>
   if (decide (((s.data.toList.getD v1.toNat 0).toNat : Int) < 48)) = true then some true else (chk ((0 : Int) ≤ v1 ∧ v1 < (s.size : Int))).bind fun u4 =>
   some (decide (57 < ((s.data.toList.getD v1.toNat 0).toNat : Int))) else (chk ((0 : Int) ≤ v1 ∧ v1 < (s.size : Int))).bind fun u5 =>
   if (decide (122 < ((s.data.toList.getD v1.toNat 0).toNat : Int))) = true then (chk ((0 : Int) ≤ v1 ∧ v1 < (s.size : Int))).bind fun u6 =>
   if (decide (((s.data.toList.getD v1.toNat 0).toNat : Int) < 48)) = true then some true else (chk ((0 : Int) ≤ v1 ∧ v1 < (s.size : Int))).bind fun u7 =>
   some (decide (57 < ((s.data.toList.getD v1.toNat 0).toNat : Int))) else some false).bind fun (v2 : Bool) =>
   if v2 = true then
    some (.dn (.ret false))
   else
    some (.nx (w64 (v1 + 1)))
  else
   some (.dn (.go ()))
noncomputable def zq70 (s : ByteArray) : Option (Bool) :=
 (zq52 (s.size : Int) 1 8).bind fun r =>
 (if (!r) = true then some true else (chk ((0 : Int) ≤ 0 ∧ 0 < (s.size : Int))).bind fun u =>
 if (decide (((s.data.toList.getD (0 : Int).toNat 0).toNat : Int) < 97)) = true then some true else (chk ((0 : Int) ≤ 0 ∧ 0 < (s.size : Int))).bind fun u1 =>
 some (decide (122 < ((s.data.toList.getD (0 : Int).toNat 0).toNat : Int)))).bind fun (v : Bool) =>
 if v = true then
  some false
 else
  flb (iter (zq70_L1 s) (0 : Int)) fun (_ : Unit) =>
  some true
noncomputable def zq66_L1 (list : List ByteArray) (name : ByteArray) : Int → Option (Lp (Int) (Fl (Int) (Unit)))
 | v =>
  if (decide (v < (list.length : Int))) = true then
   (idx list v).bind fun e =>
   if (e.toList == name.toList) = true then
    some (.dn (.ret v))
   else
    some (.nx (w64 (v + 1)))
  else
   some (.dn (.go ()))
noncomputable def zq66 (list : List ByteArray) (name : ByteArray) : Option (Int) :=
 flb (iter (zq66_L1 list name) (0 : Int)) fun (_ : Unit) =>
 some (-1)
noncomputable def zq68_L1 (x : Line) (stops : Int) : Int → Option (Lp (Int) (Fl (Bool) (Unit)))
 | v1 =>
  if (decide (v1 < (x.Stops.length : Int))) = true then
   (idx x.Stops v1).bind fun e2 =>
   (zq52 e2 0 (w64 (stops - 1))).bind fun r4 =>
   (if (!r4) = true then some true else (idx x.Stops v1).bind fun e3 =>
   (zq73 x e3).bind fun r5 =>
   some (r5 != v1)).bind fun (v2 : Bool) =>
   if v2 = true then
    some (.dn (.ret false))
   else
    some (.nx (w64 (v1 + 1)))
  else
   some (.dn (.go ()))
noncomputable def zq68_L2 (x : Line) : Int → Option (Lp (Int) (Fl (Bool) (Unit)))
 | v3 =>
  if (decide (v3 < (x.Runs.length : Int))) = true then
   (idx x.Runs v3).bind fun e5 =>
   (zq52 e5 1 60).bind fun r7 =>
   if (!r7) = true then
    some (.dn (.ret false))
   else
    some (.nx (w64 (v3 + 1)))
  else
   some (.dn (.go ()))
noncomputable def zq68 (x : Line) (stops : Int) : Option (Bool) :=
 (zq70 x.Name).bind fun r =>
 (if (!r) = true then some true else (zq52 (x.Stops.length : Int) 2 6).bind fun r1 =>
 if (!r1) = true then some true else some ((x.Runs.length : Int) != (w64 ((x.Stops.length : Int) - 1)))).bind fun (v : Bool) =>
 if v = true then
  some false
 else
  flb (iter (zq68_L1 x stops) (0 : Int)) fun (_ : Unit) =>
  flb (iter (zq68_L2 x) (0 : Int)) fun (_ : Unit) =>
  some true
noncomputable def zq69_L1 (n : Network) (name : ByteArray) : Int → Option (Lp (Int) (Fl (Int) (Unit)))
 | v =>
  if (decide (v < (n.Lines.length : Int))) = true then
   (idx n.Lines v).bind fun e =>
   if (e.Name.toList == name.toList) = true then
    some (.dn (.ret v))
   else
    some (.nx (w64 (v + 1)))
  else
   some (.dn (.go ()))
noncomputable def zq69 (n : Network) (name : ByteArray) : Option (Int) :=
 flb (iter (zq69_L1 n name) (0 : Int)) fun (_ : Unit) =>
 some (-1)
noncomputable def zq67_L1 (n : Network) : Int → Option (Lp (Int) (Fl (Bool) (Unit)))
 | i =>
  if (decide (i < (n.Stops.length : Int))) = true then
   (idx n.Stops i).bind fun e2 =>
   (zq70 e2).bind fun r4 =>
   (if (!r4) = true then some true else (idx n.Stops i).bind fun e3 =>
   (zq66 n.Stops e3).bind fun r5 =>
   some (r5 != i)).bind fun (v1 : Bool) =>
   if v1 = true then
    some (.dn (.ret false))
   else
    some (.nx (w64 (i + 1)))
  else
   some (.dn (.go ()))
noncomputable def zq67_L2 (n : Network) : Int → Option (Lp (Int) (Fl (Bool) (Unit)))
 | v2 =>
  if (decide (v2 < (n.Lines.length : Int))) = true then
   (idx n.Lines v2).bind fun e7 =>
   (zq68 e7 (n.Stops.length : Int)).bind fun r9 =>
   (if (!r9) = true then some true else (idx n.Lines v2).bind fun e8 =>
   (zq69 n e8.Name).bind fun r10 =>
   some (r10 != v2)).bind fun (v3 : Bool) =>
   if v3 = true then
    some (.dn (.ret false))
   else
    some (.nx (w64 (v2 + 1)))
  else
   some (.dn (.go ()))
noncomputable def zq67 (n : Network) : Option (Bool) :=
 (zq52 (n.Stops.length : Int) 2 8).bind fun r =>
 (if (!r) = true then some true else (zq52 (n.Lines.length : Int) 1 5).bind fun r1 =>
 some (!r1)).bind fun (v : Bool) =>
 if v = true then
  some false
 else
  flb (iter (zq67_L1 n) (0 : Int)) fun (_ : Unit) =>
  flb (iter (zq67_L2 n) (0 : Int)) fun (_ : Unit) =>
  some true
noncomputable def zq75 (t : Int) : Option (Bool) :=
 (zq52 t 0 1799).bind fun r =>
 some r
noncomputable def zq79 (t : Timetable) (i : Int) : Option (Line) :=
 (idx t.Trips i).bind fun e2 =>
 (idx t.Network.Lines e2.Line).bind fun e3 =>
 some e3
noncomputable def zq80 (t : Timetable) (i : Int) : Option ((List Int)) :=
 (zq79 t i).bind fun r =>
 some r.Stops
noncomputable def zq74_L1 (x : Line) (to_ : Int) : Int × Int → Option (Lp (Int × Int) (Int))
 | (v, v1) =>
  if (decide (v1 < to_)) = true then
   (idx x.Runs v1).bind fun e =>
   some (.nx ((w64 (v + e)), (w64 (v1 + 1))))
  else
   some (.dn v)
noncomputable def zq74 (x : Line) (from_ : Int) (to_ : Int) : Option (Int) :=
 (iter (zq74_L1 x to_) ((0 : Int), from_)).bind fun (v2 : Int) =>
 some v2
noncomputable def zq76 (t : Timetable) (i : Int) (k : Int) : Option (Int) :=
 (idx t.Trips i).bind fun e1 =>
 (zq79 t i).bind fun r2 =>
 (zq74 r2 0 k).bind fun r3 =>
 some (w64 (e1.Start + r3))
noncomputable def zq77 (t : Timetable) (i : Int) : Option (Int) :=
 (zq80 t i).bind fun r2 =>
 (zq76 t i (w64 ((r2.length : Int) - 1))).bind fun r3 =>
 some r3
noncomputable def zq78_L1 (t : Timetable) : Int → Option (Lp (Int) (Fl (Bool) (Unit)))
 | x =>
  if (decide (x < (t.Trips.length : Int))) = true then
   (idx t.Trips x).bind fun e =>
   (zq52 e.Id 1 999).bind fun r6 =>
   (if (!r6) = true then some true else (zq52 e.Line 0 (w64 ((t.Network.Lines.length : Int) - 1))).bind fun r7 =>
   if (!r7) = true then some true else (zq75 e.Start).bind fun r8 =>
   if (!r8) = true then some true else (zq77 t x).bind fun r9 =>
   (zq75 r9).bind fun r10 =>
   if (!r10) = true then some true else if (decide (0 < x)) = true then (idx t.Trips (w64 (x - 1))).bind fun e2 =>
   some (decide (e.Id ≤ e2.Id)) else some false).bind fun (v1 : Bool) =>
   if v1 = true then
    some (.dn (.ret false))
   else
    some (.nx (w64 (x + 1)))
  else
   some (.dn (.go ()))
noncomputable def zq78 (t : Timetable) : Option (Bool) :=
 (zq67 t.Network).bind fun r =>
 (if (!r) = true then some true else some (decide (12 < (t.Trips.length : Int)))).bind fun (v : Bool) =>
 if v = true then
  some false
 else
  flb (iter (zq78_L1 t) (0 : Int)) fun (_ : Unit) =>
  some true
noncomputable def zq40 (c : l1Cur) (t : Timetable) (from_ : Int) : Option (Flow × l1Cur) :=
 (zq50 c (t.Network.Stops.length : Int)).bind fun r =>
 (zq36 r.2 ([1, 5, 10, 30, 80, 200] : List Int)).bind fun r1 =>
 (zq54 (w64 ((t.Network.Stops.length : Int) - 1)) 1).bind fun r4 =>
 (zq50 r1.2 r4).bind fun r5 =>
 (chk (((t.Network.Stops.length : Int) : Int) ≠ 0)).bind fun u1 =>
 ((if (decide (0 < (t.Trips.length : Int))) = true then (zq78 t).bind fun r6 =>
 if r6 = true then (zq49 r5.2 5).bind fun r7 =>
 some ((!r7.1), r7.2.code_, r7.2.at_, r7.2.seed_.v) else some (false, r5.2.code_, r5.2.at_, r5.2.seed_.v) else some (false, r5.2.code_, r5.2.at_, r5.2.seed_.v)).bind fun ((v5, v6, v7, v8) : Bool × (List UInt8) × Int × Int) =>
 if v5 = true then
  (zq50 (⟨v6, v7, (⟨v8⟩ : IK .u64)⟩ : l1Cur) (t.Trips.length : Int)).bind fun r10 =>
  (zq80 t r10.1).bind fun r11 =>
  (zq50 r10.2 (w64 ((r11.length : Int) - 1))).bind fun r12 =>
  (idx r11 r12.1).bind fun e =>
  (zq50 r12.2 (w64 ((w64 ((r11.length : Int) - 1)) - r12.1))).bind fun r13 =>
  (idx r11 (w64 ((w64 (r12.1 + 1)) + r13.1))).bind fun e1 =>
  some (r13.2.code_, r13.2.at_, r13.2.seed_.v, e, e1)
 else
  some (v6, v7, v8, r.1, ((w64 ((w64 (r.1 + 1)) + r5.1)).tmod (t.Network.Stops.length : Int)))).bind fun ((v, v1, v2, v3, v4) : (List UInt8) × Int × Int × Int × Int) =>
 some ((⟨v3, v4, from_, r1.1⟩ : Flow), (⟨v, v1, (⟨v2⟩ : IK .u64)⟩ : l1Cur))
noncomputable def zq41_L1 (t : Timetable) : Int × Int × (List UInt8) × Int × Int × (List Flow) → Option (Lp (Int × Int × (List UInt8) × Int × Int × (List Flow)) ((List UInt8) × Int × Int × (List Flow)))
 | (k1, x, v3, v4, v5, n) =>
  if (decide (0 < x)) = true then
   (zq40 (⟨v3, v4, (⟨v5⟩ : IK .u64)⟩ : l1Cur) t k1).bind fun r7 =>
   (chk (n.length + ([r7.1] : List Flow).length ≤ 4294967296)).bind fun u =>
   (zq36 r7.2 ([0, 0, 5, 20, 60] : List Int)).bind fun r8 =>
   (zq53 (w64 (k1 + r8.1)) 1799).bind fun r9 =>
   some (.nx (r9, (w64 (x - 1)), r8.2.code_, r8.2.at_, r8.2.seed_.v, (n ++ ([r7.1] : List Flow))))
  else
   some (.dn (v3, v4, v5, n))
noncomputable def zq41 (c : l1Cur) (t : Timetable) : Option ((List Flow) × l1Cur) :=
 (if (decide (0 < (t.Trips.length : Int))) = true then
  (idx t.Trips 0).bind fun e1 =>
  (zq50 c 30).bind fun r3 =>
  (zq54 (w64 (e1.Start - r3.1)) 0).bind fun r4 =>
  (zq53 r4 1799).bind fun r5 =>
  some (r5, r3.2.code_, r3.2.at_, r3.2.seed_.v)
 else
  some ((0 : Int), c.code_, c.at_, c.seed_.v)).bind fun ((k, v, v1, v2) : Int × (List UInt8) × Int × Int) =>
 (zq50 (⟨v, v1, (⟨v2⟩ : IK .u64)⟩ : l1Cur) 6).bind fun r6 =>
 (iter (zq41_L1 t) (k, r6.1, r6.2.code_, r6.2.at_, r6.2.seed_.v, ([] : List Flow))).bind fun ((v6, v7, v8, n1) : (List UInt8) × Int × Int × (List Flow)) =>
 if ((n1.length : Int) == 0) = true then
  some (n1, (⟨v6, v7, (⟨v8⟩ : IK .u64)⟩ : l1Cur))
 else
  (zq50 (⟨v6, v7, (⟨v8⟩ : IK .u64)⟩ : l1Cur) (n1.length : Int)).bind fun r10 =>
  (idx n1 r10.1).bind fun e2 =>
  ((zq50 r10.2 40).bind fun r11 =>
  if (r11.1 == 0) = true then
   (zq36 r11.2 ([0, 500, 501] : List Int)).bind fun r12 =>
   some (r12.2.code_, r12.2.at_, r12.2.seed_.v, e2.To, e2.Time, r12.1)
  else
   if (r11.1 == 1) = true then
    (zq36 r11.2 ([e2.From, 8, (-1)] : List Int)).bind fun r13 =>
    some (r13.2.code_, r13.2.at_, r13.2.seed_.v, r13.1, e2.Time, e2.Persons)
   else
    if (r11.1 == 2) = true then
     (zq36 r11.2 ([(-1), 1800, 0] : List Int)).bind fun r14 =>
     some (r14.2.code_, r14.2.at_, r14.2.seed_.v, e2.To, r14.1, e2.Persons)
    else
     some (r11.2.code_, r11.2.at_, r11.2.seed_.v, e2.To, e2.Time, e2.Persons)).bind fun ((v9, v10, v11, v12, v13, v14) : (List UInt8) × Int × Int × Int × Int × Int) =>
  (idx n1 r10.1).bind fun e3 =>
  ((zq49 (⟨v9, v10, (⟨v11⟩ : IK .u64)⟩ : l1Cur) 4).bind fun r15 =>
  (if r15.1 = true then some (decide (((n1.set r10.1.toNat (⟨e2.From, v12, v13, v14⟩ : Flow)).length : Int) < 12)) else some false).bind fun (v18 : Bool) =>
  if v18 = true then
   (idx (n1.set r10.1.toNat (⟨e2.From, v12, v13, v14⟩ : Flow)) (w64 (((n1.set r10.1.toNat (⟨e2.From, v12, v13, v14⟩ : Flow)).length : Int) - 1))).bind fun e4 =>
   (chk ((n1.set r10.1.toNat (⟨e2.From, v12, v13, v14⟩ : Flow)).length + ([e4] : List Flow).length ≤ 4294967296)).bind fun u1 =>
   some (r15.2.code_, r15.2.at_, r15.2.seed_.v, ((n1.set r10.1.toNat (⟨e2.From, v12, v13, v14⟩ : Flow)) ++ ([e4] : List Flow)))
  else
   some (r15.2.code_, r15.2.at_, r15.2.seed_.v, (n1.set r10.1.toNat (⟨e2.From, v12, v13, v14⟩ : Flow)))).bind fun ((v15, v16, v17, n2) : (List UInt8) × Int × Int × (List Flow)) =>
  some (n2, (⟨v15, v16, (⟨v17⟩ : IK .u64)⟩ : l1Cur))
noncomputable def zq29 (code : List UInt8) : Option (Timetable × (List Flow)) :=
 (zq39 (⟨code, 0, (⟨0⟩ : IK .u64)⟩ : l1Cur)).bind fun r =>
 (zq41 r.2 r.1).bind fun r2 =>
 some (r.1, r2.1)
noncomputable def zq31 (code : List UInt8) : Option (Timetable × (List Flow)) :=
 (zq29 code).bind fun r =>
 some (r.1, r.2)
noncomputable def zq28 (n : Int) (lo : Int) (hi : Int) : Option (Bool) :=
 (if (decide (lo ≤ n)) = true then some (decide (n ≤ hi)) else some false).bind fun (v : Bool) =>
 some v
noncomputable def zq19_L1 (s : ByteArray) : Int → Option (Lp (Int) (Fl (Bool) (Unit)))
 | v1 =>
  if (decide (v1 < (s.size : Int))) = true then
   (chk ((0 : Int) ≤ v1 ∧ v1 < (s.size : Int))).bind fun u =>
   (if (decide (97 ≤ ((s.data.toList.getD v1.toNat 0).toNat : Int))) = true then (chk ((0 : Int) ≤ v1 ∧ v1 < (s.size : Int))).bind fun u1 =>
   some (decide (((s.data.toList.getD v1.toNat 0).toNat : Int) ≤ 122)) else some false).bind fun (v2 : Bool) =>
   (if (!v2) = true then if (v1 == 0) = true then some true else (chk ((0 : Int) ≤ v1 ∧ v1 < (s.size : Int))).bind fun u2 =>
   if (decide (((s.data.toList.getD v1.toNat 0).toNat : Int) < 48)) = true then some true else (chk ((0 : Int) ≤ v1 ∧ v1 < (s.size : Int))).bind fun u3 =>
   some (decide (57 < ((s.data.toList.getD v1.toNat 0).toNat : Int))) else some false).bind fun (v3 : Bool) =>
   if v3 = true then
    some (.dn (.ret false))
   else
    some (.nx (w64 (v1 + 1)))
  else
   some (.dn (.go ()))
noncomputable def zq19 (s : ByteArray) : Option (Bool) :=
 (if (decide ((s.size : Int) < 1)) = true then some true else some (decide (8 < (s.size : Int)))).bind fun (v : Bool) =>
 if v = true then
  some false
 else
  flb (iter (zq19_L1 s) (0 : Int)) fun (_ : Unit) =>
  some true
noncomputable def zq84_L1 (s : List ByteArray) (v : ByteArray) : Int → Option (Lp (Int) (Fl (Int) (Unit)))
 | v1 =>
  if (decide (v1 < (s.length : Int))) = true then
   (idx s v1).bind fun e =>
   if (v.toList == e.toList) = true then
    some (.dn (.ret v1))
   else
    some (.nx (w64 (v1 + 1)))
  else
   some (.dn (.go ()))
noncomputable def zq84 (s : List ByteArray) (v : ByteArray) : Option (Int) :=
 flb (iter (zq84_L1 s v) (0 : Int)) fun (_ : Unit) =>
 some (-1)
noncomputable def zq13_L1 (names : List ByteArray) : Int → Option (Lp (Int) (Fl (Bool) (Unit)))
 | v =>
  if (decide (v < (names.length : Int))) = true then
   (idx names v).bind fun e =>
   (zq19 e).bind fun r =>
   (if (!r) = true then some true else (zq84 names e).bind fun r1 =>
   some (r1 != v)).bind fun (v1 : Bool) =>
   if v1 = true then
    some (.dn (.ret false))
   else
    some (.nx (w64 (v + 1)))
  else
   some (.dn (.go ()))
noncomputable def zq13 (names : List ByteArray) : Option (Bool) :=
 flb (iter (zq13_L1 names) (0 : Int)) fun (_ : Unit) =>
 some true
noncomputable def zq22_L1 (n : Network) : Int × (List ByteArray) → Option (Lp (Int × (List ByteArray)) ((List ByteArray)))
 | (v, i) =>
  if (decide (v < (n.Lines.length : Int))) = true then
   (idx n.Lines v).bind fun e =>
   (idx i v).bind fun e1 =>
   some (.nx ((w64 (v + 1)), (i.set v.toNat e.Name)))
  else
   some (.dn i)
noncomputable def zq22 (n : Network) : Option ((List ByteArray)) :=
 (chk ((0 : Int) ≤ (n.Lines.length : Int) ∧ ((n.Lines.length : Int) : Int) ≤ 4294967296)).bind fun u =>
 (iter (zq22_L1 n) ((0 : Int), (List.replicate (n.Lines.length : Int).toNat (ByteArray.empty : ByteArray)))).bind fun (i1 : List ByteArray) =>
 some i1
noncomputable def zq20 (n : Network) (stop : Int) : Option (Bool) :=
 (if (decide (0 ≤ stop)) = true then some (decide (stop < (n.Stops.length : Int))) else some false).bind fun (v : Bool) =>
 some v
noncomputable def zq83_L1 (s : List Int) (v : Int) : Int → Option (Lp (Int) (Fl (Int) (Unit)))
 | v1 =>
  if (decide (v1 < (s.length : Int))) = true then
   (idx s v1).bind fun e =>
   if (v == e) = true then
    some (.dn (.ret v1))
   else
    some (.nx (w64 (v1 + 1)))
  else
   some (.dn (.go ()))
noncomputable def zq83 (s : List Int) (v : Int) : Option (Int) :=
 flb (iter (zq83_L1 s v) (0 : Int)) fun (_ : Unit) =>
 some (-1)
noncomputable def zq21_L1 (n : Network) (l : Line) : Int → Option (Lp (Int) (Fl (Bool) (Unit)))
 | v1 =>
  if (decide (v1 < (l.Stops.length : Int))) = true then
   (idx l.Stops v1).bind fun e =>
   (zq20 n e).bind fun r1 =>
   (if (!r1) = true then some true else (zq83 l.Stops e).bind fun r2 =>
   some (r2 != v1)).bind fun (v2 : Bool) =>
   if v2 = true then
    some (.dn (.ret false))
   else
    some (.nx (w64 (v1 + 1)))
  else
   some (.dn (.go ()))
noncomputable def zq21_L2 (l : Line) : Int → Option (Lp (Int) (Fl (Bool) (Unit)))
 | v3 =>
  if (decide (v3 < (l.Runs.length : Int))) = true then
   (idx l.Runs v3).bind fun e2 =>
   (zq28 e2 1 60).bind fun r4 =>
   if (!r4) = true then
    some (.dn (.ret false))
   else
    some (.nx (w64 (v3 + 1)))
  else
   some (.dn (.go ()))
noncomputable def zq21 (n : Network) (l : Line) : Option (Bool) :=
 (zq28 (l.Stops.length : Int) 2 6).bind fun r =>
 (if (!r) = true then some true else some ((l.Runs.length : Int) != (w64 ((l.Stops.length : Int) - 1)))).bind fun (v : Bool) =>
 if v = true then
  some false
 else
  flb (iter (zq21_L1 n l) (0 : Int)) fun (_ : Unit) =>
  flb (iter (zq21_L2 l) (0 : Int)) fun (_ : Unit) =>
  some true
noncomputable def zq3_L1 (n : Network) : Int → Option (Lp (Int) (Fl (Bool) (Unit)))
 | v1 =>
  if (decide (v1 < (n.Lines.length : Int))) = true then
   (idx n.Lines v1).bind fun e =>
   (zq21 n e).bind fun r5 =>
   if (!r5) = true then
    some (.dn (.ret false))
   else
    some (.nx (w64 (v1 + 1)))
  else
   some (.dn (.go ()))
noncomputable def zq3 (n : Network) : Option (Bool) :=
 (zq28 (n.Stops.length : Int) 2 8).bind fun r =>
 (if (!r) = true then some true else (zq28 (n.Lines.length : Int) 1 5).bind fun r1 =>
 if (!r1) = true then some true else (zq13 n.Stops).bind fun r2 =>
 if (!r2) = true then some true else (zq22 n).bind fun r3 =>
 (zq13 r3).bind fun r4 =>
 some (!r4)).bind fun (v : Bool) =>
 if v = true then
  some false
 else
  flb (iter (zq3_L1 n) (0 : Int)) fun (_ : Unit) =>
  some true
noncomputable def zq18 (n : Network) (line : Int) : Option (Bool) :=
 (if (decide (0 ≤ line)) = true then some (decide (line < (n.Lines.length : Int))) else some false).bind fun (v : Bool) =>
 some v
noncomputable def zq4 (t : Int) : Option (Bool) :=
 (zq28 t 0 1799).bind fun r =>
 some r
noncomputable def zq27_L1 (list : List Int) : Int × Int → Option (Lp (Int × Int) (Int))
 | (v, v1) =>
  if (decide (v1 < (list.length : Int))) = true then
   (idx list v1).bind fun e =>
   some (.nx ((w64 (v + e)), (w64 (v1 + 1))))
  else
   some (.dn v)
noncomputable def zq27 (list : List Int) : Option (Int) :=
 (iter (zq27_L1 list) ((0 : Int), (0 : Int))).bind fun (v2 : Int) =>
 some v2
noncomputable def zq16 (t : Timetable) (x : Trip) : Option (Int) :=
 (idx t.Network.Lines x.Line).bind fun e1 =>
 (zq27 e1.Runs).bind fun r1 =>
 some (w64 (x.Start + r1))
noncomputable def zq14_L1 (t : Timetable) : Int × Int → Option (Lp (Int × Int) (Fl (Bool) (Unit)))
 | (v, v1) =>
  if (decide (v1 < (t.Trips.length : Int))) = true then
   (idx t.Trips v1).bind fun e =>
   (if (decide (e.Id ≤ v)) = true then some true else if (decide (999 < e.Id)) = true then some true else (zq18 t.Network e.Line).bind fun r =>
   if (!r) = true then some true else (zq4 e.Start).bind fun r1 =>
   if (!r1) = true then some true else (zq16 t e).bind fun r2 =>
   (zq4 r2).bind fun r3 =>
   some (!r3)).bind fun (v2 : Bool) =>
   if v2 = true then
    some (.dn (.ret false))
   else
    some (.nx (e.Id, (w64 (v1 + 1))))
  else
   some (.dn (.go ()))
noncomputable def zq14 (t : Timetable) : Option (Bool) :=
 if (decide (12 < (t.Trips.length : Int))) = true then
  some false
 else
  flb (iter (zq14_L1 t) ((0 : Int), (0 : Int))) fun (_ : Unit) =>
  some true
noncomputable def zq5 (t : Timetable) : Option (Bool) :=
 (zq3 t.Network).bind fun r =>
 (if r = true then (zq14 t).bind fun r1 =>
 some r1 else some false).bind fun (v : Bool) =>
 some v
noncomputable def zq17 (t : Timetable) (f : Flow) : Option (Bool) :=
 (zq20 t.Network f.From).bind fun r =>
 (if r = true then (zq20 t.Network f.To).bind fun r1 =>
 if r1 = true then if (f.From != f.To) = true then (zq4 f.Time).bind fun r2 =>
 if r2 = true then (zq28 f.Persons 1 500).bind fun r3 =>
 some r3 else some false else some false else some false else some false).bind fun (v : Bool) =>
 some v
noncomputable def zq12_L1 (t : Timetable) (list : List Flow) : Int → Option (Lp (Int) (Fl (Bool) (Unit)))
 | v =>
  if (decide (v < (list.length : Int))) = true then
   (idx list v).bind fun e =>
   (zq17 t e).bind fun r1 =>
   (if (!r1) = true then some true else if (decide (0 < v)) = true then (idx list (w64 (v - 1))).bind fun e2 =>
   some (decide (e.Time < e2.Time)) else some false).bind fun (v1 : Bool) =>
   if v1 = true then
    some (.dn (.ret false))
   else
    some (.nx (w64 (v + 1)))
  else
   some (.dn (.go ()))
noncomputable def zq12 (t : Timetable) (list : List Flow) : Option (Bool) :=
 if (decide (12 < (list.length : Int))) = true then
  some false
 else
  flb (iter (zq12_L1 t list) (0 : Int)) fun (_ : Unit) =>
  some true
noncomputable def zq2 (t : Timetable) (list : List Flow) : Option (Bool) :=
 (zq5 t).bind fun r =>
 (if r = true then (zq12 t list).bind fun r1 =>
 some r1 else some false).bind fun (v : Bool) =>
 some v
noncomputable def zq23 (t : Timetable) (x : Trip) : Option (Line) :=
 (idx t.Network.Lines x.Line).bind fun e =>
 some e
noncomputable def zq26_L1 (r : Line) : Int × (List Int) → Option (Lp (Int × (List Int)) ((List Int)))
 | (v, r1) =>
  if (decide (v < (r.Runs.length : Int))) = true then
   (idx r.Runs v).bind fun e =>
   (idx r1 v).bind fun e1 =>
   (chk (r1.length + ([(w64 (e1 + e))] : List Int).length ≤ 4294967296)).bind fun u =>
   some (.nx ((w64 (v + 1)), (r1 ++ ([(w64 (e1 + e))] : List Int))))
  else
   some (.dn r1)
noncomputable def zq26 (t : Timetable) (x : Trip) : Option ((List Int)) :=
 (zq23 t x).bind fun r =>
 (iter (zq26_L1 r) ((0 : Int), ([x.Start] : List Int))).bind fun (r2 : List Int) =>
 some r2
noncomputable def zq1 (x : Int) : Option (Bool) :=
 some (x != x)
noncomputable def zq0 (x : Int) (y_ : Int) : Option (Int) :=
 (zq1 x).bind fun r =>
 (zq1 y_).bind fun r1 =>
 if r = true then
  if r1 = true then
   some 0
  else
   some (-1)
 else
  if r1 = true then
   some 1
  else
   if (decide (x < y_)) = true then
    some (-1)
   else
    if (decide (y_ < x)) = true then
     some 1
    else
     some 0
noncomputable def zq25 (a : service) (b : service) : Option (Int) :=
 (zq0 a.arrive_ b.arrive_).bind fun r =>
 some r
noncomputable def zq87_L1 (a : Int) (cmp : service → service → Option (Int)) : Int × (List service) → Option (Lp (Int × (List service)) ((List service)))
 | (v1, data2) =>
  (if (decide (a < v1)) = true then (idx data2 v1).bind fun e2 =>
  (idx data2 (w64 (v1 - 1))).bind fun e3 =>
  (cmp e2 e3).bind fun r1 =>
  some (decide (r1 < 0)) else some false).bind fun (v2 : Bool) =>
  if v2 = true then
   (idx data2 (w64 (v1 - 1))).bind fun e8 =>
   (idx data2 v1).bind fun e9 =>
   (idx data2 v1).bind fun e10 =>
   (idx (data2.set v1.toNat e8) (w64 (v1 - 1))).bind fun e11 =>
   some (.nx ((w64 (v1 - 1)), ((data2.set v1.toNat e8).set (w64 (v1 - 1)).toNat e9)))
  else
   some (.dn data2)
noncomputable def zq87_L2 (a : Int) (b : Int) (cmp : service → service → Option (Int)) : Int × (List service) → Option (Lp (Int × (List service)) ((List service)))
 | (v, data1) =>
  if (decide (v < b)) = true then
   (iter (zq87_L1 a cmp) (v, data1)).bind fun (data3 : List service) =>
   some (.nx ((w64 (v + 1)), data3))
  else
   some (.dn data1)
noncomputable def zq87 (data : List service) (a : Int) (b : Int) (cmp : service → service → Option (Int)) : Option ((List service)) :=
 iter (zq87_L2 a b cmp) ((w64 (a + 1)), data)
noncomputable def zq88 (data : List service) (a : Int) (b : Int) : Option ((List service)) :=
 zq87 data a b (fun (z0 : service) (z1 : service) => zq25 z0 z1)
noncomputable def zq92_L1 (a : Int) (b : Int) (n : Int) : Int × (List service) → Option (Lp (Int × (List service)) ((List service)))
 | (v, data1) =>
  if (decide (v < n)) = true then
   (idx data1 (w64 (b + v))).bind fun e4 =>
   (idx data1 (w64 (a + v))).bind fun e5 =>
   (idx data1 (w64 (a + v))).bind fun e6 =>
   (idx (data1.set (w64 (a + v)).toNat e4) (w64 (b + v))).bind fun e7 =>
   some (.nx ((w64 (v + 1)), ((data1.set (w64 (a + v)).toNat e4).set (w64 (b + v)).toNat e5)))
  else
   some (.dn data1)
noncomputable def zq92 (data : List service) (a : Int) (b : Int) (n : Int) (cmp : service → service → Option (Int)) : Option ((List service)) :=
 iter (zq92_L1 a b n) ((0 : Int), data)
noncomputable def zq93 (data : List service) (a : Int) (b : Int) (n : Int) : Option ((List service)) :=
 zq92 data a b n (fun (z0 : service) (z1 : service) => zq25 z0 z1)
noncomputable def zq89_L1 (m : Int) (cmp : service → service → Option (Int)) : Int × Int × (List service) → Option (Lp (Int × Int × (List service)) (Int × (List service)))
 | (v, v1, data1) =>
  if (v != v1) = true then
   if (decide (v1 < v)) = true then
    (zq92 data1 (w64 (m - v)) m v1 cmp).bind fun r =>
    some (.nx ((w64 (v - v1)), v1, r))
   else
    (zq92 data1 (w64 (m - v)) (w64 ((w64 (m + v1)) - v)) v cmp).bind fun r1 =>
    some (.nx (v, (w64 (v1 - v)), r1))
  else
   some (.dn (v, data1))
noncomputable def zq89 (data : List service) (a : Int) (m : Int) (b : Int) (cmp : service → service → Option (Int)) : Option ((List service)) :=
 (iter (zq89_L1 m cmp) ((w64 (m - a)), (w64 (b - m)), data)).bind fun ((v2, data2) : Int × (List service)) =>
 (zq92 data2 (w64 (m - v2)) m v2 cmp).bind fun r2 =>
 some r2
noncomputable def zq90 (data : List service) (a : Int) (m : Int) (b : Int) : Option ((List service)) :=
 zq89 data a m b (fun (z0 : service) (z1 : service) => zq25 z0 z1)
noncomputable def zq94_L1 (data : List service) (a : Int) : Int × Int → Option (Lp (Int × Int) (Int))
 | (j, h) =>
  if (decide (j < h)) = true then
   (chk ((0 : Int) ≤ 1)).bind fun u =>
   (idx data (w64 (((IntKind.u64.wrap ((w64 (j + h)))).fdiv (2 ^ (min (1 : Int).toNat (IntKind.u64).bits)))))).bind fun e2 =>
   (idx data a).bind fun e3 =>
   (zq25 e2 e3).bind fun r1 =>
   if (decide (r1 < 0)) = true then
    some (.nx ((w64 ((w64 (((IntKind.u64.wrap ((w64 (j + h)))).fdiv (2 ^ (min (1 : Int).toNat (IntKind.u64).bits))))) + 1)), h))
   else
    some (.nx (j, (w64 (((IntKind.u64.wrap ((w64 (j + h)))).fdiv (2 ^ (min (1 : Int).toNat (IntKind.u64).bits)))))))
  else
   some (.dn j)
noncomputable def zq94_L2 (j1 : Int) : Int × (List service) → Option (Lp (Int × (List service)) ((List service)))
 | (mid, data1) =>
  if (decide (mid < (w64 (j1 - 1)))) = true then
   (idx data1 (w64 (mid + 1))).bind fun e8 =>
   (idx data1 mid).bind fun e9 =>
   (idx data1 mid).bind fun e10 =>
   (idx (data1.set mid.toNat e8) (w64 (mid + 1))).bind fun e11 =>
   some (.nx ((w64 (mid + 1)), ((data1.set mid.toNat e8).set (w64 (mid + 1)).toNat e9)))
  else
   some (.dn data1)
noncomputable def zq94_L3 (data : List service) (m : Int) : Int × Int → Option (Lp (Int × Int) (Int))
 | (n, start) =>
  if (decide (n < start)) = true then
   (chk ((0 : Int) ≤ 1)).bind fun u1 =>
   (idx data m).bind fun e14 =>
   (idx data (w64 (((IntKind.u64.wrap ((w64 (n + start)))).fdiv (2 ^ (min (1 : Int).toNat (IntKind.u64).bits)))))).bind fun e15 =>
   (zq25 e14 e15).bind fun r3 =>
   if (!(decide (r3 < 0))) = true then
    some (.nx ((w64 ((w64 (((IntKind.u64.wrap ((w64 (n + start)))).fdiv (2 ^ (min (1 : Int).toNat (IntKind.u64).bits))))) + 1)), start))
   else
    some (.nx (n, (w64 (((IntKind.u64.wrap ((w64 (n + start)))).fdiv (2 ^ (min (1 : Int).toNat (IntKind.u64).bits)))))))
  else
   some (.dn n)
noncomputable def zq94_L4 (n1 : Int) : Int × (List service) → Option (Lp (Int × (List service)) ((List service)))
 | (p, data3) =>
  if (decide (n1 < p)) = true then
   (idx data3 (w64 (p - 1))).bind fun e20 =>
   (idx data3 p).bind fun e21 =>
   (idx data3 p).bind fun e22 =>
   (idx (data3.set p.toNat e20) (w64 (p - 1))).bind fun e23 =>
   some (.nx ((w64 (p - 1)), ((data3.set p.toNat e20).set (w64 (p - 1)).toNat e21)))
  else
   some (.dn data3)
noncomputable def zq94_L5 (data : List service) (a : Int) (m : Int) (b : Int) : Int × Int → Option (Lp (Int × Int) (Int))
 | (v2, v3) =>
  if (decide (v2 < v3)) = true then
   (chk ((0 : Int) ≤ 1)).bind fun u3 =>
   (idx data (w64 ((w64 ((w64 ((w64 (((IntKind.u64.wrap ((w64 (a + b)))).fdiv (2 ^ (min (1 : Int).toNat (IntKind.u64).bits))))) + m)) - 1)) - (w64 (((IntKind.u64.wrap ((w64 (v2 + v3)))).fdiv (2 ^ (min (1 : Int).toNat (IntKind.u64).bits)))))))).bind fun e26 =>
   (idx data (w64 (((IntKind.u64.wrap ((w64 (v2 + v3)))).fdiv (2 ^ (min (1 : Int).toNat (IntKind.u64).bits)))))).bind fun e27 =>
   (zq25 e26 e27).bind fun r5 =>
   if (!(decide (r5 < 0))) = true then
    some (.nx ((w64 ((w64 (((IntKind.u64.wrap ((w64 (v2 + v3)))).fdiv (2 ^ (min (1 : Int).toNat (IntKind.u64).bits))))) + 1)), v3))
   else
    some (.nx (v2, (w64 (((IntKind.u64.wrap ((w64 (v2 + v3)))).fdiv (2 ^ (min (1 : Int).toNat (IntKind.u64).bits)))))))
  else
   some (.dn v2)
noncomputable def zq94_F (rec_ : (List service) → Int → Int → Int → Option ((List service))) (data : List service) (a : Int) (m : Int) (b : Int) : Option ((List service)) :=
 if ((w64 (m - a)) == 1) = true then
  (iter (zq94_L1 data a) (m, b)).bind fun (j1 : Int) =>
  (iter (zq94_L2 j1) (a, data)).bind fun (data2 : List service) =>
  some data2
 else
  if ((w64 (b - m)) == 1) = true then
   (iter (zq94_L3 data m) (a, m)).bind fun (n1 : Int) =>
   (iter (zq94_L4 n1) (m, data)).bind fun (data4 : List service) =>
   some data4
  else
   (chk ((0 : Int) ≤ 1)).bind fun u2 =>
   (if (decide ((w64 (((IntKind.u64.wrap ((w64 (a + b)))).fdiv (2 ^ (min (1 : Int).toNat (IntKind.u64).bits))))) < m)) = true then
    some ((w64 ((w64 ((w64 (((IntKind.u64.wrap ((w64 (a + b)))).fdiv (2 ^ (min (1 : Int).toNat (IntKind.u64).bits))))) + m)) - b)), (w64 (((IntKind.u64.wrap ((w64 (a + b)))).fdiv (2 ^ (min (1 : Int).toNat (IntKind.u64).bits))))))
   else
    some (a, m)).bind fun ((v, v1) : Int × Int) =>
   (iter (zq94_L5 data a m b) (v, v1)).bind fun (v4 : Int) =>
   ((if (decide (v4 < m)) = true then some (decide (m < (w64 ((w64 ((w64 (((IntKind.u64.wrap ((w64 (a + b)))).fdiv (2 ^ (min (1 : Int).toNat (IntKind.u64).bits))))) + m)) - v4)))) else some false).bind fun (v5 : Bool) =>
   if v5 = true then
    (zq90 data v4 m (w64 ((w64 ((w64 (((IntKind.u64.wrap ((w64 (a + b)))).fdiv (2 ^ (min (1 : Int).toNat (IntKind.u64).bits))))) + m)) - v4))).bind fun r6 =>
    some r6
   else
    some data).bind fun (data5 : List service) =>
   ((if (decide (a < v4)) = true then some (decide (v4 < (w64 (((IntKind.u64.wrap ((w64 (a + b)))).fdiv (2 ^ (min (1 : Int).toNat (IntKind.u64).bits))))))) else some false).bind fun (v6 : Bool) =>
   if v6 = true then
    (rec_ data5 a v4 (w64 (((IntKind.u64.wrap ((w64 (a + b)))).fdiv (2 ^ (min (1 : Int).toNat (IntKind.u64).bits)))))).bind fun r7 =>
    some r7
   else
    some data5).bind fun (data6 : List service) =>
   (if (decide ((w64 (((IntKind.u64.wrap ((w64 (a + b)))).fdiv (2 ^ (min (1 : Int).toNat (IntKind.u64).bits))))) < (w64 ((w64 ((w64 (((IntKind.u64.wrap ((w64 (a + b)))).fdiv (2 ^ (min (1 : Int).toNat (IntKind.u64).bits))))) + m)) - v4)))) = true then some (decide ((w64 ((w64 ((w64 (((IntKind.u64.wrap ((w64 (a + b)))).fdiv (2 ^ (min (1 : Int).toNat (IntKind.u64).bits))))) + m)) - v4)) < b)) else some false).bind fun (v7 : Bool) =>
   if v7 = true then
    (rec_ data6 (w64 (((IntKind.u64.wrap ((w64 (a + b)))).fdiv (2 ^ (min (1 : Int).toNat (IntKind.u64).bits))))) (w64 ((w64 ((w64 (((IntKind.u64.wrap ((w64 (a + b)))).fdiv (2 ^ (min (1 : Int).toNat (IntKind.u64).bits))))) + m)) - v4)) b).bind fun r8 =>
    some r8
   else
    some data6
noncomputable def zq94_k : Nat → (List service) → Int → Int → Int → Option ((List service))
 | 0 => fun _ _ _ _ => none
 | n + 1 => zq94_F (zq94_k n)
noncomputable def zq94 (data : List service) (a : Int) (m : Int) (b : Int) : Option ((List service)) := zq94_k 4294967296 data a m b
noncomputable def zq91_L1 (n : Int) : Int × Int × (List service) → Option (Lp (Int × Int × (List service)) (Int × (List service)))
 | (v, v1, data1) =>
  if (decide (v1 ≤ n)) = true then
   (zq88 data1 v v1).bind fun r =>
   some (.nx (v1, (w64 (v1 + 20)), r))
  else
   some (.dn (v, data1))
noncomputable def zq91_L2 (n : Int) (m : Int) : Int × Int × (List service) → Option (Lp (Int × Int × (List service)) (Int × (List service)))
 | (v3, v4, data4) =>
  if (decide (v4 ≤ n)) = true then
   (zq94 data4 v3 (w64 (v3 + m)) v4).bind fun r2 =>
   some (.nx (v4, (w64 (v4 + (w64 (2 * m)))), r2))
  else
   some (.dn (v3, data4))
noncomputable def zq91_L3 (n : Int) : Int × (List service) → Option (Lp (Int × (List service)) ((List service)))
 | (m, data3) =>
  if (decide (m < n)) = true then
   (iter (zq91_L2 n m) ((0 : Int), (w64 (2 * m)), data3)).bind fun ((v5, data5) : Int × (List service)) =>
   (if (decide ((w64 (v5 + m)) < n)) = true then
    (zq94 data5 v5 (w64 (v5 + m)) n).bind fun r3 =>
    some r3
   else
    some data5).bind fun (data6 : List service) =>
   some (.nx ((w64 (m * 2)), data6))
  else
   some (.dn data3)
noncomputable def zq91 (data : List service) (n : Int) : Option ((List service)) :=
 (iter (zq91_L1 n) ((0 : Int), (20 : Int), data)).bind fun ((v2, data2) : Int × (List service)) =>
 (zq88 data2 v2 n).bind fun r1 =>
 iter (zq91_L3 n) ((20 : Int), r1)
noncomputable def zq86 (x : List service) : Option ((List service)) :=
 (zq91 x (x.length : Int)).bind fun r =>
 some r
noncomputable def zq24_L1 (t : Timetable) (f : Flow) : Int × (List service) → Option (Lp (Int × (List service)) ((List service)))
 | (v, x) =>
  if (decide (v < (t.Trips.length : Int))) = true then
   ((idx t.Trips v).bind fun e =>
   (zq23 t e).bind fun r2 =>
   (zq26 t e).bind fun r3 =>
   (zq83 r2.Stops f.From).bind fun r6 =>
   (zq83 r2.Stops f.To).bind fun r7 =>
   (if (decide (0 ≤ r6)) = true then if (decide (r6 < r7)) = true then (idx r3 r6).bind fun e2 =>
   some (decide (f.Time ≤ e2)) else some false else some false).bind fun (v1 : Bool) =>
   if v1 = true then
    (idx r3 r7).bind fun e3 =>
    (chk (x.length + ([(⟨v, r6, r7, e3⟩ : service)] : List service).length ≤ 4294967296)).bind fun u =>
    some (x ++ ([(⟨v, r6, r7, e3⟩ : service)] : List service))
   else
    some x).bind fun (x1 : List service) =>
   some (.nx ((w64 (v + 1)), x1))
  else
   some (.dn x)
noncomputable def zq24 (t : Timetable) (f : Flow) : Option ((List service)) :=
 (iter (zq24_L1 t f) ((0 : Int), ([] : List service))).bind fun (x2 : List service) =>
 (zq86 x2).bind fun r8 =>
 some r8
noncomputable def zq85_L1 (x : List Int) : Int × Int → Option (Lp (Int × Int) (Int))
 | (i, v) =>
  if (decide (v < (x.length : Int))) = true then
   (idx x v).bind fun e1 =>
   some (.nx ((if e1 > i then e1 else i), (w64 (v + 1))))
  else
   some (.dn i)
noncomputable def zq85 (x : List Int) : Option (Int) :=
 if (decide ((x.length : Int) < 1)) = true then
  none
 else
  (idx x 0).bind fun e =>
  (iter (zq85_L1 x) (e, (1 : Int))).bind fun (i1 : Int) =>
  some i1
noncomputable def zq15_L1 (t : Timetable) : Int × (List (List Int)) → Option (Lp (Int × (List (List Int))) ((List (List Int))))
 | (v, v1) =>
  if (decide (v < (t.Trips.length : Int))) = true then
   (idx t.Trips v).bind fun e =>
   (zq23 t e).bind fun r1 =>
   (chk ((0 : Int) ≤ (r1.Runs.length : Int) ∧ ((r1.Runs.length : Int) : Int) ≤ 4294967296)).bind fun u5 =>
   (idx v1 v).bind fun e2 =>
   some (.nx ((w64 (v + 1)), (v1.set v.toNat (List.replicate (r1.Runs.length : Int).toNat (0 : Int)))))
  else
   some (.dn v1)
noncomputable def zq15_L2 (capacity : Int) (way : Int) (e4 : service) (r3 : Int) : Int × (List (List Int)) → Option (Lp (Int × (List (List Int))) ((List (List Int))))
 | (v12, v13) =>
  if (decide (v12 < (e4.to_ - e4.from_))) = true then
   (idx v13 e4.trip_).bind fun e7 =>
   (chk ((0 : Int) ≤ v12 ∧ (v12 : Int) < (e4.to_ - e4.from_))).bind fun u9 =>
   (idx e7 (e4.from_ + v12)).bind fun e8 =>
   (chk ((0 : Int) ≤ v12 ∧ (v12 : Int) < (e4.to_ - e4.from_))).bind fun u10 =>
   (idx e7 (e4.from_ + v12)).bind fun e9 =>
   some (.nx ((w64 (v12 + 1)), (v13.set e4.trip_.toNat (e7.set (e4.from_.toNat + v12.toNat) (w64 (e8 + (if (w64 (capacity - r3)) < way then (w64 (capacity - r3)) else way)))))))
  else
   some (.dn v13)
noncomputable def zq15_L3 (capacity : Int) (v3 : Int) (r2 : (List service)) : Int × Int × (List boarding) × (List (List Int)) → Option (Lp (Int × Int × (List boarding) × (List (List Int))) (Int × (List boarding) × (List (List Int))))
 | (way, v7, v8, v9) =>
  if (decide (v7 < (r2.length : Int))) = true then
   ((idx r2 v7).bind fun e4 =>
   (idx v9 e4.trip_).bind fun e6 =>
   (chk ((0 : Int) ≤ e4.from_ ∧ (e4.from_ : Int) ≤ e4.to_ ∧ e4.to_ ≤ (e6.length : Int))).bind fun u7 =>
   (chk ((0 : Int) ≤ e4.from_ ∧ (e4.from_ : Int) ≤ e4.to_ ∧ e4.to_ ≤ (e6.length : Int))).bind fun u8 =>
   (zq85 ((e6.drop e4.from_.toNat).take (e4.to_ - e4.from_).toNat)).bind fun r3 =>
   if ((if (w64 (capacity - r3)) < way then (w64 (capacity - r3)) else way) == 0) = true then
    some (way, v8, v9)
   else
    (iter (zq15_L2 capacity way e4 r3) ((0 : Int), v9)).bind fun (v14 : List (List Int)) =>
    (chk (v8.length + ([(⟨v3, e4, (if (w64 (capacity - r3)) < way then (w64 (capacity - r3)) else way)⟩ : boarding)] : List boarding).length ≤ 4294967296)).bind fun u11 =>
    some ((w64 (way - (if (w64 (capacity - r3)) < way then (w64 (capacity - r3)) else way))), (v8 ++ ([(⟨v3, e4, (if (w64 (capacity - r3)) < way then (w64 (capacity - r3)) else way)⟩ : boarding)] : List boarding)), v14)).bind fun ((way1, v10, v11) : Int × (List boarding) × (List (List Int))) =>
   some (.nx (way1, (w64 (v7 + 1)), v10, v11))
  else
   some (.dn (way, v8, v9))
noncomputable def zq15_L4 (t : Timetable) (list : List Flow) (capacity : Int) : Int × (List boarding) × (List (List Int)) × (List Int) → Option (Lp (Int × (List boarding) × (List (List Int)) × (List Int)) ((List boarding) × (List (List Int)) × (List Int)))
 | (v3, v4, v5, v6) =>
  if (decide (v3 < (list.length : Int))) = true then
   (idx list v3).bind fun e3 =>
   (zq24 t e3).bind fun r2 =>
   (iter (zq15_L3 capacity v3 r2) (e3.Persons, (0 : Int), v4, v5)).bind fun ((way2, v15, v16) : Int × (List boarding) × (List (List Int))) =>
   (idx v6 v3).bind fun e10 =>
   some (.nx ((w64 (v3 + 1)), v15, v16, (v6.set v3.toNat way2)))
  else
   some (.dn (v4, v5, v6))
noncomputable def zq15 (t : Timetable) (list : List Flow) (capacity : Int) : Option (boards) :=
 (chk ((0 : Int) ≤ (t.Trips.length : Int) ∧ ((t.Trips.length : Int) : Int) ≤ 4294967296)).bind fun u2 =>
 (chk ((0 : Int) ≤ (list.length : Int) ∧ ((list.length : Int) : Int) ≤ 4294967296)).bind fun u3 =>
 (iter (zq15_L1 t) ((0 : Int), (List.replicate (t.Trips.length : Int).toNat (([] : List Int) : List Int)))).bind fun (v2 : List (List Int)) =>
 (iter (zq15_L4 t list capacity) ((0 : Int), ([] : List boarding), v2, (List.replicate (list.length : Int).toNat (0 : Int)))).bind fun ((v17, v18, v19) : (List boarding) × (List (List Int)) × (List Int)) =>
 some (⟨v17, v18, v19⟩ : boards)
noncomputable def zq9_L1 (t : Timetable) (list : List Flow) (r2 : Int) : Int → Option (Lp (Int) (Int))
 | v =>
  (zq15 t list v).bind fun r3 =>
  (zq27 r3.left_).bind fun r4 =>
  if (decide (r2 < r4)) = true then
   some (.nx (w64 (v + 1)))
  else
   some (.dn v)
noncomputable def zq9 (t : Timetable) (list : List Flow) : Option (Int × Bool) :=
 (zq2 t list).bind fun r =>
 if (!r) = true then
  some (0, false)
 else
  (zq15 t list 1000).bind fun r1 =>
  (zq27 r1.left_).bind fun r2 =>
  (iter (zq9_L1 t list r2) (0 : Int)).bind fun (v1 : Int) =>
  some (v1, true)
noncomputable def zq59 (t : Timetable) (f : Flow) : Option (Bool) :=
 (zq52 f.From 0 (w64 ((t.Network.Stops.length : Int) - 1))).bind fun r =>
 (if r = true then (zq52 f.To 0 (w64 ((t.Network.Stops.length : Int) - 1))).bind fun r1 =>
 if r1 = true then if (f.From != f.To) = true then (zq75 f.Time).bind fun r2 =>
 if r2 = true then (zq52 f.Persons 1 500).bind fun r3 =>
 some r3 else some false else some false else some false else some false).bind fun (v : Bool) =>
 some v
noncomputable def zq60_L1 (t : Timetable) (list : List Flow) : Int → Option (Lp (Int) (Fl (Bool) (Unit)))
 | v1 =>
  if (decide (v1 < (list.length : Int))) = true then
   (idx list v1).bind fun e3 =>
   (zq59 t e3).bind fun r2 =>
   (if (!r2) = true then some true else if (decide (0 < v1)) = true then (idx list (w64 (v1 - 1))).bind fun e4 =>
   (idx list v1).bind fun e5 =>
   some (decide (e5.Time < e4.Time)) else some false).bind fun (v2 : Bool) =>
   if v2 = true then
    some (.dn (.ret false))
   else
    some (.nx (w64 (v1 + 1)))
  else
   some (.dn (.go ()))
noncomputable def zq60 (t : Timetable) (list : List Flow) : Option (Bool) :=
 (zq78 t).bind fun r =>
 (if (!r) = true then some true else some (decide (12 < (list.length : Int)))).bind fun (v : Bool) =>
 if v = true then
  some false
 else
  flb (iter (zq60_L1 t list) (0 : Int)) fun (_ : Unit) =>
  some true
noncomputable def zq62 (t : Timetable) (i : Int) (f : Flow) : Option (Int × Int) :=
 (zq79 t i).bind fun r4 =>
 (zq73 r4 f.From).bind fun r5 =>
 (zq79 t i).bind fun r6 =>
 (zq73 r6 f.To).bind fun r7 =>
 (if (decide (r5 < 0)) = true then some true else if (decide (r7 ≤ r5)) = true then some true else (zq76 t i r5).bind fun r9 =>
 some (decide (r9 < f.Time))).bind fun (v : Bool) =>
 if v = true then
  some ((-1), (-1))
 else
  some (r5, r7)
noncomputable def zq63_L1 (a : List Int) (r1 : Int) : Int → Option (Lp (Int) (Int))
 | v =>
  (if (decide (0 < v)) = true then (idx a (w64 (v - 1))).bind fun e =>
  some (decide (r1 < e)) else some false).bind fun (v1 : Bool) =>
  if v1 = true then
   some (.nx (w64 (v - 1)))
  else
   some (.dn v)
noncomputable def zq63_L2 (t : Timetable) (f : Flow) : Int × (List Int) × (List Int) → Option (Lp (Int × (List Int) × (List Int)) ((List Int)))
 | (b, i, a) =>
  if (decide (b < (t.Trips.length : Int))) = true then
   ((zq62 t b f).bind fun r =>
   if (decide (r.1 < 0)) = true then
    some (i, a)
   else
    (zq76 t b r.2).bind fun r1 =>
    (iter (zq63_L1 a r1) (i.length : Int)).bind fun (v2 : Int) =>
    (chk ((0 : Int) ≤ 0 ∧ (0 : Int) ≤ v2 ∧ v2 ≤ (i.length : Int))).bind fun u5 =>
    (chk (([] : List Int).length + ((i.take v2.toNat).drop (0 : Int).toNat).length ≤ 4294967296)).bind fun u6 =>
    (chk ((([] : List Int) ++ ((i.take v2.toNat).drop (0 : Int).toNat)).length + ([b] : List Int).length ≤ 4294967296)).bind fun u7 =>
    (chk ((0 : Int) ≤ v2 ∧ v2 ≤ (i.length : Int))).bind fun u8 =>
    (chk (((([] : List Int) ++ ((i.take v2.toNat).drop (0 : Int).toNat)) ++ ([b] : List Int)).length + (i.drop v2.toNat).length ≤ 4294967296)).bind fun u9 =>
    (chk ((0 : Int) ≤ 0 ∧ (0 : Int) ≤ v2 ∧ v2 ≤ (a.length : Int))).bind fun u15 =>
    (chk (([] : List Int).length + ((a.take v2.toNat).drop (0 : Int).toNat).length ≤ 4294967296)).bind fun u16 =>
    (chk ((([] : List Int) ++ ((a.take v2.toNat).drop (0 : Int).toNat)).length + ([r1] : List Int).length ≤ 4294967296)).bind fun u17 =>
    (chk ((0 : Int) ≤ v2 ∧ v2 ≤ (a.length : Int))).bind fun u18 =>
    (chk (((([] : List Int) ++ ((a.take v2.toNat).drop (0 : Int).toNat)) ++ ([r1] : List Int)).length + (a.drop v2.toNat).length ≤ 4294967296)).bind fun u19 =>
    some ((((([] : List Int) ++ ((i.take v2.toNat).drop (0 : Int).toNat)) ++ ([b] : List Int)) ++ (i.drop v2.toNat)), (((([] : List Int) ++ ((a.take v2.toNat).drop (0 : Int).toNat)) ++ ([r1] : List Int)) ++ (a.drop v2.toNat)))).bind fun ((i1, a1) : (List Int) × (List Int)) =>
   some (.nx ((w64 (b + 1)), i1, a1))
  else
   some (.dn i)
noncomputable def zq63 (t : Timetable) (f : Flow) : Option ((List Int)) :=
 (iter (zq63_L2 t f) ((0 : Int), ([] : List Int), ([] : List Int))).bind fun (i2 : List Int) =>
 some i2
noncomputable def zq58_L1 (t : Timetable) : Int × (List (List Int)) → Option (Lp (Int × (List (List Int))) ((List (List Int))))
 | (left, v) =>
  if (decide (left < (t.Trips.length : Int))) = true then
   (zq80 t left).bind fun r1 =>
   (chk ((0 : Int) ≤ (w64 ((r1.length : Int) - 1)) ∧ ((w64 ((r1.length : Int) - 1)) : Int) ≤ 4294967296)).bind fun u6 =>
   (chk (v.length + ([(List.replicate (w64 ((r1.length : Int) - 1)).toNat (0 : Int))] : List (List Int)).length ≤ 4294967296)).bind fun u7 =>
   some (.nx ((w64 (left + 1)), (v ++ ([(List.replicate (w64 ((r1.length : Int) - 1)).toNat (0 : Int))] : List (List Int)))))
  else
   some (.dn v)
noncomputable def zq58_L2 (capacity : Int) (v10 : List (List Int)) (e1 : Int) (r3 : Int × Int) : Int × Int → Option (Lp (Int × Int) (Int))
 | (v13, v14) =>
  if (decide (v14 < r3.2)) = true then
   (idx v10 e1).bind fun e2 =>
   (idx e2 v14).bind fun e3 =>
   (zq53 v13 (w64 (capacity - e3))).bind fun r4 =>
   some (.nx (r4, (w64 (v14 + 1))))
  else
   some (.dn v13)
noncomputable def zq58_L3 (e1 : Int) (r3 : Int × Int) (v15 : Int) : Int × (List (List Int)) → Option (Lp (Int × (List (List Int))) ((List (List Int))))
 | (v16, v17) =>
  if (decide (v16 < r3.2)) = true then
   (idx v17 e1).bind fun e8 =>
   (idx v17 e1).bind fun e9 =>
   (idx e8 v16).bind fun e10 =>
   (idx e8 v16).bind fun e11 =>
   some (.nx ((w64 (v16 + 1)), (v17.set e1.toNat (e8.set v16.toNat (w64 (e10 + v15))))))
  else
   some (.dn v17)
noncomputable def zq58_L4 (t : Timetable) (capacity : Int) (e : Flow) (r2 : (List Int)) : Int × Int × Int × Int × (List (List Int)) × (List Int) × (List Int) → Option (Lp (Int × Int × Int × Int × (List (List Int)) × (List Int) × (List Int)) (Int × Int × Int × (List (List Int)) × (List Int) × (List Int)))
 | (i, b, v8, v9, v10, v11, v12) =>
  if (decide (b < (r2.length : Int))) = true then
   (idx r2 b).bind fun e1 =>
   (zq62 t e1 e).bind fun r3 =>
   (iter (zq58_L2 capacity v10 e1 r3) (i, r3.1)).bind fun (v15 : Int) =>
   (iter (zq58_L3 e1 r3 v15) (r3.1, v10)).bind fun (v18 : List (List Int)) =>
   (zq76 t e1 r3.2).bind fun r6 =>
   (idx v11 e.From).bind fun e14 =>
   (idx v11 e.From).bind fun e15 =>
   (idx v12 e.To).bind fun e18 =>
   (idx v12 e.To).bind fun e19 =>
   some (.nx ((w64 (i - v15)), (w64 (b + 1)), (w64 (v8 + (w64 (v15 * (w64 (r6 - e.Time)))))), (w64 (v9 + v15)), v18, (v11.set e.From.toNat (w64 (e14 + v15))), (v12.set e.To.toNat (w64 (e18 + v15)))))
  else
   some (.dn (i, v8, v9, v10, v11, v12))
noncomputable def zq58_L5 (t : Timetable) (list : List Flow) (capacity : Int) : Int × Int × Int × (List (List Int)) × (List Int) × (List Int) × (List Int) → Option (Lp (Int × Int × Int × (List (List Int)) × (List Int) × (List Int) × (List Int)) (Int × Int × (List (List Int)) × (List Int) × (List Int) × (List Int)))
 | (trips, v2, v3, v4, v5, v6, v7) =>
  if (decide (trips < (list.length : Int))) = true then
   (idx list trips).bind fun e =>
   (zq63 t e).bind fun r2 =>
   (iter (zq58_L4 t capacity e r2) (e.Persons, (0 : Int), v2, v3, v4, v6, v7)).bind fun ((i1, v19, v20, v21, v22, v23) : Int × Int × Int × (List (List Int)) × (List Int) × (List Int)) =>
   (chk (v5.length + ([i1] : List Int).length ≤ 4294967296)).bind fun u8 =>
   some (.nx ((w64 (trips + 1)), v19, v20, v21, (v5 ++ ([i1] : List Int)), v22, v23))
  else
   some (.dn (v2, v3, v4, v5, v6, v7))
noncomputable def zq58 (t : Timetable) (list : List Flow) (capacity : Int) : Option (l20State) :=
 (chk ((0 : Int) ≤ (t.Network.Stops.length : Int) ∧ ((t.Network.Stops.length : Int) : Int) ≤ 4294967296)).bind fun u2 =>
 (chk ((0 : Int) ≤ (t.Network.Stops.length : Int) ∧ ((t.Network.Stops.length : Int) : Int) ≤ 4294967296)).bind fun u3 =>
 (iter (zq58_L1 t) ((0 : Int), ([] : List (List Int)))).bind fun (v1 : List (List Int)) =>
 (iter (zq58_L5 t list capacity) ((0 : Int), (0 : Int), (0 : Int), v1, ([] : List Int), (List.replicate (t.Network.Stops.length : Int).toNat (0 : Int)), (List.replicate (t.Network.Stops.length : Int).toNat (0 : Int)))).bind fun ((v24, v25, v26, v27, v28, v29) : Int × Int × (List (List Int)) × (List Int) × (List Int) × (List Int)) =>
 some (⟨v26, v27, v24, v25, v28, v29⟩ : l20State)
noncomputable def zq61_L1 (r : l20State) : Int × Int → Option (Lp (Int × Int) (Int))
 | (v, v1) =>
  if (decide (v1 < (r.left_.length : Int))) = true then
   (idx r.left_ v1).bind fun e =>
   some (.nx ((w64 (v + e)), (w64 (v1 + 1))))
  else
   some (.dn v)
noncomputable def zq61 (t : Timetable) (list : List Flow) (capacity : Int) : Option (Int) :=
 (zq58 t list capacity).bind fun r =>
 (iter (zq61_L1 r) ((0 : Int), (0 : Int))).bind fun (v2 : Int) =>
 some v2
noncomputable def zq34_L1 (t : Timetable) (list : List Flow) (r1 : Int) : Int → Option (Lp (Int) (Int))
 | v =>
  (zq61 t list v).bind fun r2 =>
  if (decide (r1 < r2)) = true then
   some (.nx (w64 (v + 1)))
  else
   some (.dn v)
noncomputable def zq34 (t : Timetable) (list : List Flow) : Option (Int × Bool) :=
 (zq60 t list).bind fun r =>
 if (!r) = true then
  some (0, false)
 else
  (zq61 t list 1000).bind fun r1 =>
  (iter (zq34_L1 t list r1) (0 : Int)).bind fun (v1 : Int) =>
  some (v1, true)
noncomputable def zq11 (t : Timetable) (list : List Flow) (capacity : Int) : Option (Bool) :=
 (zq2 t list).bind fun r =>
 (if r = true then (zq28 capacity 0 1000).bind fun r1 =>
 some r1 else some false).bind fun (v : Bool) =>
 some v
noncomputable def zq6 (t : Timetable) (list : List Flow) (capacity : Int) : Option ((List Int) × Bool) :=
 (zq11 t list capacity).bind fun r =>
 if (!r) = true then
  some (([] : List Int), false)
 else
  (zq15 t list capacity).bind fun r1 =>
  some (r1.left_, true)
noncomputable def zq97_L1 (list : List Int) : Int × Int → Option (Lp (Int × Int) (Int))
 | (i, v) =>
  if (decide (v < (list.length : Int))) = true then
   (idx list v).bind fun e =>
   some (.nx ((w64 (i + e)), (w64 (v + 1))))
  else
   some (.dn i)
noncomputable def zq97 (list : List Int) : Option (Int) :=
 (iter (zq97_L1 list) ((0 : Int), (0 : Int))).bind fun (i1 : Int) =>
 some i1
noncomputable def zq30 (code : List UInt8) : Option (Timetable × (List Flow)) :=
 (zq29 code).bind fun r =>
 some (r.1, r.2)
noncomputable def zq8 (g : Flow) (c1 : Flow) : Option (Bool) :=
 (if (g.From == c1.From) = true then if (g.To == c1.To) = true then some (g.Time == c1.Time) else some false else some false).bind fun (v : Bool) =>
 some v
noncomputable def zq81_L1 (s : List Flow) (f : Flow → Option (Bool)) : Int → Option (Lp (Int) (Fl (Int) (Unit)))
 | v =>
  if (decide (v < (s.length : Int))) = true then
   (idx s v).bind fun e =>
   (f e).bind fun r =>
   if r = true then
    some (.dn (.ret v))
   else
    some (.nx (w64 (v + 1)))
  else
   some (.dn (.go ()))
noncomputable def zq81 (s : List Flow) (f : Flow → Option (Bool)) : Option (Int) :=
 flb (iter (zq81_L1 s f) (0 : Int)) fun (_ : Unit) =>
 some (-1)
noncomputable def zq82 (s : List Flow) (c1 : Flow) : Option (Int) :=
 zq81 s (fun (z0 : Flow) => zq8 z0 c1)
noncomputable def zq7_L1 (list : List Flow) : Int × (List Flow) → Option (Lp (Int × (List Flow)) ((List Flow)))
 | (v, f) =>
  if (decide (v < (list.length : Int))) = true then
   ((idx list v).bind fun e =>
   (zq82 f e).bind fun r1 =>
   if (decide (r1 < 0)) = true then
    (chk (f.length + ([e] : List Flow).length ≤ 4294967296)).bind fun u =>
    some (f ++ ([e] : List Flow))
   else
    (idx f r1).bind fun e3 =>
    (idx f r1).bind fun e4 =>
    some (f.set r1.toNat (⟨e4.From, e4.To, e4.Time, (w64 (e3.Persons + e.Persons))⟩ : Flow))).bind fun (f1 : List Flow) =>
   some (.nx ((w64 (v + 1)), f1))
  else
   some (.dn f)
noncomputable def zq7 (t : Timetable) (list : List Flow) : Option ((List Flow) × Bool) :=
 (zq2 t list).bind fun r =>
 if (!r) = true then
  some (([] : List Flow), false)
 else
  (iter (zq7_L1 list) ((0 : Int), ([] : List Flow))).bind fun (f2 : List Flow) =>
  (zq12 t f2).bind fun r2 =>
  if (!r2) = true then
   some (([] : List Flow), false)
  else
   some (f2, true)
noncomputable def zq33_L1 (list : List Flow) (x : Int) (k : List Flow) : Int → Option (Lp (Int) (Int))
 | v =>
  (if (decide (v < (k.length : Int))) = true then (idx k v).bind fun e6 =>
  (idx list x).bind fun e7 =>
  if (e6.From != e7.From) = true then some true else (idx k v).bind fun e8 =>
  (idx list x).bind fun e9 =>
  if (e8.To != e9.To) = true then some true else (idx k v).bind fun e10 =>
  (idx list x).bind fun e11 =>
  some (e10.Time != e11.Time) else some false).bind fun (v1 : Bool) =>
  if v1 = true then
   some (.nx (w64 (v + 1)))
  else
   some (.dn v)
noncomputable def zq33_L2 (list : List Flow) : Int × (List Flow) → Option (Lp (Int × (List Flow)) ((List Flow)))
 | (x, k) =>
  if (decide (x < (list.length : Int))) = true then
   ((iter (zq33_L1 list x k) (0 : Int)).bind fun (v2 : Int) =>
   if (v2 == (k.length : Int)) = true then
    (idx list x).bind fun e12 =>
    (chk (k.length + ([e12] : List Flow).length ≤ 4294967296)).bind fun u =>
    some (k ++ ([e12] : List Flow))
   else
    (idx k v2).bind fun e13 =>
    (idx list x).bind fun e15 =>
    (idx k v2).bind fun e16 =>
    some (k.set v2.toNat (⟨e13.From, e13.To, e13.Time, (w64 (e13.Persons + e15.Persons))⟩ : Flow))).bind fun (k1 : List Flow) =>
   some (.nx ((w64 (x + 1)), k1))
  else
   some (.dn k)
noncomputable def zq33 (t : Timetable) (list : List Flow) : Option ((List Flow) × Bool) :=
 (zq60 t list).bind fun r =>
 if (!r) = true then
  some (([] : List Flow), false)
 else
  (iter (zq33_L2 list) ((0 : Int), ([] : List Flow))).bind fun (k2 : List Flow) =>
  (zq60 t k2).bind fun r1 =>
  if (!r1) = true then
   some (([] : List Flow), false)
  else
   some (k2, true)
noncomputable def zq32 (code : List UInt8) : Option (Timetable × Flow) :=
 (zq39 (⟨code, 0, (⟨0⟩ : IK .u64)⟩ : l1Cur)).bind fun r =>
 (zq37 r.2 ([0, 300, 400, 480, (-1)] : List Int)).bind fun r3 =>
 (zq40 r3.2 r.1 r3.1).bind fun r4 =>
 some (r.1, r4.1)
noncomputable def zq10_L1 (t : Timetable) (r2 : (List service)) : Int × (List Int) → Option (Lp (Int × (List Int)) ((List Int)))
 | (v1, s) =>
  if (decide (v1 < (r2.length : Int))) = true then
   (idx r2 v1).bind fun e =>
   (idx t.Trips e.trip_).bind fun e1 =>
   (chk (s.length + ([e1.Id] : List Int).length ≤ 4294967296)).bind fun u =>
   some (.nx ((w64 (v1 + 1)), (s ++ ([e1.Id] : List Int))))
  else
   some (.dn s)
noncomputable def zq10 (t : Timetable) (f : Flow) : Option ((List Int) × Bool) :=
 (zq5 t).bind fun r =>
 (if (!r) = true then some true else (zq17 t f).bind fun r1 =>
 some (!r1)).bind fun (v : Bool) =>
 if v = true then
  some (([] : List Int), false)
 else
  (zq24 t f).bind fun r2 =>
  (iter (zq10_L1 t r2) ((0 : Int), ([] : List Int))).bind fun (s1 : List Int) =>
  some (s1, true)
noncomputable def zq35_L1 (t : Timetable) (r1 : (List Int)) : Int × (List Int) → Option (Lp (Int × (List Int)) ((List Int)))
 | (v, i) =>
  if (decide (v < (r1.length : Int))) = true then
   (idx r1 v).bind fun e2 =>
   (idx t.Trips e2).bind fun e3 =>
   (chk (i.length + ([e3.Id] : List Int).length ≤ 4294967296)).bind fun u1 =>
   some (.nx ((w64 (v + 1)), (i ++ ([e3.Id] : List Int))))
  else
   some (.dn i)
noncomputable def zq35 (t : Timetable) (f : Flow) : Option ((List Int) × Bool) :=
 (zq60 t ([f] : List Flow)).bind fun r =>
 if (!r) = true then
  some (([] : List Int), false)
 else
  (zq63 t f).bind fun r1 =>
  (iter (zq35_L1 t r1) ((0 : Int), ([] : List Int))).bind fun (i1 : List Int) =>
  some (i1, true)
noncomputable def zq96_L1 (a : List Int) (b : List Int) : Int → Option (Lp (Int) (Fl (Bool) (Unit)))
 | v =>
  if (decide (v < (a.length : Int))) = true then
   (idx a v).bind fun e2 =>
   (idx b v).bind fun e3 =>
   if (e2 != e3) = true then
    some (.dn (.ret false))
   else
    some (.nx (w64 (v + 1)))
  else
   some (.dn (.go ()))
noncomputable def zq96 (a : List Int) (b : List Int) : Option (Bool) :=
 if ((a.length : Int) != (b.length : Int)) = true then
  some false
 else
  flb (iter (zq96_L1 a b) (0 : Int)) fun (_ : Unit) =>
  some true
noncomputable def v_FnFlows_L1 (r10 : Timetable × (List Flow)) : Int × Int → Option (Lp (Int × Int) (Int))
 | (i, i1) =>
  if (decide (i1 < (r10.2.length : Int))) = true then
   (idx r10.2 i1).bind fun e1 =>
   some (.nx ((w64 (i + e1.Persons)), (w64 (i1 + 1))))
  else
   some (.dn i)
noncomputable def v_FnFlows_L2 (r11 : (List Flow) × Bool) : Int × Int → Option (Lp (Int × Int) (Int))
 | (i3, v3) =>
  if (decide (v3 < (r11.1.length : Int))) = true then
   (idx r11.1 v3).bind fun e2 =>
   some (.nx ((w64 (i3 - e2.Persons)), (w64 (v3 + 1))))
  else
   some (.dn i3)
noncomputable def v_FnFlows (code : List UInt8) : Option (Bool) :=
 (zq95 code).bind fun r =>
 if r = true then
  some true
 else
  (zq31 code).bind fun r1 =>
  (zq9 r1.1 r1.2).bind fun r2 =>
  (zq34 r1.1 r1.2).bind fun r3 =>
  (if (r2.1 != r3.1) = true then some true else if (!(r2.2 == r3.2)) = true then some true else (zq2 r1.1 r1.2).bind fun r4 =>
  some (!(r2.2 == r4))).bind fun (v : Bool) =>
  if v = true then
   some false
  else
   flb (if r2.2 = true then
    (zq6 r1.1 r1.2 r2.1).bind fun r5 =>
    (zq6 r1.1 r1.2 1000).bind fun r6 =>
    (if (!r5.2) = true then some true else if (!r6.2) = true then some true else (zq97 r5.1).bind fun r7 =>
    (zq97 r6.1).bind fun r8 =>
    some (decide (r8 < r7))).bind fun (v1 : Bool) =>
    if v1 = true then
     some (.ret false)
    else
     some (.go ())
   else
    some (.go ())) fun (_ : Unit) =>
   (zq30 code).bind fun r10 =>
   (zq7 r10.1 r10.2).bind fun r11 =>
   (zq33 r10.1 r10.2).bind fun r12 =>
   (if (!(r11.2 == r12.2)) = true then some true else some ((r11.1.length : Int) != (r12.1.length : Int))).bind fun (v2 : Bool) =>
   if v2 = true then
    some false
   else
    flb (if r11.2 = true then
     (iter (v_FnFlows_L1 r10) ((0 : Int), (0 : Int))).bind fun (i2 : Int) =>
     (iter (v_FnFlows_L2 r11) (i2, (0 : Int))).bind fun (i4 : Int) =>
     if (i4 != 0) = true then
      some (.ret false)
     else
      some (.go ())
    else
     some (.go ())) fun (_ : Unit) =>
    (zq32 code).bind fun r14 =>
    (zq10 r14.1 r14.2).bind fun r15 =>
    (zq35 r14.1 r14.2).bind fun r16 =>
    (if (r15.2 == r16.2) = true then (zq96 r15.1 r16.1).bind fun r17 =>
    some r17 else some false).bind fun (t : Bool) =>
    some t
end Go.Proofs.Ytmmffjenpfeapaa
