/- Models of the functions that the law reaches: plain Lean; none where the function would panic or not end. Made by program (dec.py). -/
import Derived.Test.YtaegkodcjpgndaaGreatAbC0
namespace Go.Proofs.YtaegkodcjpgndaaGreat
open Go Go.Ab
set_option maxRecDepth 100000
set_option maxHeartbeats 4000000
set_option linter.unusedVariables false
set_option linter.unusedSimpArgs false
structure l1Cur where
 code_ : List UInt8
 at_ : Int
 seed_ : IK .u64
instance enc_l1Cur : Enc l1Cur := ⟨3, fun x => .agg [Enc.e x.code_, .sc (.int .i64 x.at_), .sc (.int .u64 x.seed_.v)], fun a b h => by
 simp only [D.agg.injEq, List.cons.injEq, and_true] at h
 obtain ⟨a1, a2, a3⟩ := a
 obtain ⟨b1, b2, b3⟩ := b
 obtain ⟨h1, h2, h3⟩ := h
 have q1 := Enc.inj (α := List UInt8) a1 b1 h1
 have q2 := Enc.inj (α := Int) a2 b2 h2
 have q3 := Enc.inj (α := IK .u64) a3 b3 h3
 subst q1; subst q2; subst q3; rfl⟩
structure Line where
 Name : ByteArray
 Stops : List Int
 Runs : List Int
instance enc_Line : Enc Line := ⟨3, fun x => .agg [.sc (.string x.Name), Enc.e x.Stops, Enc.e x.Runs], fun a b h => by
 simp only [D.agg.injEq, List.cons.injEq, and_true] at h
 obtain ⟨a1, a2, a3⟩ := a
 obtain ⟨b1, b2, b3⟩ := b
 obtain ⟨h1, h2, h3⟩ := h
 have q1 := Enc.inj (α := ByteArray) a1 b1 h1
 have q2 := Enc.inj (α := List Int) a2 b2 h2
 have q3 := Enc.inj (α := List Int) a3 b3 h3
 subst q1; subst q2; subst q3; rfl⟩
structure Network where
 Stops : List ByteArray
 Lines : List Line
instance enc_Network : Enc Network := ⟨2, fun x => .agg [Enc.e x.Stops, Enc.e x.Lines], fun a b h => by
 simp only [D.agg.injEq, List.cons.injEq, and_true] at h
 obtain ⟨a1, a2⟩ := a
 obtain ⟨b1, b2⟩ := b
 obtain ⟨h1, h2⟩ := h
 have q1 := Enc.inj (α := List ByteArray) a1 b1 h1
 have q2 := Enc.inj (α := List Line) a2 b2 h2
 subst q1; subst q2; rfl⟩
structure Trip where
 Id : Int
 Line : Int
 Start : Int
instance enc_Trip : Enc Trip := ⟨3, fun x => .agg [.sc (.int .i64 x.Id), .sc (.int .i64 x.Line), .sc (.int .i64 x.Start)], fun a b h => by
 simp only [D.agg.injEq, List.cons.injEq, and_true] at h
 obtain ⟨a1, a2, a3⟩ := a
 obtain ⟨b1, b2, b3⟩ := b
 obtain ⟨h1, h2, h3⟩ := h
 have q1 := Enc.inj (α := Int) a1 b1 h1
 have q2 := Enc.inj (α := Int) a2 b2 h2
 have q3 := Enc.inj (α := Int) a3 b3 h3
 subst q1; subst q2; subst q3; rfl⟩
structure Timetable where
 Network : Network
 Trips : List Trip
instance enc_Timetable : Enc Timetable := ⟨3, fun x => .agg [Enc.e x.Network.Stops, Enc.e x.Network.Lines, Enc.e x.Trips], fun a b h => by
 simp only [D.agg.injEq, List.cons.injEq, and_true] at h
 obtain ⟨⟨a1, a2⟩, a3⟩ := a
 obtain ⟨⟨b1, b2⟩, b3⟩ := b
 obtain ⟨h1, h2, h3⟩ := h
 have q1 := Enc.inj (α := List ByteArray) a1 b1 h1
 have q2 := Enc.inj (α := List Line) a2 b2 h2
 have q3 := Enc.inj (α := List Trip) a3 b3 h3
 subst q1; subst q2; subst q3; rfl⟩
structure Report where
 Vehicle : Int
 Time : Int
 Line : Int
 Done : Int
instance enc_Report : Enc Report := ⟨4, fun x => .agg [.sc (.int .i64 x.Vehicle), .sc (.int .i64 x.Time), .sc (.int .i64 x.Line), .sc (.int .i64 x.Done)], fun a b h => by
 simp only [D.agg.injEq, List.cons.injEq, and_true] at h
 obtain ⟨a1, a2, a3, a4⟩ := a
 obtain ⟨b1, b2, b3, b4⟩ := b
 obtain ⟨h1, h2, h3, h4⟩ := h
 have q1 := Enc.inj (α := Int) a1 b1 h1
 have q2 := Enc.inj (α := Int) a2 b2 h2
 have q3 := Enc.inj (α := Int) a3 b3 h3
 have q4 := Enc.inj (α := Int) a4 b4 h4
 subst q1; subst q2; subst q3; subst q4; rfl⟩
structure Match where
 Vehicle : Int
 Id : Int
 Delay : Int
instance enc_Match : Enc Match := ⟨3, fun x => .agg [.sc (.int .i64 x.Vehicle), .sc (.int .i64 x.Id), .sc (.int .i64 x.Delay)], fun a b h => by
 simp only [D.agg.injEq, List.cons.injEq, and_true] at h
 obtain ⟨a1, a2, a3⟩ := a
 obtain ⟨b1, b2, b3⟩ := b
 obtain ⟨h1, h2, h3⟩ := h
 have q1 := Enc.inj (α := Int) a1 b1 h1
 have q2 := Enc.inj (α := Int) a2 b2 h2
 have q3 := Enc.inj (α := Int) a3 b3 h3
 subst q1; subst q2; subst q3; rfl⟩
instance : BxE l1Cur := ⟨fun x y h => Enc.inj x y (congrArg D.agg h)⟩
instance : BxE Line := ⟨fun x y h => Enc.inj x y (congrArg D.agg h)⟩
instance : BxE Network := ⟨fun x y h => Enc.inj x y (congrArg D.agg h)⟩
instance : BxE Trip := ⟨fun x y h => Enc.inj x y (congrArg D.agg h)⟩
instance : BxE Timetable := ⟨fun x y h => Enc.inj x y (congrArg D.agg h)⟩
instance : BxE Report := ⟨fun x y h => Enc.inj x y (congrArg D.agg h)⟩
instance : BxE Match := ⟨fun x y h => Enc.inj x y (congrArg D.agg h)⟩
instance : FlatEnc Trip := ⟨fun _ => flatDB_ok rfl⟩
instance : FlatEnc Report := ⟨fun _ => flatDB_ok rfl⟩
instance : FlatEnc Match := ⟨fun _ => flatDB_ok rfl⟩
noncomputable def zq150 (code : List UInt8) : Option (Bool) :=
 some (decide (65536 < (code.length : Int)))
noncomputable def zq48 (c : l1Cur) : Option (Int × l1Cur) :=
 (if (decide (c.at_ < (c.code_.length : Int))) = true then
  (idx c.code_ c.at_).bind fun e1 =>
  some (w64 ((e1.toNat : Int)))
 else
  some (0 : Int)).bind fun (v : Int) =>
 if (decide ((w64 (c.at_ + 1)) ≤ (c.code_.length : Int))) = true then
  some (v, (⟨c.code_, (w64 (c.at_ + 1)), (⟨(IntKind.u64.wrap ((IntKind.u64.wrap ((IntKind.u64.wrap (c.seed_.v * 6364136223846793005)) + (IntKind.u64.wrap (v)))) + 900900))⟩ : IK .u64)⟩ : l1Cur))
 else
  (chk ((0 : Int) ≤ 40)).bind fun u =>
  some ((w64 ((IntKind.u64.wrap ((BitVec.ofInt (IntKind.u64).bits ((IntKind.u64.wrap ((IntKind.u64.wrap ((IntKind.u64.wrap (c.seed_.v * 6364136223846793005)) + (IntKind.u64.wrap (v)))) + 900900)).fdiv (2 ^ (min (40 : Int).toNat (IntKind.u64).bits))) &&& BitVec.ofInt (IntKind.u64).bits 255).toNat : Int)))), (⟨c.code_, (w64 (c.at_ + 1)), (⟨(IntKind.u64.wrap ((IntKind.u64.wrap ((IntKind.u64.wrap (c.seed_.v * 6364136223846793005)) + (IntKind.u64.wrap (v)))) + 900900))⟩ : IK .u64)⟩ : l1Cur))
noncomputable def zq53 (c : l1Cur) (n : Int) : Option (Int × l1Cur) :=
 if (decide (n ≤ 1)) = true then
  some (0, c)
 else
  (zq48 c).bind fun r =>
  (if (decide (200 < n)) = true then
   (zq48 r.2).bind fun r1 =>
   some ((w64 ((w64 (r.1 * 256)) + r1.1)), r1.2.code_, r1.2.at_, r1.2.seed_.v)
  else
   some (r.1, r.2.code_, r.2.at_, r.2.seed_.v)).bind fun ((v, v1, v2, v3) : Int × (List UInt8) × Int × Int) =>
  (chk ((n : Int) ≠ 0)).bind fun u =>
  some ((v.tmod n), (⟨v1, v2, (⟨v3⟩ : IK .u64)⟩ : l1Cur))
noncomputable def zq61_F (rec_ : Int → Option (ByteArray)) (n : Int) : Option (ByteArray) :=
 if (decide (n < 0)) = true then
  (rec_ (w64 (0 - n))).bind fun r =>
  (chk ((str [45]).size + r.size ≤ 4294967296)).bind fun u =>
  some ((str [45]) ++ r)
 else
  if (decide (n < 10)) = true then
   (chk ((0 : Int) ≤ n ∧ n ≤ (w64 (n + 1)) ∧ (w64 (n + 1)) ≤ ((str [48, 49, 50, 51, 52, 53, 54, 55, 56, 57]).size : Int))).bind fun u1 =>
   some ((str [48, 49, 50, 51, 52, 53, 54, 55, 56, 57]).extract n.toNat (w64 (n + 1)).toNat)
  else
   (chk ((10 : Int) ≠ 0)).bind fun u7 =>
   (rec_ (w64 (n.tdiv 10))).bind fun r2 =>
   (chk ((10 : Int) ≠ 0)).bind fun u8 =>
   (chk ((10 : Int) ≠ 0)).bind fun u9 =>
   (chk ((0 : Int) ≤ (n.tmod 10) ∧ (n.tmod 10) ≤ (w64 ((n.tmod 10) + 1)) ∧ (w64 ((n.tmod 10) + 1)) ≤ ((str [48, 49, 50, 51, 52, 53, 54, 55, 56, 57]).size : Int))).bind fun u10 =>
   (chk (r2.size + ((str [48, 49, 50, 51, 52, 53, 54, 55, 56, 57]).extract (n.tmod 10).toNat (w64 ((n.tmod 10) + 1)).toNat).size ≤ 4294967296)).bind fun u11 =>
   some (r2 ++ ((str [48, 49, 50, 51, 52, 53, 54, 55, 56, 57]).extract (n.tmod 10).toNat (w64 ((n.tmod 10) + 1)).toNat))
noncomputable def zq61_k : Nat → Int → Option (ByteArray)
 | 0 => fun _ => none
 | n + 1 => zq61_F (zq61_k n)
noncomputable def zq61 (n : Int) : Option (ByteArray) := zq61_k 4294967296 n
noncomputable def zq82_L1 (x : Line) (stop : Int) : Int → Option (Lp (Int) (Fl (Int) (Unit)))
 | v =>
  if (decide (v < (x.Stops.length : Int))) = true then
   (idx x.Stops v).bind fun e =>
   if (e == stop) = true then
    some (.dn (.ret v))
   else
    some (.nx (w64 (v + 1)))
  else
   some (.dn (.go ()))
noncomputable def zq82 (x : Line) (stop : Int) : Option (Int) :=
 flb (iter (zq82_L1 x stop) (0 : Int)) fun (_ : Unit) =>
 some (-1)
noncomputable def zq44_L1 (name : ByteArray) (stops : Int) : Int × Int × (List UInt8) × Int × Int × (List Int) → Option (Lp (Int × Int × (List UInt8) × Int × Int × (List Int)) ((List UInt8) × Int × Int × (List Int)))
 | (v, v1, v2, v3, v4, v5) =>
  if (decide (0 < v1)) = true then
   ((zq82 (⟨name, v5, ([] : List Int)⟩ : Line) v).bind fun r2 =>
   if (decide (r2 < 0)) = true then
    (chk (v5.length + ([v] : List Int).length ≤ 4294967296)).bind fun u =>
    some (v5 ++ ([v] : List Int))
   else
    some v5).bind fun (v6 : List Int) =>
   (zq53 (⟨v2, v3, (⟨v4⟩ : IK .u64)⟩ : l1Cur) 2).bind fun r3 =>
   (chk ((stops : Int) ≠ 0)).bind fun u1 =>
   some (.nx (((w64 ((w64 (v + 1)) + r3.1)).tmod stops), (w64 (v1 - 1)), r3.2.code_, r3.2.at_, r3.2.seed_.v, v6))
  else
   some (.dn (v2, v3, v4, v5))
noncomputable def zq44_L2 (v11 : List Int) : Int × (List UInt8) × Int × Int × (List Int) → Option (Lp (Int × (List UInt8) × Int × Int × (List Int)) ((List UInt8) × Int × Int × (List Int)))
 | (v12, v13, v14, v15, v16) =>
  if (decide (v12 < (v11.length : Int))) = true then
   (zq53 (⟨v13, v14, (⟨v15⟩ : IK .u64)⟩ : l1Cur) 12).bind fun r5 =>
   (chk (v16.length + ([(w64 (3 + r5.1))] : List Int).length ≤ 4294967296)).bind fun u7 =>
   some (.nx ((w64 (v12 + 1)), r5.2.code_, r5.2.at_, r5.2.seed_.v, (v16 ++ ([(w64 (3 + r5.1))] : List Int))))
  else
   some (.dn (v13, v14, v15, v16))
noncomputable def zq44 (c : l1Cur) (name : ByteArray) (stops : Int) : Option (Line × l1Cur) :=
 (zq53 c stops).bind fun r =>
 (zq53 r.2 3).bind fun r1 =>
 (iter (zq44_L1 name stops) (r.1, (w64 (2 + r1.1)), r1.2.code_, r1.2.at_, r1.2.seed_.v, ([] : List Int))).bind fun ((v7, v8, v9, v10) : (List UInt8) × Int × Int × (List Int)) =>
 (if (decide ((v10.length : Int) < 2)) = true then
  (idx v10 0).bind fun e1 =>
  (chk ((stops : Int) ≠ 0)).bind fun u4 =>
  (chk (v10.length + ([((w64 (e1 + 1)).tmod stops)] : List Int).length ≤ 4294967296)).bind fun u5 =>
  some (v10 ++ ([((w64 (e1 + 1)).tmod stops)] : List Int))
 else
  some v10).bind fun (v11 : List Int) =>
 (iter (zq44_L2 v11) ((1 : Int), v7, v8, v9, ([] : List Int))).bind fun ((v17, v18, v19, v20) : (List UInt8) × Int × Int × (List Int)) =>
 some ((⟨name, v11, v20⟩ : Line), (⟨v17, v18, (⟨v19⟩ : IK .u64)⟩ : l1Cur))
noncomputable def zq45_L1 (name : ByteArray) (stops : Int) : Int × Int × (List UInt8) × Int × Int × (List Int) → Option (Lp (Int × Int × (List UInt8) × Int × Int × (List Int)) ((List UInt8) × Int × Int × (List Int)))
 | (v, v1, v2, v3, v4, v5) =>
  if (decide (0 < v1)) = true then
   ((zq82 (⟨name, v5, ([] : List Int)⟩ : Line) v).bind fun r2 =>
   if (decide (r2 < 0)) = true then
    (chk (v5.length + ([v] : List Int).length ≤ 4294967296)).bind fun u =>
    some (v5 ++ ([v] : List Int))
   else
    some v5).bind fun (v6 : List Int) =>
   (zq53 (⟨v2, v3, (⟨v4⟩ : IK .u64)⟩ : l1Cur) 2).bind fun r3 =>
   (chk ((stops : Int) ≠ 0)).bind fun u1 =>
   some (.nx (((w64 ((w64 (v + 1)) + r3.1)).tmod stops), (w64 (v1 - 1)), r3.2.code_, r3.2.at_, r3.2.seed_.v, v6))
  else
   some (.dn (v2, v3, v4, v5))
noncomputable def zq45_L2 (v11 : List Int) : Int × (List UInt8) × Int × Int × (List Int) → Option (Lp (Int × (List UInt8) × Int × Int × (List Int)) ((List UInt8) × Int × Int × (List Int)))
 | (v12, v13, v14, v15, v16) =>
  if (decide (v12 < (v11.length : Int))) = true then
   (zq53 (⟨v13, v14, (⟨v15⟩ : IK .u64)⟩ : l1Cur) 12).bind fun r5 =>
   (chk (v16.length + ([(w64 (3 + r5.1))] : List Int).length ≤ 4294967296)).bind fun u7 =>
   some (.nx ((w64 (v12 + 1)), r5.2.code_, r5.2.at_, r5.2.seed_.v, (v16 ++ ([(w64 (3 + r5.1))] : List Int))))
  else
   some (.dn (v13, v14, v15, v16))
noncomputable def zq45 (c : l1Cur) (name : ByteArray) (stops : Int) : Option (Line × l1Cur) :=
 (zq53 c stops).bind fun r =>
 (zq53 r.2 3).bind fun r1 =>
 (iter (zq45_L1 name stops) (r.1, (w64 (2 + r1.1)), r1.2.code_, r1.2.at_, r1.2.seed_.v, ([] : List Int))).bind fun ((v7, v8, v9, v10) : (List UInt8) × Int × Int × (List Int)) =>
 (if (decide ((v10.length : Int) < 2)) = true then
  (idx v10 0).bind fun e1 =>
  (chk ((stops : Int) ≠ 0)).bind fun u4 =>
  (chk (v10.length + ([((w64 (e1 + 1)).tmod stops)] : List Int).length ≤ 4294967296)).bind fun u5 =>
  some (v10 ++ ([((w64 (e1 + 1)).tmod stops)] : List Int))
 else
  some v10).bind fun (v11 : List Int) =>
 (iter (zq45_L2 v11) ((1 : Int), v7, v8, v9, ([] : List Int))).bind fun ((v17, v18, v19, v20) : (List UInt8) × Int × Int × (List Int)) =>
 some ((⟨name, v11, v20⟩ : Line), (⟨v17, v18, (⟨v19⟩ : IK .u64)⟩ : l1Cur))
noncomputable def zq52 (c : l1Cur) (n : Int) : Option (Bool × l1Cur) :=
 (zq53 c n).bind fun r =>
 some ((r.1 == 0), r.2)
noncomputable def zq73_L1 (list : List Int) : Int × (List Int) → Option (Lp (Int × (List Int)) ((List Int)))
 | (v, i) =>
  if (decide (0 ≤ v)) = true then
   (idx list v).bind fun e =>
   (chk (i.length + ([e] : List Int).length ≤ 4294967296)).bind fun u =>
   some (.nx ((w64 (v - 1)), (i ++ ([e] : List Int))))
  else
   some (.dn i)
noncomputable def zq73 (list : List Int) : Option ((List Int)) :=
 (iter (zq73_L1 list) ((w64 ((list.length : Int) - 1)), ([] : List Int))).bind fun (i1 : List Int) =>
 some i1
noncomputable def zq74_L1 (list : List Int) : Int × (List Int) → Option (Lp (Int × (List Int)) ((List Int)))
 | (v, i) =>
  if (decide (0 ≤ v)) = true then
   (idx list v).bind fun e =>
   (chk (i.length + ([e] : List Int).length ≤ 4294967296)).bind fun u =>
   some (.nx ((w64 (v - 1)), (i ++ ([e] : List Int))))
  else
   some (.dn i)
noncomputable def zq74 (list : List Int) : Option ((List Int)) :=
 (iter (zq74_L1 list) ((w64 ((list.length : Int) - 1)), ([] : List Int))).bind fun (i1 : List Int) =>
 some i1
noncomputable def zq62 (l : List Int) : Option ((List Int)) :=
 (chk (([] : List Int).length + l.length ≤ 4294967296)).bind fun u =>
 some (([] : List Int) ++ l)
noncomputable def zq63 (l : List Int) : Option ((List Int)) :=
 (chk (([] : List Int).length + l.length ≤ 4294967296)).bind fun u =>
 some (([] : List Int) ++ l)
noncomputable def zq80_L1 (n : Network) : Int × (List Line) → Option (Lp (Int × (List Line)) ((List Line)))
 | (v, v1) =>
  if (decide (v < (n.Lines.length : Int))) = true then
   (idx n.Lines v).bind fun e3 =>
   (idx n.Lines v).bind fun e4 =>
   (zq63 e4.Stops).bind fun r2 =>
   (idx n.Lines v).bind fun e5 =>
   (zq63 e5.Runs).bind fun r3 =>
   (chk (v1.length + ([(⟨e3.Name, r2, r3⟩ : Line)] : List Line).length ≤ 4294967296)).bind fun u2 =>
   some (.nx ((w64 (v + 1)), (v1 ++ ([(⟨e3.Name, r2, r3⟩ : Line)] : List Line))))
  else
   some (.dn v1)
noncomputable def zq80 (n : Network) : Option (Network) :=
 (chk (([] : List ByteArray).length + n.Stops.length ≤ 4294967296)).bind fun u =>
 (iter (zq80_L1 n) ((0 : Int), ([] : List Line))).bind fun (v2 : List Line) =>
 some (⟨(([] : List ByteArray) ++ n.Stops), v2⟩ : Network)
noncomputable def zq46_L1 (r : Int × l1Cur) : Int × (List UInt8) × Int × Int × (List Line) → Option (Lp (Int × (List UInt8) × Int × Int × (List Line)) ((List UInt8) × Int × Int × (List Line)))
 | (x, v, v1, v2, v3) =>
  if (decide (0 < x)) = true then
   (zq61 x).bind fun r4 =>
   (chk ((str [108]).size + r4.size ≤ 4294967296)).bind fun u3 =>
   (zq45 (⟨v, v1, (⟨v2⟩ : IK .u64)⟩ : l1Cur) ((str [108]) ++ r4) (w64 (2 + r.1))).bind fun r5 =>
   (chk (v3.length + ([r5.1] : List Line).length ≤ 4294967296)).bind fun u4 =>
   some (.nx ((w64 (x - 1)), r5.2.code_, r5.2.at_, r5.2.seed_.v, (v3 ++ ([r5.1] : List Line))))
  else
   some (.dn (v, v1, v2, v3))
noncomputable def zq46 (c : l1Cur) : Option (Network × l1Cur) :=
 (zq53 c 5).bind fun r =>
 (chk ((0 : Int) ≤ 0 ∧ 0 ≤ (w64 (2 + r.1)) ∧ (w64 (2 + r.1)) ≤ (([(str [112, 111, 114, 116]), (str [109, 105, 108, 108]), (str [112, 97, 114, 107]), (str [104, 97, 108, 108]), (str [100, 111, 99, 107]), (str [102, 97, 105, 114])] : List ByteArray).length : Int))).bind fun u =>
 (zq53 r.2 3).bind fun r1 =>
 (iter (zq46_L1 r) ((w64 (1 + r1.1)), r1.2.code_, r1.2.at_, r1.2.seed_.v, ([] : List Line))).bind fun ((v4, v5, v6, v7) : (List UInt8) × Int × Int × (List Line)) =>
 ((zq52 (⟨v4, v5, (⟨v6⟩ : IK .u64)⟩ : l1Cur) 2).bind fun r6 =>
 if r6.1 = true then
  (idx v7 0).bind fun e =>
  (zq74 e.Stops).bind fun r9 =>
  (zq74 e.Runs).bind fun r10 =>
  (chk (v7.length + ([(⟨(str [114, 49]), r9, r10⟩ : Line)] : List Line).length ≤ 4294967296)).bind fun u6 =>
  some (r6.2.code_, r6.2.at_, r6.2.seed_.v, (v7 ++ ([(⟨(str [114, 49]), r9, r10⟩ : Line)] : List Line)))
 else
  some (r6.2.code_, r6.2.at_, r6.2.seed_.v, v7)).bind fun ((v8, v9, v10, v11) : (List UInt8) × Int × Int × (List Line)) =>
 (zq80 (⟨((([(str [112, 111, 114, 116]), (str [109, 105, 108, 108]), (str [112, 97, 114, 107]), (str [104, 97, 108, 108]), (str [100, 111, 99, 107]), (str [102, 97, 105, 114])] : List ByteArray).take (w64 (2 + r.1)).toNat).drop (0 : Int).toNat), v11⟩ : Network)).bind fun r11 =>
 some ((⟨r11.Stops, r11.Lines⟩ : Network), (⟨v8, v9, (⟨v10⟩ : IK .u64)⟩ : l1Cur))
noncomputable def zq57_L1 (r : Network × l1Cur) : Int × Int × (List UInt8) × Int × Int × (List Trip) → Option (Lp (Int × Int × (List UInt8) × Int × Int × (List Trip)) ((List UInt8) × Int × Int × (List Trip)))
 | (n, v, v1, v2, v3, v4) =>
  if (decide (0 < v)) = true then
   (zq53 (⟨v1, v2, (⟨v3⟩ : IK .u64)⟩ : l1Cur) 3).bind fun r2 =>
   (zq53 r2.2 (r.1.Lines.length : Int)).bind fun r5 =>
   (zq53 r5.2 24).bind fun r6 =>
   (chk (v4.length + ([(⟨(w64 ((w64 (n + 1)) + r2.1)), r5.1, (w64 (360 + (w64 (5 * r6.1))))⟩ : Trip)] : List Trip).length ≤ 4294967296)).bind fun u1 =>
   some (.nx ((w64 ((w64 (n + 1)) + r2.1)), (w64 (v - 1)), r6.2.code_, r6.2.at_, r6.2.seed_.v, (v4 ++ ([(⟨(w64 ((w64 (n + 1)) + r2.1)), r5.1, (w64 (360 + (w64 (5 * r6.1))))⟩ : Trip)] : List Trip))))
  else
   some (.dn (v1, v2, v3, v4))
noncomputable def zq57 (c : l1Cur) : Option (Timetable × l1Cur) :=
 (zq46 c).bind fun r =>
 (zq53 r.2 8).bind fun r1 =>
 (iter (zq57_L1 r) ((0 : Int), r1.1, r1.2.code_, r1.2.at_, r1.2.seed_.v, ([] : List Trip))).bind fun ((v5, v6, v7, v8) : (List UInt8) × Int × Int × (List Trip)) =>
 some ((⟨(⟨r.1.Stops, r.1.Lines⟩ : Network), v8⟩ : Timetable), (⟨v5, v6, (⟨v7⟩ : IK .u64)⟩ : l1Cur))
noncomputable def zq39 (c : l1Cur) (list : List Int) : Option (Int × l1Cur) :=
 (zq53 c (list.length : Int)).bind fun r =>
 (idx list r.1).bind fun e =>
 some (e, r.2)
noncomputable def zq50 (c : l1Cur) (list : List ByteArray) : Option (ByteArray × l1Cur) :=
 (zq53 c (list.length : Int)).bind fun r =>
 (idx list r.1).bind fun e =>
 some (e, r.2)
noncomputable def zq51 (c : l1Cur) (list : List ByteArray) : Option (ByteArray × l1Cur) :=
 (zq53 c (list.length : Int)).bind fun r =>
 (idx list r.1).bind fun e =>
 some (e, r.2)
noncomputable def zq81_L1 (n : Network) : Int × (List Line) → Option (Lp (Int × (List Line)) ((List Line)))
 | (v, v1) =>
  if (decide (v < (n.Lines.length : Int))) = true then
   (idx n.Lines v).bind fun e3 =>
   (idx n.Lines v).bind fun e4 =>
   (zq62 e4.Stops).bind fun r2 =>
   (idx n.Lines v).bind fun e5 =>
   (zq62 e5.Runs).bind fun r3 =>
   (chk (v1.length + ([(⟨e3.Name, r2, r3⟩ : Line)] : List Line).length ≤ 4294967296)).bind fun u2 =>
   some (.nx ((w64 (v + 1)), (v1 ++ ([(⟨e3.Name, r2, r3⟩ : Line)] : List Line))))
  else
   some (.dn v1)
noncomputable def zq81 (n : Network) : Option (Network) :=
 (chk (([] : List ByteArray).length + n.Stops.length ≤ 4294967296)).bind fun u =>
 (iter (zq81_L1 n) ((0 : Int), ([] : List Line))).bind fun (v2 : List Line) =>
 some (⟨(([] : List ByteArray) ++ n.Stops), v2⟩ : Network)
noncomputable def zq47_L1 (r : Int × l1Cur) : Int × (List UInt8) × Int × Int × (List Line) → Option (Lp (Int × (List UInt8) × Int × Int × (List Line)) ((List UInt8) × Int × Int × (List Line)))
 | (x, v, v1, v2, v3) =>
  if (decide (0 < x)) = true then
   (zq61 x).bind fun r4 =>
   (chk ((str [108]).size + r4.size ≤ 4294967296)).bind fun u3 =>
   (zq45 (⟨v, v1, (⟨v2⟩ : IK .u64)⟩ : l1Cur) ((str [108]) ++ r4) (w64 (2 + r.1))).bind fun r5 =>
   (chk (v3.length + ([r5.1] : List Line).length ≤ 4294967296)).bind fun u4 =>
   some (.nx ((w64 (x - 1)), r5.2.code_, r5.2.at_, r5.2.seed_.v, (v3 ++ ([r5.1] : List Line))))
  else
   some (.dn (v, v1, v2, v3))
noncomputable def zq47 (c : l1Cur) : Option (Network × l1Cur) :=
 (zq53 c 5).bind fun r =>
 (chk ((0 : Int) ≤ 0 ∧ 0 ≤ (w64 (2 + r.1)) ∧ (w64 (2 + r.1)) ≤ (([(str [112, 111, 114, 116]), (str [109, 105, 108, 108]), (str [112, 97, 114, 107]), (str [104, 97, 108, 108]), (str [100, 111, 99, 107]), (str [102, 97, 105, 114])] : List ByteArray).length : Int))).bind fun u =>
 (zq53 r.2 3).bind fun r1 =>
 (iter (zq47_L1 r) ((w64 (1 + r1.1)), r1.2.code_, r1.2.at_, r1.2.seed_.v, ([] : List Line))).bind fun ((v4, v5, v6, v7) : (List UInt8) × Int × Int × (List Line)) =>
 ((zq52 (⟨v4, v5, (⟨v6⟩ : IK .u64)⟩ : l1Cur) 2).bind fun r6 =>
 if r6.1 = true then
  (idx v7 0).bind fun e =>
  (zq74 e.Stops).bind fun r9 =>
  (zq74 e.Runs).bind fun r10 =>
  (chk (v7.length + ([(⟨(str [114, 49]), r9, r10⟩ : Line)] : List Line).length ≤ 4294967296)).bind fun u6 =>
  some (r6.2.code_, r6.2.at_, r6.2.seed_.v, (v7 ++ ([(⟨(str [114, 49]), r9, r10⟩ : Line)] : List Line)))
 else
  some (r6.2.code_, r6.2.at_, r6.2.seed_.v, v7)).bind fun ((v8, v9, v10, v11) : (List UInt8) × Int × Int × (List Line)) =>
 (zq81 (⟨((([(str [112, 111, 114, 116]), (str [109, 105, 108, 108]), (str [112, 97, 114, 107]), (str [104, 97, 108, 108]), (str [100, 111, 99, 107]), (str [102, 97, 105, 114])] : List ByteArray).take (w64 (2 + r.1)).toNat).drop (0 : Int).toNat), v11⟩ : Network)).bind fun r11 =>
 some ((⟨r11.Stops, r11.Lines⟩ : Network), (⟨v8, v9, (⟨v10⟩ : IK .u64)⟩ : l1Cur))
noncomputable def zq40 (c : l1Cur) (list : List Int) : Option (Int × l1Cur) :=
 (zq53 c (list.length : Int)).bind fun r =>
 (idx list r.1).bind fun e =>
 some (e, r.2)
noncomputable def zq41_L1 (r : Network × l1Cur) : Int × (List UInt8) × Int × Int × (List Line) → Option (Lp (Int × (List UInt8) × Int × Int × (List Line)) ((List UInt8) × Int × Int × (List Line)))
 | (v7, v8, v9, v10, v11) =>
  (zq53 (⟨v8, v9, (⟨v10⟩ : IK .u64)⟩ : l1Cur) 2).bind fun r16 =>
  (if (decide ((v11.length : Int) < (w64 (5 + r16.1)))) = true then some (decide (v7 < 7)) else some false).bind fun (v12 : Bool) =>
  if v12 = true then
   (zq61 v7).bind fun r19 =>
   (chk ((str [120]).size + r19.size ≤ 4294967296)).bind fun u3 =>
   (zq44 r16.2 ((str [120]) ++ r19) (r.1.Stops.length : Int)).bind fun r20 =>
   (chk (v11.length + ([(⟨r20.1.Name, r20.1.Stops, r20.1.Runs⟩ : Line)] : List Line).length ≤ 4294967296)).bind fun u4 =>
   some (.nx ((w64 (v7 + 1)), r20.2.code_, r20.2.at_, r20.2.seed_.v, (v11 ++ ([(⟨r20.1.Name, r20.1.Stops, r20.1.Runs⟩ : Line)] : List Line))))
  else
   some (.dn (r16.2.code_, r16.2.at_, r16.2.seed_.v, v11))
noncomputable def zq41 (c : l1Cur) : Option (Network × l1Cur) :=
 (zq47 c).bind fun r =>
 (zq53 r.2 (r.1.Lines.length : Int)).bind fun r1 =>
 (idx r.1.Lines r1.1).bind fun e =>
 flb ((zq53 r1.2 24).bind fun r2 =>
 if (r2.1 == 0) = true then
  (zq51 r2.2 ([(str [109, 105, 108, 108]), (str []), (str [65]), (str [97, 98, 99, 100, 101, 102, 103, 104]), (str [97, 98, 99, 100, 101, 102, 103, 104, 105])] : List ByteArray)).bind fun r4 =>
  (idx r.1.Stops 0).bind fun e2 =>
  some (.go (r4.2.code_, r4.2.at_, r4.2.seed_.v, e.Name, (r.1.Stops.set (0 : Int).toNat r4.1), r.1.Lines, e.Runs))
 else
  if (r2.1 == 1) = true then
   (zq51 r2.2 ([(str [114, 49]), (str [108, 49]), (str []), (str [88])] : List ByteArray)).bind fun r5 =>
   some (.go (r5.2.code_, r5.2.at_, r5.2.seed_.v, r5.1, r.1.Stops, r.1.Lines, e.Runs))
  else
   if (r2.1 == 2) = true then
    (zq53 r2.2 (e.Stops.length : Int)).bind fun r8 =>
    (zq53 r8.2 10).bind fun r9 =>
    (idx e.Stops r8.1).bind fun e4 =>
    some (.go (r9.2.code_, r9.2.at_, r9.2.seed_.v, e.Name, r.1.Stops, (r.1.Lines.set r1.1.toNat (⟨e.Name, (e.Stops.set r8.1.toNat (w64 (r9.1 - 1))), e.Runs⟩ : Line)), ((⟨e.Name, (e.Stops.set r8.1.toNat (w64 (r9.1 - 1))), e.Runs⟩ : Line).Runs)))
   else
    if (r2.1 == 3) = true then
     (zq53 r2.2 (e.Runs.length : Int)).bind fun r12 =>
     (zq40 r12.2 ([0, 60, 61, (-1)] : List Int)).bind fun r13 =>
     (idx e.Runs r12.1).bind fun e6 =>
     some (.go (r13.2.code_, r13.2.at_, r13.2.seed_.v, e.Name, r.1.Stops, (r.1.Lines.set r1.1.toNat (⟨e.Name, e.Stops, (e.Runs.set r12.1.toNat r13.1)⟩ : Line)), ((⟨e.Name, e.Stops, (e.Runs.set r12.1.toNat r13.1)⟩ : Line).Runs)))
    else
     if (r2.1 == 4) = true then
      (chk (e.Runs.length + ([3] : List Int).length ≤ 4294967296)).bind fun u =>
      some (.go (r2.2.code_, r2.2.at_, r2.2.seed_.v, e.Name, r.1.Stops, r.1.Lines, (e.Runs ++ ([3] : List Int))))
     else
      if (r2.1 == 5) = true then
       some (.ret ((⟨r.1.Stops, ([] : List Line)⟩ : Network), r2.2))
      else
       if (r2.1 == 6) = true then
        (iter (zq41_L1 r) ((0 : Int), r2.2.code_, r2.2.at_, r2.2.seed_.v, r.1.Lines)).bind fun ((v13, v14, v15, v16) : (List UInt8) × Int × Int × (List Line)) =>
        some (.ret ((⟨r.1.Stops, v16⟩ : Network), (⟨v13, v14, (⟨v15⟩ : IK .u64)⟩ : l1Cur)))
       else
        some (.go (r2.2.code_, r2.2.at_, r2.2.seed_.v, e.Name, r.1.Stops, r.1.Lines, e.Runs))) fun ((v, v1, v2, v3, v4, v5, v6) : (List UInt8) × Int × Int × ByteArray × (List ByteArray) × (List Line) × (List Int)) =>
 (idx v5 r1.1).bind fun e9 =>
 some ((⟨v4, (v5.set r1.1.toNat (⟨v3, e9.Stops, v6⟩ : Line))⟩ : Network), (⟨v, v1, (⟨v2⟩ : IK .u64)⟩ : l1Cur))
noncomputable def zq42_L1 : Int × (List UInt8) × Int × Int × (List Trip) → Option (Lp (Int × (List UInt8) × Int × Int × (List Trip)) ((List UInt8) × Int × Int × (List Trip)))
 | (v8, v9, v10, v11, v12) =>
  (zq53 (⟨v9, v10, (⟨v11⟩ : IK .u64)⟩ : l1Cur) 2).bind fun r8 =>
  (if (decide ((v12.length : Int) < (w64 (12 + r8.1)))) = true then some (decide (v8 < 14)) else some false).bind fun (v13 : Bool) =>
  if v13 = true then
   (chk (v12.length + ([(⟨(w64 (100 + v8)), 0, (w64 (400 + v8))⟩ : Trip)] : List Trip).length ≤ 4294967296)).bind fun u =>
   some (.nx ((w64 (v8 + 1)), r8.2.code_, r8.2.at_, r8.2.seed_.v, (v12 ++ ([(⟨(w64 (100 + v8)), 0, (w64 (400 + v8))⟩ : Trip)] : List Trip))))
  else
   some (.dn (r8.2.code_, r8.2.at_, r8.2.seed_.v, v12))
noncomputable def zq42 (c : l1Cur) : Option (Timetable × l1Cur) :=
 (zq57 c).bind fun r =>
 if ((r.1.Trips.length : Int) == 0) = true then
  some ((⟨(⟨r.1.Network.Stops, r.1.Network.Lines⟩ : Network), r.1.Trips⟩ : Timetable), r.2)
 else
  (zq53 r.2 (r.1.Trips.length : Int)).bind fun r1 =>
  (idx r.1.Trips r1.1).bind fun e =>
  flb ((zq53 r1.2 24).bind fun r2 =>
  if (r2.1 == 0) = true then
   (zq39 r2.2 ([0, 999, 1000, 2] : List Int)).bind fun r3 =>
   some (.go (r3.2.code_, r3.2.at_, r3.2.seed_.v, r.1.Network.Lines, r3.1, e.Line, e.Start, r.1.Network.Stops))
  else
   if (r2.1 == 1) = true then
    (zq53 r2.2 7).bind fun r4 =>
    some (.go (r4.2.code_, r4.2.at_, r4.2.seed_.v, r.1.Network.Lines, e.Id, (w64 (r4.1 - 1)), e.Start, r.1.Network.Stops))
   else
    if (r2.1 == 2) = true then
     (zq39 r2.2 ([(-1), 0, 1799, 1798, 1800] : List Int)).bind fun r5 =>
     some (.go (r5.2.code_, r5.2.at_, r5.2.seed_.v, r.1.Network.Lines, e.Id, e.Line, r5.1, r.1.Network.Stops))
    else
     if (r2.1 == 3) = true then
      (zq41 r2.2).bind fun r6 =>
      some (.go (r6.2.code_, r6.2.at_, r6.2.seed_.v, r6.1.Lines, e.Id, e.Line, e.Start, r6.1.Stops))
     else
      if (r2.1 == 4) = true then
       (iter (zq42_L1) ((0 : Int), r2.2.code_, r2.2.at_, r2.2.seed_.v, r.1.Trips)).bind fun ((v14, v15, v16, v17) : (List UInt8) × Int × Int × (List Trip)) =>
       some (.ret ((⟨(⟨r.1.Network.Stops, r.1.Network.Lines⟩ : Network), v17⟩ : Timetable), (⟨v14, v15, (⟨v16⟩ : IK .u64)⟩ : l1Cur)))
      else
       some (.go (r2.2.code_, r2.2.at_, r2.2.seed_.v, r.1.Network.Lines, e.Id, e.Line, e.Start, r.1.Network.Stops))) fun ((v, v1, v2, v3, v4, v5, v6, v7) : (List UInt8) × Int × Int × (List Line) × Int × Int × Int × (List ByteArray)) =>
  (idx r.1.Trips r1.1).bind fun e2 =>
  some ((⟨(⟨v7, v3⟩ : Network), (r.1.Trips.set r1.1.toNat (⟨v4, v5, v6⟩ : Trip))⟩ : Timetable), (⟨v, v1, (⟨v2⟩ : IK .u64)⟩ : l1Cur))
noncomputable def zq56 (c : l1Cur) : Option (Int × l1Cur) :=
 (zq52 c 16).bind fun r =>
 if r.1 = true then
  (zq39 r.2 ([0, 1799, 1800, (-1), 1440, 1439] : List Int)).bind fun r1 =>
  some (r1.1, r1.2)
 else
  (zq53 r.2 240).bind fun r2 =>
  some ((w64 (360 + r2.1)), r2.2)
noncomputable def zq49 (c : l1Cur) (t : Timetable) : Option (Int × l1Cur) :=
 (if (decide (0 < (t.Trips.length : Int))) = true then (zq52 c 6).bind fun r =>
 some ((!r.1), r.2.code_, r.2.at_, r.2.seed_.v) else some (false, c.code_, c.at_, c.seed_.v)).bind fun ((v, v1, v2, v3) : Bool × (List UInt8) × Int × Int) =>
 if v = true then
  (zq53 (⟨v1, v2, (⟨v3⟩ : IK .u64)⟩ : l1Cur) (t.Trips.length : Int)).bind fun r3 =>
  (idx t.Trips r3.1).bind fun e1 =>
  (zq53 r3.2 40).bind fun r4 =>
  some ((w64 ((w64 (e1.Start + r4.1)) - 10)), r4.2)
 else
  (zq56 (⟨v1, v2, (⟨v3⟩ : IK .u64)⟩ : l1Cur)).bind fun r5 =>
  some (r5.1, r5.2)
noncomputable def zq59 (x : Int) (a : Int) (b : Int) : Option (Bool) :=
 (if (decide (a ≤ x)) = true then some (decide (x ≤ b)) else some false).bind fun (v : Bool) =>
 some v
noncomputable def zq84 (t : Int) : Option (Bool) :=
 (zq59 t 0 1799).bind fun r =>
 some r
noncomputable def zq79_L1 (s : ByteArray) : Int → Option (Lp (Int) (Fl (Bool) (Unit)))
 | v1 =>
  if (decide (v1 < (s.size : Int))) = true then
   (chk ((0 : Int) ≤ v1 ∧ v1 < (s.size : Int))).bind fun u2 =>
   (if (decide (((s.data.toList.getD v1.toNat 0).toNat : Int) < 97)) = true then (chk ((0 : Int) ≤ v1 ∧ v1 < (s.size : Int))).bind fun u3 =>
   if (decide (((s.data.toList.getD v1.toNat 0).toNat : Int) < 48)) = true then some true else (chk ((0 : Int) ≤ v1 ∧ v1 < (s.size : Int))).bind fun u4 =>
   some (decide (57 < ((s.data.toList.getD v1.toNat 0).toNat : Int))) else (chk ((0 : Int) ≤ v1 ∧ v1 < (s.size : Int))).bind fun u5 =>
   if (decide (122 < ((s.data.toList.getD v1.toNat 0).toNat : Int))) = true then (chk ((0 : Int) ≤ v1 ∧ v1 < (s.size : Int))).bind fun u6 =>
   if (decide (((s.data.toList.getD v1.toNat 0).toNat : Int) < 48)) = true then some true else (chk ((0 : Int) ≤ v1 ∧ v1 < (s.size : Int))).bind fun u7 =>
   some (decide (57 < ((s.data.toList.getD v1.toNat 0).toNat : Int))) else some false).bind fun (v2 : Bool) =>
   if v2 = true then
    some (.dn (.ret false))
   else
    some (.nx (w64 (v1 + 1)))
  else
   some (.dn (.go ()))
noncomputable def zq79 (s : ByteArray) : Option (Bool) :=
 (zq59 (s.size : Int) 1 8).bind fun r =>
 (if (!r) = true then some true else (chk ((0 : Int) ≤ 0 ∧ 0 < (s.size : Int))).bind fun u =>
 if (decide (((s.data.toList.getD (0 : Int).toNat 0).toNat : Int) < 97)) = true then some true else (chk ((0 : Int) ≤ 0 ∧ 0 < (s.size : Int))).bind fun u1 =>
 some (decide (122 < ((s.data.toList.getD (0 : Int).toNat 0).toNat : Int)))).bind fun (v : Bool) =>
 if v = true then
  some false
 else
  flb (iter (zq79_L1 s) (0 : Int)) fun (_ : Unit) =>
  some true
noncomputable def zq75_L1 (list : List ByteArray) (name : ByteArray) : Int → Option (Lp (Int) (Fl (Int) (Unit)))
 | v =>
  if (decide (v < (list.length : Int))) = true then
   (idx list v).bind fun e =>
   if (e.toList == name.toList) = true then
    some (.dn (.ret v))
   else
    some (.nx (w64 (v + 1)))
  else
   some (.dn (.go ()))
noncomputable def zq75 (list : List ByteArray) (name : ByteArray) : Option (Int) :=
 flb (iter (zq75_L1 list name) (0 : Int)) fun (_ : Unit) =>
 some (-1)
noncomputable def zq77_L1 (x : Line) (stops : Int) : Int → Option (Lp (Int) (Fl (Bool) (Unit)))
 | v1 =>
  if (decide (v1 < (x.Stops.length : Int))) = true then
   (idx x.Stops v1).bind fun e2 =>
   (zq59 e2 0 (w64 (stops - 1))).bind fun r4 =>
   (if (!r4) = true then some true else (idx x.Stops v1).bind fun e3 =>
   (zq82 x e3).bind fun r5 =>
   some (r5 != v1)).bind fun (v2 : Bool) =>
   if v2 = true then
    some (.dn (.ret false))
   else
    some (.nx (w64 (v1 + 1)))
  else
   some (.dn (.go ()))
noncomputable def zq77_L2 (x : Line) : Int → Option (Lp (Int) (Fl (Bool) (Unit)))
 | v3 =>
  if (decide (v3 < (x.Runs.length : Int))) = true then
   (idx x.Runs v3).bind fun e5 =>
   (zq59 e5 1 60).bind fun r7 =>
   if (!r7) = true then
    some (.dn (.ret false))
   else
    some (.nx (w64 (v3 + 1)))
  else
   some (.dn (.go ()))
noncomputable def zq77 (x : Line) (stops : Int) : Option (Bool) :=
 (zq79 x.Name).bind fun r =>
 (if (!r) = true then some true else (zq59 (x.Stops.length : Int) 2 6).bind fun r1 =>
 if (!r1) = true then some true else some ((x.Runs.length : Int) != (w64 ((x.Stops.length : Int) - 1)))).bind fun (v : Bool) =>
 if v = true then
  some false
 else
  flb (iter (zq77_L1 x stops) (0 : Int)) fun (_ : Unit) =>
  flb (iter (zq77_L2 x) (0 : Int)) fun (_ : Unit) =>
  some true
noncomputable def zq78_L1 (n : Network) (name : ByteArray) : Int → Option (Lp (Int) (Fl (Int) (Unit)))
 | v =>
  if (decide (v < (n.Lines.length : Int))) = true then
   (idx n.Lines v).bind fun e =>
   if (e.Name.toList == name.toList) = true then
    some (.dn (.ret v))
   else
    some (.nx (w64 (v + 1)))
  else
   some (.dn (.go ()))
noncomputable def zq78 (n : Network) (name : ByteArray) : Option (Int) :=
 flb (iter (zq78_L1 n name) (0 : Int)) fun (_ : Unit) =>
 some (-1)
noncomputable def zq76_L1 (n : Network) : Int → Option (Lp (Int) (Fl (Bool) (Unit)))
 | i =>
  if (decide (i < (n.Stops.length : Int))) = true then
   (idx n.Stops i).bind fun e2 =>
   (zq79 e2).bind fun r4 =>
   (if (!r4) = true then some true else (idx n.Stops i).bind fun e3 =>
   (zq75 n.Stops e3).bind fun r5 =>
   some (r5 != i)).bind fun (v1 : Bool) =>
   if v1 = true then
    some (.dn (.ret false))
   else
    some (.nx (w64 (i + 1)))
  else
   some (.dn (.go ()))
noncomputable def zq76_L2 (n : Network) : Int → Option (Lp (Int) (Fl (Bool) (Unit)))
 | v2 =>
  if (decide (v2 < (n.Lines.length : Int))) = true then
   (idx n.Lines v2).bind fun e7 =>
   (zq77 e7 (n.Stops.length : Int)).bind fun r9 =>
   (if (!r9) = true then some true else (idx n.Lines v2).bind fun e8 =>
   (zq78 n e8.Name).bind fun r10 =>
   some (r10 != v2)).bind fun (v3 : Bool) =>
   if v3 = true then
    some (.dn (.ret false))
   else
    some (.nx (w64 (v2 + 1)))
  else
   some (.dn (.go ()))
noncomputable def zq76 (n : Network) : Option (Bool) :=
 (zq59 (n.Stops.length : Int) 2 8).bind fun r =>
 (if (!r) = true then some true else (zq59 (n.Lines.length : Int) 1 5).bind fun r1 =>
 some (!r1)).bind fun (v : Bool) =>
 if v = true then
  some false
 else
  flb (iter (zq76_L1 n) (0 : Int)) fun (_ : Unit) =>
  flb (iter (zq76_L2 n) (0 : Int)) fun (_ : Unit) =>
  some true
noncomputable def zq88 (t : Timetable) (i : Int) : Option (Line) :=
 (idx t.Trips i).bind fun e2 =>
 (idx t.Network.Lines e2.Line).bind fun e3 =>
 some e3
noncomputable def zq89 (t : Timetable) (i : Int) : Option ((List Int)) :=
 (zq88 t i).bind fun r =>
 some r.Stops
noncomputable def zq83_L1 (x : Line) (to : Int) : Int × Int → Option (Lp (Int × Int) (Int))
 | (v, v1) =>
  if (decide (v1 < to)) = true then
   (idx x.Runs v1).bind fun e =>
   some (.nx ((w64 (v + e)), (w64 (v1 + 1))))
  else
   some (.dn v)
noncomputable def zq83 (x : Line) (from_ : Int) (to : Int) : Option (Int) :=
 (iter (zq83_L1 x to) ((0 : Int), from_)).bind fun (v2 : Int) =>
 some v2
noncomputable def zq85 (t : Timetable) (i : Int) (k : Int) : Option (Int) :=
 (idx t.Trips i).bind fun e1 =>
 (zq88 t i).bind fun r2 =>
 (zq83 r2 0 k).bind fun r3 =>
 some (w64 (e1.Start + r3))
noncomputable def zq86 (t : Timetable) (i : Int) : Option (Int) :=
 (zq89 t i).bind fun r2 =>
 (zq85 t i (w64 ((r2.length : Int) - 1))).bind fun r3 =>
 some r3
noncomputable def zq87_L1 (t : Timetable) : Int → Option (Lp (Int) (Fl (Bool) (Unit)))
 | x =>
  if (decide (x < (t.Trips.length : Int))) = true then
   (idx t.Trips x).bind fun e =>
   (zq59 e.Id 1 999).bind fun r6 =>
   (if (!r6) = true then some true else (zq59 e.Line 0 (w64 ((t.Network.Lines.length : Int) - 1))).bind fun r7 =>
   if (!r7) = true then some true else (zq84 e.Start).bind fun r8 =>
   if (!r8) = true then some true else (zq86 t x).bind fun r9 =>
   (zq84 r9).bind fun r10 =>
   if (!r10) = true then some true else if (decide (0 < x)) = true then (idx t.Trips (w64 (x - 1))).bind fun e2 =>
   some (decide (e.Id ≤ e2.Id)) else some false).bind fun (v1 : Bool) =>
   if v1 = true then
    some (.dn (.ret false))
   else
    some (.nx (w64 (x + 1)))
  else
   some (.dn (.go ()))
noncomputable def zq87 (t : Timetable) : Option (Bool) :=
 (zq76 t.Network).bind fun r =>
 (if (!r) = true then some true else some (decide (12 < (t.Trips.length : Int)))).bind fun (v : Bool) =>
 if v = true then
  some false
 else
  flb (iter (zq87_L1 t) (0 : Int)) fun (_ : Unit) =>
  some true
noncomputable def zq70 (x : Line) : Option (Int) :=
 (zq83 x 0 (w64 ((x.Stops.length : Int) - 1))).bind fun r =>
 some r
noncomputable def zq54 (c : l1Cur) (t : Timetable) (vehicle : Int) (time : Int) : Option (Report × l1Cur) :=
 if ((t.Network.Lines.length : Int) == 0) = true then
  some ((⟨vehicle, time, 0, 0⟩ : Report), c)
 else
  (zq53 c (t.Network.Lines.length : Int)).bind fun r =>
  ((if (decide (0 < (t.Trips.length : Int))) = true then (zq87 t).bind fun r1 =>
  if r1 = true then (zq52 r.2 6).bind fun r2 =>
  some ((!r2.1), r2.2.code_, r2.2.at_, r2.2.seed_.v) else some (false, r.2.code_, r.2.at_, r.2.seed_.v) else some (false, r.2.code_, r.2.at_, r.2.seed_.v)).bind fun ((v4, v5, v6, v7) : Bool × (List UInt8) × Int × Int) =>
  if v4 = true then
   (zq53 (⟨v5, v6, (⟨v7⟩ : IK .u64)⟩ : l1Cur) (t.Trips.length : Int)).bind fun r4 =>
   (idx t.Trips r4.1).bind fun e1 =>
   some (r4.2.code_, r4.2.at_, r4.2.seed_.v, e1.Line)
  else
   some (v5, v6, v7, r.1)).bind fun ((v, v1, v2, v3) : (List UInt8) × Int × Int × Int) =>
  ((zq76 t.Network).bind fun r5 =>
  if r5 = true then
   (idx t.Network.Lines v3).bind fun e2 =>
   (zq70 e2).bind fun r6 =>
   (zq53 (⟨v, v1, (⟨v2⟩ : IK .u64)⟩ : l1Cur) (w64 (r6 + 1))).bind fun r7 =>
   some (r7.2.code_, r7.2.at_, r7.2.seed_.v, r7.1)
  else
   some (v, v1, v2, (0 : Int))).bind fun ((v8, v9, v10, v11) : (List UInt8) × Int × Int × Int) =>
  some ((⟨vehicle, time, v3, v11⟩ : Report), (⟨v8, v9, (⟨v10⟩ : IK .u64)⟩ : l1Cur))
noncomputable def zq55_L1 (t : Timetable) : Int × Int × Int × (List UInt8) × Int × Int × (List Report) → Option (Lp (Int × Int × Int × (List UInt8) × Int × Int × (List Report)) ((List UInt8) × Int × Int × (List Report)))
 | (n, k, x, v, v1, v2, v3) =>
  (if (decide (0 < x)) = true then (zq84 n).bind fun r2 =>
  some r2 else some false).bind fun (v4 : Bool) =>
  if v4 = true then
   ((zq53 (⟨v, v1, (⟨v2⟩ : IK .u64)⟩ : l1Cur) 2).bind fun r3 =>
   (zq54 r3.2 t (w64 ((w64 (k + 1)) + r3.1)) n).bind fun r4 =>
   (chk (v3.length + ([r4.1] : List Report).length ≤ 4294967296)).bind fun u =>
   (zq52 r4.2 3).bind fun r5 =>
   if r5.1 = true then
    (zq39 r5.2 ([1, 5, 10] : List Int)).bind fun r6 =>
    some ((w64 (n + r6.1)), (0 : Int), r6.2.code_, r6.2.at_, r6.2.seed_.v, (v3 ++ ([r4.1] : List Report)))
   else
    some (n, (w64 ((w64 (k + 1)) + r3.1)), r5.2.code_, r5.2.at_, r5.2.seed_.v, (v3 ++ ([r4.1] : List Report)))).bind fun ((n1, k1, v5, v6, v7, v8) : Int × Int × (List UInt8) × Int × Int × (List Report)) =>
   some (.nx (n1, k1, (w64 (x - 1)), v5, v6, v7, v8))
  else
   some (.dn (v, v1, v2, v3))
noncomputable def zq55 (c : l1Cur) (t : Timetable) : Option ((List Report) × l1Cur) :=
 (zq49 c t).bind fun r =>
 (zq53 r.2 7).bind fun r1 =>
 (iter (zq55_L1 t) (r.1, (0 : Int), r1.1, r1.2.code_, r1.2.at_, r1.2.seed_.v, ([] : List Report))).bind fun ((v9, v10, v11, v12) : (List UInt8) × Int × Int × (List Report)) =>
 if ((v12.length : Int) == 0) = true then
  some (v12, (⟨v9, v10, (⟨v11⟩ : IK .u64)⟩ : l1Cur))
 else
  (zq53 (⟨v9, v10, (⟨v11⟩ : IK .u64)⟩ : l1Cur) (v12.length : Int)).bind fun r7 =>
  (idx v12 r7.1).bind fun e =>
  ((zq53 r7.2 40).bind fun r8 =>
  if (r8.1 == 0) = true then
   (zq39 r8.2 ([0, 99, 100] : List Int)).bind fun r9 =>
   some (r9.2.code_, r9.2.at_, r9.2.seed_.v, r9.1, e.Line, e.Done)
  else
   if (r8.1 == 1) = true then
    (zq39 r8.2 ([(-1), 5] : List Int)).bind fun r10 =>
    some (r10.2.code_, r10.2.at_, r10.2.seed_.v, e.Vehicle, r10.1, e.Done)
   else
    if (r8.1 == 2) = true then
     (zq39 r8.2 ([(-1), 301] : List Int)).bind fun r11 =>
     some (r11.2.code_, r11.2.at_, r11.2.seed_.v, e.Vehicle, e.Line, r11.1)
    else
     some (r8.2.code_, r8.2.at_, r8.2.seed_.v, e.Vehicle, e.Line, e.Done)).bind fun ((v13, v14, v15, v16, v17, v18) : (List UInt8) × Int × Int × Int × Int × Int) =>
  (idx v12 r7.1).bind fun e1 =>
  some ((v12.set r7.1.toNat (⟨v16, e.Time, v17, v18⟩ : Report)), (⟨v13, v14, (⟨v15⟩ : IK .u64)⟩ : l1Cur))
noncomputable def zq43 (c : l1Cur) : Option (Int × l1Cur) :=
 (zq53 c 24).bind fun r =>
 (chk ((11 : Int) ≠ 0)).bind fun u =>
 (chk ((0 : Int) ≤ 0 ∧ 0 ≤ (w64 (5 + (w64 (r.1.tdiv 11)))) ∧ (w64 (5 + (w64 (r.1.tdiv 11)))) ≤ (([0, 5, 20, 60, 1799, (-1), 1800] : List Int).length : Int))).bind fun u1 =>
 (zq39 r.2 ((([0, 5, 20, 60, 1799, (-1), 1800] : List Int).take (w64 (5 + (w64 (r.1.tdiv 11)))).toNat).drop (0 : Int).toNat)).bind fun r1 =>
 some (r1.1, r1.2)
noncomputable def zq35 (code : List UInt8) : Option (Timetable × (List Report) × Int) :=
 (zq42 (⟨code, 0, (⟨0⟩ : IK .u64)⟩ : l1Cur)).bind fun r =>
 (zq55 r.2 r.1).bind fun r1 =>
 (zq43 r1.2).bind fun r3 =>
 some (r.1, r1.1, r3.1)
noncomputable def zq32 (n : Int) (lo : Int) (hi : Int) : Option (Bool) :=
 (if (decide (lo ≤ n)) = true then some (decide (n ≤ hi)) else some false).bind fun (v : Bool) =>
 some v
noncomputable def zq21_L1 (s : ByteArray) : Int → Option (Lp (Int) (Fl (Bool) (Unit)))
 | v1 =>
  if (decide (v1 < (s.size : Int))) = true then
   (chk ((0 : Int) ≤ v1 ∧ v1 < (s.size : Int))).bind fun u =>
   (if (decide (97 ≤ ((s.data.toList.getD v1.toNat 0).toNat : Int))) = true then (chk ((0 : Int) ≤ v1 ∧ v1 < (s.size : Int))).bind fun u1 =>
   some (decide (((s.data.toList.getD v1.toNat 0).toNat : Int) ≤ 122)) else some false).bind fun (v2 : Bool) =>
   (if (!v2) = true then if (v1 == 0) = true then some true else (chk ((0 : Int) ≤ v1 ∧ v1 < (s.size : Int))).bind fun u2 =>
   if (decide (((s.data.toList.getD v1.toNat 0).toNat : Int) < 48)) = true then some true else (chk ((0 : Int) ≤ v1 ∧ v1 < (s.size : Int))).bind fun u3 =>
   some (decide (57 < ((s.data.toList.getD v1.toNat 0).toNat : Int))) else some false).bind fun (v3 : Bool) =>
   if v3 = true then
    some (.dn (.ret false))
   else
    some (.nx (w64 (v1 + 1)))
  else
   some (.dn (.go ()))
noncomputable def zq21 (s : ByteArray) : Option (Bool) :=
 (if (decide ((s.size : Int) < 1)) = true then some true else some (decide (8 < (s.size : Int)))).bind fun (v : Bool) =>
 if v = true then
  some false
 else
  flb (iter (zq21_L1 s) (0 : Int)) fun (_ : Unit) =>
  some true
noncomputable def zq99_L1 (s : List ByteArray) (v : ByteArray) : Int → Option (Lp (Int) (Fl (Int) (Unit)))
 | v1 =>
  if (decide (v1 < (s.length : Int))) = true then
   (idx s v1).bind fun e =>
   if (v.toList == e.toList) = true then
    some (.dn (.ret v1))
   else
    some (.nx (w64 (v1 + 1)))
  else
   some (.dn (.go ()))
noncomputable def zq99 (s : List ByteArray) (v : ByteArray) : Option (Int) :=
 flb (iter (zq99_L1 s v) (0 : Int)) fun (_ : Unit) =>
 some (-1)
noncomputable def zq14_L1 (names : List ByteArray) : Int → Option (Lp (Int) (Fl (Bool) (Unit)))
 | v =>
  if (decide (v < (names.length : Int))) = true then
   (idx names v).bind fun e =>
   (zq21 e).bind fun r =>
   (if (!r) = true then some true else (zq99 names e).bind fun r1 =>
   some (r1 != v)).bind fun (v1 : Bool) =>
   if v1 = true then
    some (.dn (.ret false))
   else
    some (.nx (w64 (v + 1)))
  else
   some (.dn (.go ()))
noncomputable def zq14 (names : List ByteArray) : Option (Bool) :=
 flb (iter (zq14_L1 names) (0 : Int)) fun (_ : Unit) =>
 some true
noncomputable def zq26_L1 (n : Network) : Int × (List ByteArray) → Option (Lp (Int × (List ByteArray)) ((List ByteArray)))
 | (v, i) =>
  if (decide (v < (n.Lines.length : Int))) = true then
   (idx n.Lines v).bind fun e =>
   (idx i v).bind fun e1 =>
   some (.nx ((w64 (v + 1)), (i.set v.toNat e.Name)))
  else
   some (.dn i)
noncomputable def zq26 (n : Network) : Option ((List ByteArray)) :=
 (chk ((0 : Int) ≤ (n.Lines.length : Int) ∧ ((n.Lines.length : Int) : Int) ≤ 4294967296)).bind fun u =>
 (iter (zq26_L1 n) ((0 : Int), (List.replicate (n.Lines.length : Int).toNat (ByteArray.empty : ByteArray)))).bind fun (i1 : List ByteArray) =>
 some i1
noncomputable def zq23 (n : Network) (stop : Int) : Option (Bool) :=
 (if (decide (0 ≤ stop)) = true then some (decide (stop < (n.Stops.length : Int))) else some false).bind fun (v : Bool) =>
 some v
noncomputable def zq98_L1 (s : List Int) (v : Int) : Int → Option (Lp (Int) (Fl (Int) (Unit)))
 | v1 =>
  if (decide (v1 < (s.length : Int))) = true then
   (idx s v1).bind fun e =>
   if (v == e) = true then
    some (.dn (.ret v1))
   else
    some (.nx (w64 (v1 + 1)))
  else
   some (.dn (.go ()))
noncomputable def zq98 (s : List Int) (v : Int) : Option (Int) :=
 flb (iter (zq98_L1 s v) (0 : Int)) fun (_ : Unit) =>
 some (-1)
noncomputable def zq24_L1 (n : Network) (l : Line) : Int → Option (Lp (Int) (Fl (Bool) (Unit)))
 | v1 =>
  if (decide (v1 < (l.Stops.length : Int))) = true then
   (idx l.Stops v1).bind fun e =>
   (zq23 n e).bind fun r1 =>
   (if (!r1) = true then some true else (zq98 l.Stops e).bind fun r2 =>
   some (r2 != v1)).bind fun (v2 : Bool) =>
   if v2 = true then
    some (.dn (.ret false))
   else
    some (.nx (w64 (v1 + 1)))
  else
   some (.dn (.go ()))
noncomputable def zq24_L2 (l : Line) : Int → Option (Lp (Int) (Fl (Bool) (Unit)))
 | v3 =>
  if (decide (v3 < (l.Runs.length : Int))) = true then
   (idx l.Runs v3).bind fun e2 =>
   (zq32 e2 1 60).bind fun r4 =>
   if (!r4) = true then
    some (.dn (.ret false))
   else
    some (.nx (w64 (v3 + 1)))
  else
   some (.dn (.go ()))
noncomputable def zq24 (n : Network) (l : Line) : Option (Bool) :=
 (zq32 (l.Stops.length : Int) 2 6).bind fun r =>
 (if (!r) = true then some true else some ((l.Runs.length : Int) != (w64 ((l.Stops.length : Int) - 1)))).bind fun (v : Bool) =>
 if v = true then
  some false
 else
  flb (iter (zq24_L1 n l) (0 : Int)) fun (_ : Unit) =>
  flb (iter (zq24_L2 l) (0 : Int)) fun (_ : Unit) =>
  some true
noncomputable def zq3_L1 (n : Network) : Int → Option (Lp (Int) (Fl (Bool) (Unit)))
 | v1 =>
  if (decide (v1 < (n.Lines.length : Int))) = true then
   (idx n.Lines v1).bind fun e =>
   (zq24 n e).bind fun r5 =>
   if (!r5) = true then
    some (.dn (.ret false))
   else
    some (.nx (w64 (v1 + 1)))
  else
   some (.dn (.go ()))
noncomputable def zq3 (n : Network) : Option (Bool) :=
 (zq32 (n.Stops.length : Int) 2 8).bind fun r =>
 (if (!r) = true then some true else (zq32 (n.Lines.length : Int) 1 5).bind fun r1 =>
 if (!r1) = true then some true else (zq14 n.Stops).bind fun r2 =>
 if (!r2) = true then some true else (zq26 n).bind fun r3 =>
 (zq14 r3).bind fun r4 =>
 some (!r4)).bind fun (v : Bool) =>
 if v = true then
  some false
 else
  flb (iter (zq3_L1 n) (0 : Int)) fun (_ : Unit) =>
  some true
noncomputable def zq20 (n : Network) (line : Int) : Option (Bool) :=
 (if (decide (0 ≤ line)) = true then some (decide (line < (n.Lines.length : Int))) else some false).bind fun (v : Bool) =>
 some v
noncomputable def zq5 (t : Int) : Option (Bool) :=
 (zq32 t 0 1799).bind fun r =>
 some r
noncomputable def zq31_L1 (list : List Int) : Int × Int → Option (Lp (Int × Int) (Int))
 | (v, v1) =>
  if (decide (v1 < (list.length : Int))) = true then
   (idx list v1).bind fun e =>
   some (.nx ((w64 (v + e)), (w64 (v1 + 1))))
  else
   some (.dn v)
noncomputable def zq31 (list : List Int) : Option (Int) :=
 (iter (zq31_L1 list) ((0 : Int), (0 : Int))).bind fun (v2 : Int) =>
 some v2
noncomputable def zq17 (t : Timetable) (x : Trip) : Option (Int) :=
 (idx t.Network.Lines x.Line).bind fun e1 =>
 (zq31 e1.Runs).bind fun r1 =>
 some (w64 (x.Start + r1))
noncomputable def zq16_L1 (t : Timetable) : Int × Int → Option (Lp (Int × Int) (Fl (Bool) (Unit)))
 | (v, v1) =>
  if (decide (v1 < (t.Trips.length : Int))) = true then
   (idx t.Trips v1).bind fun e =>
   (if (decide (e.Id ≤ v)) = true then some true else if (decide (999 < e.Id)) = true then some true else (zq20 t.Network e.Line).bind fun r =>
   if (!r) = true then some true else (zq5 e.Start).bind fun r1 =>
   if (!r1) = true then some true else (zq17 t e).bind fun r2 =>
   (zq5 r2).bind fun r3 =>
   some (!r3)).bind fun (v2 : Bool) =>
   if v2 = true then
    some (.dn (.ret false))
   else
    some (.nx (e.Id, (w64 (v1 + 1))))
  else
   some (.dn (.go ()))
noncomputable def zq16 (t : Timetable) : Option (Bool) :=
 if (decide (12 < (t.Trips.length : Int))) = true then
  some false
 else
  flb (iter (zq16_L1 t) ((0 : Int), (0 : Int))) fun (_ : Unit) =>
  some true
noncomputable def zq6 (t : Timetable) : Option (Bool) :=
 (zq3 t.Network).bind fun r =>
 (if r = true then (zq16 t).bind fun r1 =>
 some r1 else some false).bind fun (v : Bool) =>
 some v
noncomputable def zq22 (t : Timetable) (r : Report) : Option (Bool) :=
 (zq32 r.Vehicle 1 99).bind fun r6 =>
 (if r6 = true then (zq5 r.Time).bind fun r7 =>
 if r7 = true then (zq20 t.Network r.Line).bind fun r8 =>
 if r8 = true then (idx t.Network.Lines r.Line).bind fun e1 =>
 (zq31 e1.Runs).bind fun r9 =>
 (zq32 r.Done 0 r9).bind fun r10 =>
 some r10 else some false else some false else some false).bind fun (v : Bool) =>
 some v
noncomputable def zq2 (x : Int) : Option (Bool) :=
 some (x != x)
noncomputable def zq0 (x : Int) (y_ : Int) : Option (Int) :=
 (zq2 x).bind fun r =>
 (zq2 y_).bind fun r1 =>
 if r = true then
  if r1 = true then
   some 0
  else
   some (-1)
 else
  if r1 = true then
   some 1
  else
   if (decide (x < y_)) = true then
    some (-1)
   else
    if (decide (y_ < x)) = true then
     some 1
    else
     some 0
noncomputable def zq1_L1 (vals : List Int) : Int → Option (Lp (Int) (Fl (Int) (Unit)))
 | v =>
  if (decide (v < (vals.length : Int))) = true then
   (idx vals v).bind fun e =>
   if (e != 0) = true then
    some (.dn (.ret e))
   else
    some (.nx (w64 (v + 1)))
  else
   some (.dn (.go ()))
noncomputable def zq1 (vals : List Int) : Option (Int) :=
 flb (iter (zq1_L1 vals) (0 : Int)) fun (_ : Unit) =>
 some 0
noncomputable def zq15_L1 (t : Timetable) (list : List Report) : Int → Option (Lp (Int) (Fl (Bool) (Unit)))
 | v =>
  if (decide (v < (list.length : Int))) = true then
   (idx list v).bind fun e =>
   (zq22 t e).bind fun r4 =>
   (if (!r4) = true then some true else if (decide (0 < v)) = true then (idx list (w64 (v - 1))).bind fun e3 =>
   (zq0 e3.Time e.Time).bind fun r5 =>
   (idx list (w64 (v - 1))).bind fun e4 =>
   (zq0 e4.Vehicle e.Vehicle).bind fun r6 =>
   (zq1 ([r5, r6] : List Int)).bind fun r7 =>
   some (decide (0 ≤ r7)) else some false).bind fun (v1 : Bool) =>
   if v1 = true then
    some (.dn (.ret false))
   else
    some (.nx (w64 (v + 1)))
  else
   some (.dn (.go ()))
noncomputable def zq15 (t : Timetable) (list : List Report) : Option (Bool) :=
 if (decide (20 < (list.length : Int))) = true then
  some false
 else
  flb (iter (zq15_L1 t list) (0 : Int)) fun (_ : Unit) =>
  some true
noncomputable def zq4 (t : Timetable) (list : List Report) : Option (Bool) :=
 (zq6 t).bind fun r =>
 (if r = true then (zq15 t list).bind fun r1 =>
 some r1 else some false).bind fun (v : Bool) =>
 some v
noncomputable def zq13 (t : Timetable) (list : List Report) (limit : Int) : Option (Bool) :=
 (zq4 t list).bind fun r =>
 (if r = true then (zq5 limit).bind fun r1 =>
 some r1 else some false).bind fun (v : Bool) =>
 some v
noncomputable def zq25_L1 (list : List Report) : Int × (List Report) → Option (Lp (Int × (List Report)) ((List Report)))
 | (v, v1) =>
  if (decide (v < (list.length : Int))) = true then
   (idx list v).bind fun e =>
   (chk ((0 : Int) ≤ e.Vehicle ∧ e.Vehicle < 100)).bind fun u =>
   (idx v1 e.Vehicle).bind fun e1 =>
   some (.nx ((w64 (v + 1)), (v1.set e.Vehicle.toNat e)))
  else
   some (.dn v1)
noncomputable def zq25_L2 (v2 : List Report) : Int × (List Report) → Option (Lp (Int × (List Report)) ((List Report)))
 | (v3, v4) =>
  if (decide (v3 < 100)) = true then
   ((chk ((0 : Int) ≤ v3 ∧ v3 < 100)).bind fun u2 =>
   (idx v2 v3).bind fun e2 =>
   if (decide (0 < e2.Vehicle)) = true then
    (chk (v4.length + ([e2] : List Report).length ≤ 4294967296)).bind fun u3 =>
    some (v4 ++ ([e2] : List Report))
   else
    some v4).bind fun (v5 : List Report) =>
   some (.nx ((w64 (v3 + 1)), v5))
  else
   some (.dn v4)
noncomputable def zq25 (list : List Report) : Option ((List Report)) :=
 (iter (zq25_L1 list) ((0 : Int), (List.replicate 100 ((⟨0, 0, 0, 0⟩ : Report) : Report)))).bind fun (v2 : List Report) =>
 (chk (v2.length = 100)).bind fun u1 =>
 (iter (zq25_L2 v2) ((0 : Int), ([] : List Report))).bind fun (v6 : List Report) =>
 some v6
noncomputable def zq12 (n : Int) : Option (Int) :=
 some (if (w64 (0 - n)) > n then (w64 (0 - n)) else n)
noncomputable def zq19 (a : Match) (b : Match) : Option (Int) :=
 (zq12 a.Delay).bind fun r5 =>
 (zq12 b.Delay).bind fun r6 =>
 (zq0 r5 r6).bind fun r7 =>
 (zq0 a.Delay b.Delay).bind fun r8 =>
 (zq1 ([r7, r8] : List Int)).bind fun r9 =>
 some r9
noncomputable def zq112_L1 (a : Int) (cmp : Match → Match → Option (Int)) : Int × (List Match) → Option (Lp (Int × (List Match)) ((List Match)))
 | (v1, data2) =>
  (if (decide (a < v1)) = true then (idx data2 v1).bind fun e2 =>
  (idx data2 (w64 (v1 - 1))).bind fun e3 =>
  (cmp e2 e3).bind fun r1 =>
  some (decide (r1 < 0)) else some false).bind fun (v2 : Bool) =>
  if v2 = true then
   (idx data2 (w64 (v1 - 1))).bind fun e8 =>
   (idx data2 v1).bind fun e9 =>
   (idx data2 v1).bind fun e10 =>
   (idx (data2.set v1.toNat e8) (w64 (v1 - 1))).bind fun e11 =>
   some (.nx ((w64 (v1 - 1)), ((data2.set v1.toNat e8).set (w64 (v1 - 1)).toNat e9)))
  else
   some (.dn data2)
noncomputable def zq112_L2 (a : Int) (b : Int) (cmp : Match → Match → Option (Int)) : Int × (List Match) → Option (Lp (Int × (List Match)) ((List Match)))
 | (v, data1) =>
  if (decide (v < b)) = true then
   (iter (zq112_L1 a cmp) (v, data1)).bind fun (data3 : List Match) =>
   some (.nx ((w64 (v + 1)), data3))
  else
   some (.dn data1)
noncomputable def zq112 (data : List Match) (a : Int) (b : Int) (cmp : Match → Match → Option (Int)) : Option ((List Match)) :=
 iter (zq112_L2 a b cmp) ((w64 (a + 1)), data)
noncomputable def zq113 (data : List Match) (a : Int) (b : Int) : Option ((List Match)) :=
 zq112 data a b (fun (z0 : Match) (z1 : Match) => zq19 z0 z1)
noncomputable def zq146_L1 (a : Int) (b : Int) (n : Int) : Int × (List Match) → Option (Lp (Int × (List Match)) ((List Match)))
 | (v, data1) =>
  if (decide (v < n)) = true then
   (idx data1 (w64 (b + v))).bind fun e4 =>
   (idx data1 (w64 (a + v))).bind fun e5 =>
   (idx data1 (w64 (a + v))).bind fun e6 =>
   (idx (data1.set (w64 (a + v)).toNat e4) (w64 (b + v))).bind fun e7 =>
   some (.nx ((w64 (v + 1)), ((data1.set (w64 (a + v)).toNat e4).set (w64 (b + v)).toNat e5)))
  else
   some (.dn data1)
noncomputable def zq146 (data : List Match) (a : Int) (b : Int) (n : Int) (cmp : Match → Match → Option (Int)) : Option ((List Match)) :=
 iter (zq146_L1 a b n) ((0 : Int), data)
noncomputable def zq147 (data : List Match) (a : Int) (b : Int) (n : Int) : Option ((List Match)) :=
 zq146 data a b n (fun (z0 : Match) (z1 : Match) => zq19 z0 z1)
noncomputable def zq140_L1 (m : Int) (cmp : Match → Match → Option (Int)) : Int × Int × (List Match) → Option (Lp (Int × Int × (List Match)) (Int × (List Match)))
 | (v, v1, data1) =>
  if (v != v1) = true then
   if (decide (v1 < v)) = true then
    (zq146 data1 (w64 (m - v)) m v1 cmp).bind fun r =>
    some (.nx ((w64 (v - v1)), v1, r))
   else
    (zq146 data1 (w64 (m - v)) (w64 ((w64 (m + v1)) - v)) v cmp).bind fun r1 =>
    some (.nx (v, (w64 (v1 - v)), r1))
  else
   some (.dn (v, data1))
noncomputable def zq140 (data : List Match) (a : Int) (m : Int) (b : Int) (cmp : Match → Match → Option (Int)) : Option ((List Match)) :=
 (iter (zq140_L1 m cmp) ((w64 (m - a)), (w64 (b - m)), data)).bind fun ((v2, data2) : Int × (List Match)) =>
 (zq146 data2 (w64 (m - v2)) m v2 cmp).bind fun r2 =>
 some r2
noncomputable def zq141 (data : List Match) (a : Int) (m : Int) (b : Int) : Option ((List Match)) :=
 zq140 data a m b (fun (z0 : Match) (z1 : Match) => zq19 z0 z1)
noncomputable def zq148_L1 (data : List Match) (a : Int) : Int × Int → Option (Lp (Int × Int) (Int))
 | (j, h) =>
  if (decide (j < h)) = true then
   (chk ((0 : Int) ≤ 1)).bind fun u =>
   (idx data (w64 (((IntKind.u64.wrap ((w64 (j + h)))).fdiv (2 ^ (min (1 : Int).toNat (IntKind.u64).bits)))))).bind fun e2 =>
   (idx data a).bind fun e3 =>
   (zq19 e2 e3).bind fun r1 =>
   if (decide (r1 < 0)) = true then
    some (.nx ((w64 ((w64 (((IntKind.u64.wrap ((w64 (j + h)))).fdiv (2 ^ (min (1 : Int).toNat (IntKind.u64).bits))))) + 1)), h))
   else
    some (.nx (j, (w64 (((IntKind.u64.wrap ((w64 (j + h)))).fdiv (2 ^ (min (1 : Int).toNat (IntKind.u64).bits)))))))
  else
   some (.dn j)
noncomputable def zq148_L2 (j1 : Int) : Int × (List Match) → Option (Lp (Int × (List Match)) ((List Match)))
 | (mid, data1) =>
  if (decide (mid < (w64 (j1 - 1)))) = true then
   (idx data1 (w64 (mid + 1))).bind fun e8 =>
   (idx data1 mid).bind fun e9 =>
   (idx data1 mid).bind fun e10 =>
   (idx (data1.set mid.toNat e8) (w64 (mid + 1))).bind fun e11 =>
   some (.nx ((w64 (mid + 1)), ((data1.set mid.toNat e8).set (w64 (mid + 1)).toNat e9)))
  else
   some (.dn data1)
noncomputable def zq148_L3 (data : List Match) (m : Int) : Int × Int → Option (Lp (Int × Int) (Int))
 | (n, start) =>
  if (decide (n < start)) = true then
   (chk ((0 : Int) ≤ 1)).bind fun u1 =>
   (idx data m).bind fun e14 =>
   (idx data (w64 (((IntKind.u64.wrap ((w64 (n + start)))).fdiv (2 ^ (min (1 : Int).toNat (IntKind.u64).bits)))))).bind fun e15 =>
   (zq19 e14 e15).bind fun r3 =>
   if (!(decide (r3 < 0))) = true then
    some (.nx ((w64 ((w64 (((IntKind.u64.wrap ((w64 (n + start)))).fdiv (2 ^ (min (1 : Int).toNat (IntKind.u64).bits))))) + 1)), start))
   else
    some (.nx (n, (w64 (((IntKind.u64.wrap ((w64 (n + start)))).fdiv (2 ^ (min (1 : Int).toNat (IntKind.u64).bits)))))))
  else
   some (.dn n)
noncomputable def zq148_L4 (n1 : Int) : Int × (List Match) → Option (Lp (Int × (List Match)) ((List Match)))
 | (p, data3) =>
  if (decide (n1 < p)) = true then
   (idx data3 (w64 (p - 1))).bind fun e20 =>
   (idx data3 p).bind fun e21 =>
   (idx data3 p).bind fun e22 =>
   (idx (data3.set p.toNat e20) (w64 (p - 1))).bind fun e23 =>
   some (.nx ((w64 (p - 1)), ((data3.set p.toNat e20).set (w64 (p - 1)).toNat e21)))
  else
   some (.dn data3)
noncomputable def zq148_L5 (data : List Match) (a : Int) (m : Int) (b : Int) : Int × Int → Option (Lp (Int × Int) (Int))
 | (v2, v3) =>
  if (decide (v2 < v3)) = true then
   (chk ((0 : Int) ≤ 1)).bind fun u3 =>
   (idx data (w64 ((w64 ((w64 ((w64 (((IntKind.u64.wrap ((w64 (a + b)))).fdiv (2 ^ (min (1 : Int).toNat (IntKind.u64).bits))))) + m)) - 1)) - (w64 (((IntKind.u64.wrap ((w64 (v2 + v3)))).fdiv (2 ^ (min (1 : Int).toNat (IntKind.u64).bits)))))))).bind fun e26 =>
   (idx data (w64 (((IntKind.u64.wrap ((w64 (v2 + v3)))).fdiv (2 ^ (min (1 : Int).toNat (IntKind.u64).bits)))))).bind fun e27 =>
   (zq19 e26 e27).bind fun r5 =>
   if (!(decide (r5 < 0))) = true then
    some (.nx ((w64 ((w64 (((IntKind.u64.wrap ((w64 (v2 + v3)))).fdiv (2 ^ (min (1 : Int).toNat (IntKind.u64).bits))))) + 1)), v3))
   else
    some (.nx (v2, (w64 (((IntKind.u64.wrap ((w64 (v2 + v3)))).fdiv (2 ^ (min (1 : Int).toNat (IntKind.u64).bits)))))))
  else
   some (.dn v2)
noncomputable def zq148_F (rec_ : (List Match) → Int → Int → Int → Option ((List Match))) (data : List Match) (a : Int) (m : Int) (b : Int) : Option ((List Match)) :=
 if ((w64 (m - a)) == 1) = true then
  (iter (zq148_L1 data a) (m, b)).bind fun (j1 : Int) =>
  (iter (zq148_L2 j1) (a, data)).bind fun (data2 : List Match) =>
  some data2
 else
  if ((w64 (b - m)) == 1) = true then
   (iter (zq148_L3 data m) (a, m)).bind fun (n1 : Int) =>
   (iter (zq148_L4 n1) (m, data)).bind fun (data4 : List Match) =>
   some data4
  else
   (chk ((0 : Int) ≤ 1)).bind fun u2 =>
   (if (decide ((w64 (((IntKind.u64.wrap ((w64 (a + b)))).fdiv (2 ^ (min (1 : Int).toNat (IntKind.u64).bits))))) < m)) = true then
    some ((w64 ((w64 ((w64 (((IntKind.u64.wrap ((w64 (a + b)))).fdiv (2 ^ (min (1 : Int).toNat (IntKind.u64).bits))))) + m)) - b)), (w64 (((IntKind.u64.wrap ((w64 (a + b)))).fdiv (2 ^ (min (1 : Int).toNat (IntKind.u64).bits))))))
   else
    some (a, m)).bind fun ((v, v1) : Int × Int) =>
   (iter (zq148_L5 data a m b) (v, v1)).bind fun (v4 : Int) =>
   ((if (decide (v4 < m)) = true then some (decide (m < (w64 ((w64 ((w64 (((IntKind.u64.wrap ((w64 (a + b)))).fdiv (2 ^ (min (1 : Int).toNat (IntKind.u64).bits))))) + m)) - v4)))) else some false).bind fun (v5 : Bool) =>
   if v5 = true then
    (zq141 data v4 m (w64 ((w64 ((w64 (((IntKind.u64.wrap ((w64 (a + b)))).fdiv (2 ^ (min (1 : Int).toNat (IntKind.u64).bits))))) + m)) - v4))).bind fun r6 =>
    some r6
   else
    some data).bind fun (data5 : List Match) =>
   ((if (decide (a < v4)) = true then some (decide (v4 < (w64 (((IntKind.u64.wrap ((w64 (a + b)))).fdiv (2 ^ (min (1 : Int).toNat (IntKind.u64).bits))))))) else some false).bind fun (v6 : Bool) =>
   if v6 = true then
    (rec_ data5 a v4 (w64 (((IntKind.u64.wrap ((w64 (a + b)))).fdiv (2 ^ (min (1 : Int).toNat (IntKind.u64).bits)))))).bind fun r7 =>
    some r7
   else
    some data5).bind fun (data6 : List Match) =>
   (if (decide ((w64 (((IntKind.u64.wrap ((w64 (a + b)))).fdiv (2 ^ (min (1 : Int).toNat (IntKind.u64).bits))))) < (w64 ((w64 ((w64 (((IntKind.u64.wrap ((w64 (a + b)))).fdiv (2 ^ (min (1 : Int).toNat (IntKind.u64).bits))))) + m)) - v4)))) = true then some (decide ((w64 ((w64 ((w64 (((IntKind.u64.wrap ((w64 (a + b)))).fdiv (2 ^ (min (1 : Int).toNat (IntKind.u64).bits))))) + m)) - v4)) < b)) else some false).bind fun (v7 : Bool) =>
   if v7 = true then
    (rec_ data6 (w64 (((IntKind.u64.wrap ((w64 (a + b)))).fdiv (2 ^ (min (1 : Int).toNat (IntKind.u64).bits))))) (w64 ((w64 ((w64 (((IntKind.u64.wrap ((w64 (a + b)))).fdiv (2 ^ (min (1 : Int).toNat (IntKind.u64).bits))))) + m)) - v4)) b).bind fun r8 =>
    some r8
   else
    some data6
noncomputable def zq148_k : Nat → (List Match) → Int → Int → Int → Option ((List Match))
 | 0 => fun _ _ _ _ => none
 | n + 1 => zq148_F (zq148_k n)
noncomputable def zq148 (data : List Match) (a : Int) (m : Int) (b : Int) : Option ((List Match)) := zq148_k 4294967296 data a m b
noncomputable def zq145_L1 (n : Int) : Int × Int × (List Match) → Option (Lp (Int × Int × (List Match)) (Int × (List Match)))
 | (v, v1, data1) =>
  if (decide (v1 ≤ n)) = true then
   (zq113 data1 v v1).bind fun r =>
   some (.nx (v1, (w64 (v1 + 20)), r))
  else
   some (.dn (v, data1))
noncomputable def zq145_L2 (n : Int) (m : Int) : Int × Int × (List Match) → Option (Lp (Int × Int × (List Match)) (Int × (List Match)))
 | (v3, v4, data4) =>
  if (decide (v4 ≤ n)) = true then
   (zq148 data4 v3 (w64 (v3 + m)) v4).bind fun r2 =>
   some (.nx (v4, (w64 (v4 + (w64 (2 * m)))), r2))
  else
   some (.dn (v3, data4))
noncomputable def zq145_L3 (n : Int) : Int × (List Match) → Option (Lp (Int × (List Match)) ((List Match)))
 | (m, data3) =>
  if (decide (m < n)) = true then
   (iter (zq145_L2 n m) ((0 : Int), (w64 (2 * m)), data3)).bind fun ((v5, data5) : Int × (List Match)) =>
   (if (decide ((w64 (v5 + m)) < n)) = true then
    (zq148 data5 v5 (w64 (v5 + m)) n).bind fun r3 =>
    some r3
   else
    some data5).bind fun (data6 : List Match) =>
   some (.nx ((w64 (m * 2)), data6))
  else
   some (.dn data3)
noncomputable def zq145 (data : List Match) (n : Int) : Option ((List Match)) :=
 (iter (zq145_L1 n) ((0 : Int), (20 : Int), data)).bind fun ((v2, data2) : Int × (List Match)) =>
 (zq113 data2 v2 n).bind fun r1 =>
 iter (zq145_L3 n) ((20 : Int), r1)
noncomputable def zq102 (x : List Match) : Option ((List Match)) :=
 (zq145 x (x.length : Int)).bind fun r =>
 some r
noncomputable def zq18_L1 (t : Timetable) (r : Report) : Int × (List Match) → Option (Lp (Int × (List Match)) ((List Match)))
 | (v, x) =>
  if (decide (v < (t.Trips.length : Int))) = true then
   ((idx t.Trips v).bind fun e =>
   if (e.Line == r.Line) = true then
    (chk (x.length + ([(⟨r.Vehicle, e.Id, (w64 ((w64 (r.Time - e.Start)) - r.Done))⟩ : Match)] : List Match).length ≤ 4294967296)).bind fun u =>
    some (x ++ ([(⟨r.Vehicle, e.Id, (w64 ((w64 (r.Time - e.Start)) - r.Done))⟩ : Match)] : List Match))
   else
    some x).bind fun (x1 : List Match) =>
   some (.nx ((w64 (v + 1)), x1))
  else
   some (.dn x)
noncomputable def zq18 (t : Timetable) (r : Report) : Option ((List Match)) :=
 (iter (zq18_L1 t r) ((0 : Int), ([] : List Match))).bind fun (x2 : List Match) =>
 (zq102 x2).bind fun r1 =>
 some r1
noncomputable def zq28 (a : Match) (b : Match) : Option (Int) :=
 (zq12 a.Delay).bind fun r6 =>
 (zq12 b.Delay).bind fun r7 =>
 (zq0 r6 r7).bind fun r8 =>
 (zq0 a.Vehicle b.Vehicle).bind fun r9 =>
 (zq0 a.Id b.Id).bind fun r10 =>
 (zq1 ([r8, r9, r10] : List Int)).bind fun r11 =>
 some r11
noncomputable def zq34 (x : IK .u64) : Option (Int) :=
 (if (decide (4294967296 ≤ x.v)) = true then
  (chk ((0 : Int) ≤ 32)).bind fun u =>
  some ((x.v.fdiv (2 ^ (min (32 : Int).toNat (IntKind.u64).bits))), (32 : Int))
 else
  some (x.v, (0 : Int))).bind fun ((x1, v) : Int × Int) =>
 (if (decide (65536 ≤ x1)) = true then
  (chk ((0 : Int) ≤ 16)).bind fun u1 =>
  some ((x1.fdiv (2 ^ (min (16 : Int).toNat (IntKind.u64).bits))), (w64 (v + 16)))
 else
  some (x1, v)).bind fun ((x2, v1) : Int × Int) =>
 (if (decide (256 ≤ x2)) = true then
  (chk ((0 : Int) ≤ 8)).bind fun u2 =>
  some ((x2.fdiv (2 ^ (min (8 : Int).toNat (IntKind.u64).bits))), (w64 (v1 + 8)))
 else
  some (x2, v1)).bind fun ((x3, v2) : Int × Int) =>
 (chk ((0 : Int) ≤ (IntKind.u8.wrap (x3)) ∧ (IntKind.u8.wrap (x3)) < ((str [0, 1, 2, 2, 3, 3, 3, 3, 4, 4, 4, 4, 4, 4, 4, 4, 5, 5, 5, 5, 5, 5, 5, 5, 5, 5, 5, 5, 5, 5, 5, 5, 6, 6, 6, 6, 6, 6, 6, 6, 6, 6, 6, 6, 6, 6, 6, 6, 6, 6, 6, 6, 6, 6, 6, 6, 6, 6, 6, 6, 6, 6, 6, 6, 7, 7, 7, 7, 7, 7, 7, 7, 7, 7, 7, 7, 7, 7, 7, 7, 7, 7, 7, 7, 7, 7, 7, 7, 7, 7, 7, 7, 7, 7, 7, 7, 7, 7, 7, 7, 7, 7, 7, 7, 7, 7, 7, 7, 7, 7, 7, 7, 7, 7, 7, 7, 7, 7, 7, 7, 7, 7, 7, 7, 7, 7, 7, 7, 8, 8, 8, 8, 8, 8, 8, 8, 8, 8, 8, 8, 8, 8, 8, 8, 8, 8, 8, 8, 8, 8, 8, 8, 8, 8, 8, 8, 8, 8, 8, 8, 8, 8, 8, 8, 8, 8, 8, 8, 8, 8, 8, 8, 8, 8, 8, 8, 8, 8, 8, 8, 8, 8, 8, 8, 8, 8, 8, 8, 8, 8, 8, 8, 8, 8, 8, 8, 8, 8, 8, 8, 8, 8, 8, 8, 8, 8, 8, 8, 8, 8, 8, 8, 8, 8, 8, 8, 8, 8, 8, 8, 8, 8, 8, 8, 8, 8, 8, 8, 8, 8, 8, 8, 8, 8, 8, 8, 8, 8, 8, 8, 8, 8, 8, 8, 8, 8, 8, 8, 8, 8, 8, 8, 8, 8, 8, 8]).size : Int))).bind fun u3 =>
 some (w64 (v2 + (w64 ((((str [0, 1, 2, 2, 3, 3, 3, 3, 4, 4, 4, 4, 4, 4, 4, 4, 5, 5, 5, 5, 5, 5, 5, 5, 5, 5, 5, 5, 5, 5, 5, 5, 6, 6, 6, 6, 6, 6, 6, 6, 6, 6, 6, 6, 6, 6, 6, 6, 6, 6, 6, 6, 6, 6, 6, 6, 6, 6, 6, 6, 6, 6, 6, 6, 7, 7, 7, 7, 7, 7, 7, 7, 7, 7, 7, 7, 7, 7, 7, 7, 7, 7, 7, 7, 7, 7, 7, 7, 7, 7, 7, 7, 7, 7, 7, 7, 7, 7, 7, 7, 7, 7, 7, 7, 7, 7, 7, 7, 7, 7, 7, 7, 7, 7, 7, 7, 7, 7, 7, 7, 7, 7, 7, 7, 7, 7, 7, 7, 8, 8, 8, 8, 8, 8, 8, 8, 8, 8, 8, 8, 8, 8, 8, 8, 8, 8, 8, 8, 8, 8, 8, 8, 8, 8, 8, 8, 8, 8, 8, 8, 8, 8, 8, 8, 8, 8, 8, 8, 8, 8, 8, 8, 8, 8, 8, 8, 8, 8, 8, 8, 8, 8, 8, 8, 8, 8, 8, 8, 8, 8, 8, 8, 8, 8, 8, 8, 8, 8, 8, 8, 8, 8, 8, 8, 8, 8, 8, 8, 8, 8, 8, 8, 8, 8, 8, 8, 8, 8, 8, 8, 8, 8, 8, 8, 8, 8, 8, 8, 8, 8, 8, 8, 8, 8, 8, 8, 8, 8, 8, 8, 8, 8, 8, 8, 8, 8, 8, 8, 8, 8, 8, 8, 8, 8, 8, 8]).data.toList.getD (IntKind.u8.wrap (x3)).toNat 0).toNat : Int)))))
noncomputable def zq33 (x : IK .u64) : Option (Int) :=
 (zq34 x).bind fun r =>
 some r
noncomputable def zq114 (data : List Match) (a : Int) (b : Int) : Option ((List Match)) :=
 zq112 data a b (fun (z0 : Match) (z1 : Match) => zq28 z0 z1)
noncomputable def zq142_L1 (hi : Int) (first : Int) (cmp : Match → Match → Option (Int)) : Int × (List Match) → Option (Lp (Int × (List Match)) ((List Match)))
 | (v, data1) =>
  if (decide (hi ≤ (w64 ((w64 (2 * v)) + 1)))) = true then
   some (.dn data1)
  else
   ((if (decide ((w64 ((w64 ((w64 (2 * v)) + 1)) + 1)) < hi)) = true then (idx data1 (w64 (first + (w64 ((w64 (2 * v)) + 1))))).bind fun e3 =>
   (idx data1 (w64 ((w64 (first + (w64 ((w64 (2 * v)) + 1)))) + 1))).bind fun e4 =>
   (cmp e3 e4).bind fun r2 =>
   some (decide (r2 < 0)) else some false).bind fun (v2 : Bool) =>
   if v2 = true then
    some (w64 ((w64 ((w64 (2 * v)) + 1)) + 1))
   else
    some (w64 ((w64 (2 * v)) + 1))).bind fun (v1 : Int) =>
   (idx data1 (w64 (first + v))).bind fun e7 =>
   (idx data1 (w64 (first + v1))).bind fun e8 =>
   (cmp e7 e8).bind fun r4 =>
   if (!(decide (r4 < 0))) = true then
    some (.dn data1)
   else
    (idx data1 (w64 (first + v1))).bind fun e14 =>
    (idx data1 (w64 (first + v))).bind fun e15 =>
    (idx data1 (w64 (first + v))).bind fun e16 =>
    (idx (data1.set (w64 (first + v)).toNat e14) (w64 (first + v1))).bind fun e17 =>
    some (.nx (v1, ((data1.set (w64 (first + v)).toNat e14).set (w64 (first + v1)).toNat e15)))
noncomputable def zq142 (data : List Match) (lo : Int) (hi : Int) (first : Int) (cmp : Match → Match → Option (Int)) : Option ((List Match)) :=
 iter (zq142_L1 hi first cmp) (lo, data)
noncomputable def zq143 (data : List Match) (lo : Int) (hi : Int) (first : Int) : Option ((List Match)) :=
 zq142 data lo hi first (fun (z0 : Match) (z1 : Match) => zq28 z0 z1)
noncomputable def zq109_L1 (a : Int) (b : Int) (cmp : Match → Match → Option (Int)) : Int × (List Match) → Option (Lp (Int × (List Match)) ((List Match)))
 | (v, data1) =>
  if (decide (0 ≤ v)) = true then
   (zq142 data1 v (w64 (b - a)) a cmp).bind fun r =>
   some (.nx ((w64 (v - 1)), r))
  else
   some (.dn data1)
noncomputable def zq109_L2 (a : Int) (cmp : Match → Match → Option (Int)) : Int × (List Match) → Option (Lp (Int × (List Match)) ((List Match)))
 | (v1, data3) =>
  if (decide (0 ≤ v1)) = true then
   (idx data3 (w64 (a + v1))).bind fun e4 =>
   (idx data3 a).bind fun e5 =>
   (idx data3 a).bind fun e6 =>
   (idx (data3.set a.toNat e4) (w64 (a + v1))).bind fun e7 =>
   (zq142 ((data3.set a.toNat e4).set (w64 (a + v1)).toNat e5) 0 v1 a cmp).bind fun r1 =>
   some (.nx ((w64 (v1 - 1)), r1))
  else
   some (.dn data3)
noncomputable def zq109 (data : List Match) (a : Int) (b : Int) (cmp : Match → Match → Option (Int)) : Option ((List Match)) :=
 (chk ((2 : Int) ≠ 0)).bind fun u =>
 (iter (zq109_L1 a b cmp) ((w64 ((w64 ((w64 (b - a)) - 1)).tdiv 2)), data)).bind fun (data2 : List Match) =>
 iter (zq109_L2 a cmp) ((w64 ((w64 (b - a)) - 1)), data2)
noncomputable def zq110 (data : List Match) (a : Int) (b : Int) : Option ((List Match)) :=
 zq109 data a b (fun (z0 : Match) (z1 : Match) => zq28 z0 z1)
noncomputable def zq123 (data : List Match) (a : Int) (b : Int) (swaps : Int) (cmp : Match → Match → Option (Int)) : Option (Int × Int × Int) :=
 (idx data b).bind fun e2 =>
 (idx data a).bind fun e3 =>
 (cmp e2 e3).bind fun r1 =>
 if (decide (r1 < 0)) = true then
  some (b, a, (w64 (swaps + 1)))
 else
  some (a, b, swaps)
noncomputable def zq124 (data : List Match) (a : Int) (b : Int) (swaps : Int) : Option (Int × Int × Int) :=
 zq123 data a b swaps (fun (z0 : Match) (z1 : Match) => zq28 z0 z1)
noncomputable def zq119 (data : List Match) (a : Int) (b : Int) (c : Int) (swaps : Int) (cmp : Match → Match → Option (Int)) : Option (Int × Int) :=
 (zq123 data a b swaps cmp).bind fun r =>
 (zq123 data r.2.1 c r.2.2 cmp).bind fun r1 =>
 (zq123 data r.1 r1.1 r1.2.2 cmp).bind fun r2 =>
 some (r2.2.1, r2.2.2)
noncomputable def zq120 (data : List Match) (a : Int) (b : Int) (c : Int) (swaps : Int) : Option (Int × Int) :=
 zq119 data a b c swaps (fun (z0 : Match) (z1 : Match) => zq28 z0 z1)
noncomputable def zq116 (data : List Match) (a : Int) (swaps : Int) (cmp : Match → Match → Option (Int)) : Option (Int × Int) :=
 (zq119 data (w64 (a - 1)) a (w64 (a + 1)) swaps cmp).bind fun r =>
 some (r.1, r.2)
noncomputable def zq117 (data : List Match) (a : Int) (swaps : Int) : Option (Int × Int) :=
 zq116 data a swaps (fun (z0 : Match) (z1 : Match) => zq28 z0 z1)
noncomputable def zq106 (data : List Match) (a : Int) (b : Int) (cmp : Match → Match → Option (Int)) : Option (Int × Int) :=
 (chk ((4 : Int) ≠ 0)).bind fun u =>
 (chk ((4 : Int) ≠ 0)).bind fun u1 =>
 (chk ((4 : Int) ≠ 0)).bind fun u2 =>
 (if (decide (8 ≤ (w64 (b - a)))) = true then
  (if (decide (50 ≤ (w64 (b - a)))) = true then
   (zq116 data (w64 (a + (w64 ((w64 ((w64 (b - a)).tdiv 4)) * 1)))) 0 cmp).bind fun r =>
   (zq116 data (w64 (a + (w64 ((w64 ((w64 (b - a)).tdiv 4)) * 2)))) r.2 cmp).bind fun r1 =>
   (zq116 data (w64 (a + (w64 ((w64 ((w64 (b - a)).tdiv 4)) * 3)))) r1.2 cmp).bind fun r2 =>
   some (r.1, r1.1, r2.1, r2.2)
  else
   some ((w64 (a + (w64 ((w64 ((w64 (b - a)).tdiv 4)) * 1)))), (w64 (a + (w64 ((w64 ((w64 (b - a)).tdiv 4)) * 2)))), (w64 (a + (w64 ((w64 ((w64 (b - a)).tdiv 4)) * 3)))), (0 : Int))).bind fun ((v2, v3, v4, v5) : Int × Int × Int × Int) =>
  (zq119 data v2 v3 v4 v5 cmp).bind fun r3 =>
  some (r3.1, r3.2)
 else
  some ((w64 (a + (w64 ((w64 ((w64 (b - a)).tdiv 4)) * 2)))), (0 : Int))).bind fun ((v, v1) : Int × Int) =>
 if (v1 == 0) = true then
  some (v, 1)
 else
  if (v1 == 12) = true then
   some (v, 2)
  else
   some (v, 0)
noncomputable def zq107 (data : List Match) (a : Int) (b : Int) : Option (Int × Int) :=
 zq106 data a b (fun (z0 : Match) (z1 : Match) => zq28 z0 z1)
noncomputable def zq137_L1 : Int × Int × (List Match) → Option (Lp (Int × Int × (List Match)) ((List Match)))
 | (v, v1, data1) =>
  if (decide (v < v1)) = true then
   (idx data1 v1).bind fun e4 =>
   (idx data1 v).bind fun e5 =>
   (idx data1 v).bind fun e6 =>
   (idx (data1.set v.toNat e4) v1).bind fun e7 =>
   some (.nx ((w64 (v + 1)), (w64 (v1 - 1)), ((data1.set v.toNat e4).set v1.toNat e5)))
  else
   some (.dn data1)
noncomputable def zq137 (data : List Match) (a : Int) (b : Int) (cmp : Match → Match → Option (Int)) : Option ((List Match)) :=
 iter (zq137_L1) (a, (w64 (b - 1)), data)
noncomputable def zq138 (data : List Match) (a : Int) (b : Int) : Option ((List Match)) :=
 zq137 data a b (fun (z0 : Match) (z1 : Match) => zq28 z0 z1)
noncomputable def zq126_L1 (b : Int) (cmp : Match → Match → Option (Int)) (data1 : List Match) : Int → Option (Lp (Int) (Int))
 | v3 =>
  (if (decide (v3 < b)) = true then (idx data1 v3).bind fun e2 =>
  (idx data1 (w64 (v3 - 1))).bind fun e3 =>
  (cmp e2 e3).bind fun r1 =>
  some (!(decide (r1 < 0))) else some false).bind fun (v4 : Bool) =>
  if v4 = true then
   some (.nx (w64 (v3 + 1)))
  else
   some (.dn v3)
noncomputable def zq126_L2 (cmp : Match → Match → Option (Int)) : Int × (List Match) → Option (Lp (Int × (List Match)) ((List Match)))
 | (v6, data4) =>
  if (decide (1 ≤ v6)) = true then
   (idx data4 v6).bind fun e18 =>
   (idx data4 (w64 (v6 - 1))).bind fun e19 =>
   (cmp e18 e19).bind fun r7 =>
   if (!(decide (r7 < 0))) = true then
    some (.dn data4)
   else
    (idx data4 (w64 (v6 - 1))).bind fun e24 =>
    (idx data4 v6).bind fun e25 =>
    (idx data4 v6).bind fun e26 =>
    (idx (data4.set v6.toNat e24) (w64 (v6 - 1))).bind fun e27 =>
    some (.nx ((w64 (v6 - 1)), ((data4.set v6.toNat e24).set (w64 (v6 - 1)).toNat e25)))
  else
   some (.dn data4)
noncomputable def zq126_L3 (b : Int) (cmp : Match → Match → Option (Int)) : Int × (List Match) → Option (Lp (Int × (List Match)) ((List Match)))
 | (v7, data6) =>
  if (decide (v7 < b)) = true then
   (idx data6 v7).bind fun e30 =>
   (idx data6 (w64 (v7 - 1))).bind fun e31 =>
   (cmp e30 e31).bind fun r9 =>
   if (!(decide (r9 < 0))) = true then
    some (.dn data6)
   else
    (idx data6 (w64 (v7 - 1))).bind fun e36 =>
    (idx data6 v7).bind fun e37 =>
    (idx data6 v7).bind fun e38 =>
    (idx (data6.set v7.toNat e36) (w64 (v7 - 1))).bind fun e39 =>
    some (.nx ((w64 (v7 + 1)), ((data6.set v7.toNat e36).set (w64 (v7 - 1)).toNat e37)))
  else
   some (.dn data6)
noncomputable def zq126_L4 (a : Int) (b : Int) (cmp : Match → Match → Option (Int)) : Int × Int × (List Match) → Option (Lp (Int × Int × (List Match)) (Fl (Bool × (List Match)) ((List Match))))
 | (v, v1, data1) =>
  if (decide (v1 < 5)) = true then
   flb ((iter (zq126_L1 b cmp data1) v).bind fun (v5 : Int) =>
   if (v5 == b) = true then
    some (.ret (.dn (.ret (true, data1))))
   else
    if (decide ((w64 (b - a)) < 50)) = true then
     some (.ret (.dn (.ret (false, data1))))
    else
     (idx data1 (w64 (v5 - 1))).bind fun e12 =>
     (idx data1 v5).bind fun e13 =>
     (idx data1 v5).bind fun e14 =>
     (idx (data1.set v5.toNat e12) (w64 (v5 - 1))).bind fun e15 =>
     (if (decide (2 ≤ (w64 (v5 - a)))) = true then
      (iter (zq126_L2 cmp) ((w64 (v5 - 1)), ((data1.set v5.toNat e12).set (w64 (v5 - 1)).toNat e13))).bind fun (data5 : List Match) =>
      some data5
     else
      some ((data1.set v5.toNat e12).set (w64 (v5 - 1)).toNat e13)).bind fun (data3 : List Match) =>
     if (decide (2 ≤ (w64 (b - v5)))) = true then
      (iter (zq126_L3 b cmp) ((w64 (v5 + 1)), data3)).bind fun (data7 : List Match) =>
      some (.go (v5, data7))
     else
      some (.go (v5, data3))) fun ((v2, data2) : Int × (List Match)) =>
   some (.nx (v2, (w64 (v1 + 1)), data2))
  else
   some (.dn (.go data1))
noncomputable def zq126 (data : List Match) (a : Int) (b : Int) (cmp : Match → Match → Option (Int)) : Option (Bool × (List Match)) :=
 flb (iter (zq126_L4 a b cmp) ((w64 (a + 1)), (0 : Int), data)) fun (data8 : List Match) =>
 some (false, data8)
noncomputable def zq127 (data : List Match) (a : Int) (b : Int) : Option (Bool × (List Match)) :=
 zq126 data a b (fun (z0 : Match) (z1 : Match) => zq28 z0 z1)
noncomputable def zq132_L1 (a : Int) (cmp : Match → Match → Option (Int)) (v1 : Int) (data1 : List Match) : Int → Option (Lp (Int) (Int))
 | v2 =>
  (if (decide (v2 ≤ v1)) = true then (idx data1 a).bind fun e10 =>
  (idx data1 v2).bind fun e11 =>
  (cmp e10 e11).bind fun r1 =>
  some (!(decide (r1 < 0))) else some false).bind fun (v3 : Bool) =>
  if v3 = true then
   some (.nx (w64 (v2 + 1)))
  else
   some (.dn v2)
noncomputable def zq132_L2 (a : Int) (cmp : Match → Match → Option (Int)) (data1 : List Match) (v4 : Int) : Int → Option (Lp (Int) (Int))
 | v5 =>
  (if (decide (v4 ≤ v5)) = true then (idx data1 a).bind fun e14 =>
  (idx data1 v5).bind fun e15 =>
  (cmp e14 e15).bind fun r3 =>
  some (decide (r3 < 0)) else some false).bind fun (v6 : Bool) =>
  if v6 = true then
   some (.nx (w64 (v5 - 1)))
  else
   some (.dn v5)
noncomputable def zq132_L3 (a : Int) (cmp : Match → Match → Option (Int)) : Int × Int × (List Match) → Option (Lp (Int × Int × (List Match)) (Int × (List Match)))
 | (v, v1, data1) =>
  (iter (zq132_L1 a cmp v1 data1) v).bind fun (v4 : Int) =>
  (iter (zq132_L2 a cmp data1 v4) v1).bind fun (v7 : Int) =>
  if (decide (v7 < v4)) = true then
   some (.dn (v4, data1))
  else
   (idx data1 v7).bind fun e20 =>
   (idx data1 v4).bind fun e21 =>
   (idx data1 v4).bind fun e22 =>
   (idx (data1.set v4.toNat e20) v7).bind fun e23 =>
   some (.nx ((w64 (v4 + 1)), (w64 (v7 - 1)), ((data1.set v4.toNat e20).set v7.toNat e21)))
noncomputable def zq132 (data : List Match) (a : Int) (b : Int) (pivot : Int) (cmp : Match → Match → Option (Int)) : Option (Int × (List Match)) :=
 (idx data pivot).bind fun e4 =>
 (idx data a).bind fun e5 =>
 (idx data a).bind fun e6 =>
 (idx (data.set a.toNat e4) pivot).bind fun e7 =>
 (iter (zq132_L3 a cmp) ((w64 (a + 1)), (w64 (b - 1)), ((data.set a.toNat e4).set pivot.toNat e5))).bind fun ((v8, data2) : Int × (List Match)) =>
 some (v8, data2)
noncomputable def zq133 (data : List Match) (a : Int) (b : Int) (pivot : Int) : Option (Int × (List Match)) :=
 zq132 data a b pivot (fun (z0 : Match) (z1 : Match) => zq28 z0 z1)
noncomputable def zq129_L1 (data : List Match) (a : Int) (b : Int) (pivot : Int) (cmp : Match → Match → Option (Int)) (e4 : Match) (e5 : Match) : Int → Option (Lp (Int) (Int))
 | v =>
  (if (decide (v ≤ (w64 (b - 1)))) = true then (idx ((data.set a.toNat e4).set pivot.toNat e5) v).bind fun e10 =>
  (idx ((data.set a.toNat e4).set pivot.toNat e5) a).bind fun e11 =>
  (cmp e10 e11).bind fun r1 =>
  some (decide (r1 < 0)) else some false).bind fun (v1 : Bool) =>
  if v1 = true then
   some (.nx (w64 (v + 1)))
  else
   some (.dn v)
noncomputable def zq129_L2 (data : List Match) (a : Int) (pivot : Int) (cmp : Match → Match → Option (Int)) (e4 : Match) (e5 : Match) (v2 : Int) : Int → Option (Lp (Int) (Int))
 | v3 =>
  (if (decide (v2 ≤ v3)) = true then (idx ((data.set a.toNat e4).set pivot.toNat e5) v3).bind fun e14 =>
  (idx ((data.set a.toNat e4).set pivot.toNat e5) a).bind fun e15 =>
  (cmp e14 e15).bind fun r3 =>
  some (!(decide (r3 < 0))) else some false).bind fun (v4 : Bool) =>
  if v4 = true then
   some (.nx (w64 (v3 - 1)))
  else
   some (.dn v3)
noncomputable def zq129_L3 (a : Int) (cmp : Match → Match → Option (Int)) (v7 : Int) (data1 : List Match) : Int → Option (Lp (Int) (Int))
 | v8 =>
  (if (decide (v8 ≤ v7)) = true then (idx data1 v8).bind fun e34 =>
  (idx data1 a).bind fun e35 =>
  (cmp e34 e35).bind fun r5 =>
  some (decide (r5 < 0)) else some false).bind fun (v9 : Bool) =>
  if v9 = true then
   some (.nx (w64 (v8 + 1)))
  else
   some (.dn v8)
noncomputable def zq129_L4 (a : Int) (cmp : Match → Match → Option (Int)) (data1 : List Match) (v10 : Int) : Int → Option (Lp (Int) (Int))
 | v11 =>
  (if (decide (v10 ≤ v11)) = true then (idx data1 v11).bind fun e38 =>
  (idx data1 a).bind fun e39 =>
  (cmp e38 e39).bind fun r7 =>
  some (!(decide (r7 < 0))) else some false).bind fun (v12 : Bool) =>
  if v12 = true then
   some (.nx (w64 (v11 - 1)))
  else
   some (.dn v11)
noncomputable def zq129_L5 (a : Int) (cmp : Match → Match → Option (Int)) : Int × Int × (List Match) → Option (Lp (Int × Int × (List Match)) (Int × (List Match)))
 | (v6, v7, data1) =>
  (iter (zq129_L3 a cmp v7 data1) v6).bind fun (v10 : Int) =>
  (iter (zq129_L4 a cmp data1 v10) v7).bind fun (v13 : Int) =>
  if (decide (v13 < v10)) = true then
   some (.dn (v13, data1))
  else
   (idx data1 v13).bind fun e44 =>
   (idx data1 v10).bind fun e45 =>
   (idx data1 v10).bind fun e46 =>
   (idx (data1.set v10.toNat e44) v13).bind fun e47 =>
   some (.nx ((w64 (v10 + 1)), (w64 (v13 - 1)), ((data1.set v10.toNat e44).set v13.toNat e45)))
noncomputable def zq129 (data : List Match) (a : Int) (b : Int) (pivot : Int) (cmp : Match → Match → Option (Int)) : Option (Int × Bool × (List Match)) :=
 (idx data pivot).bind fun e4 =>
 (idx data a).bind fun e5 =>
 (idx data a).bind fun e6 =>
 (idx (data.set a.toNat e4) pivot).bind fun e7 =>
 (iter (zq129_L1 data a b pivot cmp e4 e5) (w64 (a + 1))).bind fun (v2 : Int) =>
 (iter (zq129_L2 data a pivot cmp e4 e5 v2) (w64 (b - 1))).bind fun (v5 : Int) =>
 if (decide (v5 < v2)) = true then
  (idx ((data.set a.toNat e4).set pivot.toNat e5) a).bind fun e20 =>
  (idx ((data.set a.toNat e4).set pivot.toNat e5) v5).bind fun e21 =>
  (idx ((data.set a.toNat e4).set pivot.toNat e5) v5).bind fun e22 =>
  (idx (((data.set a.toNat e4).set pivot.toNat e5).set v5.toNat e20) a).bind fun e23 =>
  some (v5, true, ((((data.set a.toNat e4).set pivot.toNat e5).set v5.toNat e20).set a.toNat e21))
 else
  (idx ((data.set a.toNat e4).set pivot.toNat e5) v5).bind fun e28 =>
  (idx ((data.set a.toNat e4).set pivot.toNat e5) v2).bind fun e29 =>
  (idx ((data.set a.toNat e4).set pivot.toNat e5) v2).bind fun e30 =>
  (idx (((data.set a.toNat e4).set pivot.toNat e5).set v2.toNat e28) v5).bind fun e31 =>
  (iter (zq129_L5 a cmp) ((w64 (v2 + 1)), (w64 (v5 - 1)), ((((data.set a.toNat e4).set pivot.toNat e5).set v2.toNat e28).set v5.toNat e29))).bind fun ((v14, data2) : Int × (List Match)) =>
  (idx data2 a).bind fun e52 =>
  (idx data2 v14).bind fun e53 =>
  (idx data2 v14).bind fun e54 =>
  (idx (data2.set v14.toNat e52) a).bind fun e55 =>
  some (v14, false, ((data2.set v14.toNat e52).set a.toNat e53))
noncomputable def zq130 (data : List Match) (a : Int) (b : Int) (pivot : Int) : Option (Int × Bool × (List Match)) :=
 zq129 data a b pivot (fun (z0 : Match) (z1 : Match) => zq28 z0 z1)
noncomputable def zq122 (length : Int) : Option ((IK .u64)) :=
 (zq33 (⟨(IntKind.u64.wrap (length))⟩ : IK .u64)).bind fun r =>
 (chk ((0 : Int) ≤ r)).bind fun u =>
 some (⟨(IntKind.u64.wrap (1 * 2 ^ (min (r : Int).toNat (IntKind.u64).bits)))⟩ : IK .u64)
noncomputable def zq149 (r : IK .u64) : Option ((IK .u64) × (IK .u64)) :=
 (chk ((0 : Int) ≤ 13)).bind fun u1 =>
 (chk ((0 : Int) ≤ 7)).bind fun u3 =>
 (chk ((0 : Int) ≤ 17)).bind fun u5 =>
 some ((⟨(IntKind.u64.wrap ((BitVec.ofInt (IntKind.u64).bits (IntKind.u64.wrap ((BitVec.ofInt (IntKind.u64).bits (IntKind.u64.wrap ((BitVec.ofInt (IntKind.u64).bits r.v ^^^ BitVec.ofInt (IntKind.u64).bits (IntKind.u64.wrap (r.v * 2 ^ (min (13 : Int).toNat (IntKind.u64).bits)))).toNat : Int)) ^^^ BitVec.ofInt (IntKind.u64).bits ((IntKind.u64.wrap ((BitVec.ofInt (IntKind.u64).bits r.v ^^^ BitVec.ofInt (IntKind.u64).bits (IntKind.u64.wrap (r.v * 2 ^ (min (13 : Int).toNat (IntKind.u64).bits)))).toNat : Int)).fdiv (2 ^ (min (7 : Int).toNat (IntKind.u64).bits)))).toNat : Int)) ^^^ BitVec.ofInt (IntKind.u64).bits (IntKind.u64.wrap ((IntKind.u64.wrap ((BitVec.ofInt (IntKind.u64).bits (IntKind.u64.wrap ((BitVec.ofInt (IntKind.u64).bits r.v ^^^ BitVec.ofInt (IntKind.u64).bits (IntKind.u64.wrap (r.v * 2 ^ (min (13 : Int).toNat (IntKind.u64).bits)))).toNat : Int)) ^^^ BitVec.ofInt (IntKind.u64).bits ((IntKind.u64.wrap ((BitVec.ofInt (IntKind.u64).bits r.v ^^^ BitVec.ofInt (IntKind.u64).bits (IntKind.u64.wrap (r.v * 2 ^ (min (13 : Int).toNat (IntKind.u64).bits)))).toNat : Int)).fdiv (2 ^ (min (7 : Int).toNat (IntKind.u64).bits)))).toNat : Int)) * 2 ^ (min (17 : Int).toNat (IntKind.u64).bits)))).toNat : Int))⟩ : IK .u64), (⟨(IntKind.u64.wrap ((BitVec.ofInt (IntKind.u64).bits (IntKind.u64.wrap ((BitVec.ofInt (IntKind.u64).bits (IntKind.u64.wrap ((BitVec.ofInt (IntKind.u64).bits r.v ^^^ BitVec.ofInt (IntKind.u64).bits (IntKind.u64.wrap (r.v * 2 ^ (min (13 : Int).toNat (IntKind.u64).bits)))).toNat : Int)) ^^^ BitVec.ofInt (IntKind.u64).bits ((IntKind.u64.wrap ((BitVec.ofInt (IntKind.u64).bits r.v ^^^ BitVec.ofInt (IntKind.u64).bits (IntKind.u64.wrap (r.v * 2 ^ (min (13 : Int).toNat (IntKind.u64).bits)))).toNat : Int)).fdiv (2 ^ (min (7 : Int).toNat (IntKind.u64).bits)))).toNat : Int)) ^^^ BitVec.ofInt (IntKind.u64).bits (IntKind.u64.wrap ((IntKind.u64.wrap ((BitVec.ofInt (IntKind.u64).bits (IntKind.u64.wrap ((BitVec.ofInt (IntKind.u64).bits r.v ^^^ BitVec.ofInt (IntKind.u64).bits (IntKind.u64.wrap (r.v * 2 ^ (min (13 : Int).toNat (IntKind.u64).bits)))).toNat : Int)) ^^^ BitVec.ofInt (IntKind.u64).bits ((IntKind.u64.wrap ((BitVec.ofInt (IntKind.u64).bits r.v ^^^ BitVec.ofInt (IntKind.u64).bits (IntKind.u64.wrap (r.v * 2 ^ (min (13 : Int).toNat (IntKind.u64).bits)))).toNat : Int)).fdiv (2 ^ (min (7 : Int).toNat (IntKind.u64).bits)))).toNat : Int)) * 2 ^ (min (17 : Int).toNat (IntKind.u64).bits)))).toNat : Int))⟩ : IK .u64))
noncomputable def zq103_L1 (a : Int) (b : Int) (r : (IK .u64)) : Int × (List Match) × Int → Option (Lp (Int × (List Match) × Int) ((List Match)))
 | (v, data1, v1) =>
  (chk ((4 : Int) ≠ 0)).bind fun u1 =>
  if (decide (v ≤ (w64 ((w64 (a + (w64 ((w64 ((w64 (b - a)).tdiv 4)) * 2)))) + 1)))) = true then
   (zq149 (⟨v1⟩ : IK .u64)).bind fun r1 =>
   (if (decide ((w64 (b - a)) ≤ (w64 ((IntKind.u64.wrap ((BitVec.ofInt (IntKind.u64).bits r1.1.v &&& BitVec.ofInt (IntKind.u64).bits (IntKind.u64.wrap (r.v - 1))).toNat : Int)))))) = true then
    some (w64 ((w64 ((IntKind.u64.wrap ((BitVec.ofInt (IntKind.u64).bits r1.1.v &&& BitVec.ofInt (IntKind.u64).bits (IntKind.u64.wrap (r.v - 1))).toNat : Int)))) - (w64 (b - a))))
   else
    some (w64 ((IntKind.u64.wrap ((BitVec.ofInt (IntKind.u64).bits r1.1.v &&& BitVec.ofInt (IntKind.u64).bits (IntKind.u64.wrap (r.v - 1))).toNat : Int))))).bind fun (v2 : Int) =>
   (idx data1 (w64 (a + v2))).bind fun e4 =>
   (idx data1 v).bind fun e5 =>
   (idx data1 v).bind fun e6 =>
   (idx (data1.set v.toNat e4) (w64 (a + v2))).bind fun e7 =>
   some (.nx ((w64 (v + 1)), ((data1.set v.toNat e4).set (w64 (a + v2)).toNat e5), r1.2.v))
  else
   some (.dn data1)
noncomputable def zq103 (data : List Match) (a : Int) (b : Int) (cmp : Match → Match → Option (Int)) : Option ((List Match)) :=
 if (decide (8 ≤ (w64 (b - a)))) = true then
  (zq122 (w64 (b - a))).bind fun r =>
  (chk ((4 : Int) ≠ 0)).bind fun u =>
  iter (zq103_L1 a b r) ((w64 ((w64 (a + (w64 ((w64 ((w64 (b - a)).tdiv 4)) * 2)))) - 1)), data, (IntKind.u64.wrap ((w64 (b - a)))))
 else
  some data
noncomputable def zq104 (data : List Match) (a : Int) (b : Int) : Option ((List Match)) :=
 zq103 data a b (fun (z0 : Match) (z1 : Match) => zq28 z0 z1)
noncomputable def zq135_L1 (rec_ : (List Match) → Int → Int → Int → Option ((List Match))) : Int × Int × Int × Bool × Bool × (List Match) → Option (Lp (Int × Int × Int × Bool × Bool × (List Match)) ((List Match)))
 | (a1, b1, limit1, mid, mid1, data1) =>
  if (decide ((w64 (b1 - a1)) ≤ 12)) = true then
   (zq114 data1 a1 b1).bind fun r =>
   some (.dn r)
  else
   if (limit1 == 0) = true then
    (zq110 data1 a1 b1).bind fun r2 =>
    some (.dn r2)
   else
    (if (!mid) = true then
     (zq104 data1 a1 b1).bind fun r4 =>
     some ((w64 (limit1 - 1)), r4)
    else
     some (limit1, data1)).bind fun ((limit2, data2) : Int × (List Match)) =>
    (zq107 data2 a1 b1).bind fun r5 =>
    (if (r5.2 == 2) = true then
     (zq138 data2 a1 b1).bind fun r6 =>
     some ((w64 ((w64 (b1 - 1)) - (w64 (r5.1 - a1)))), (1 : Int), r6)
    else
     some (r5.1, r5.2, data2)).bind fun ((leftLen, rightLen, data3) : Int × Int × (List Match)) =>
    flb ((if mid = true then if mid1 = true then some (rightLen == 1) else some false else some false).bind fun (v : Bool) =>
    if v = true then
     (zq127 data3 a1 b1).bind fun r7 =>
     if r7.1 = true then
      some (.ret (.dn r7.2))
     else
      some (.go r7.2)
    else
     some (.go data3)) fun (data4 : List Match) =>
    (if (decide (0 < a1)) = true then (idx data4 (w64 (a1 - 1))).bind fun e6 =>
    (idx data4 leftLen).bind fun e7 =>
    (zq28 e6 e7).bind fun r11 =>
    some (!(decide (r11 < 0))) else some false).bind fun (v1 : Bool) =>
    if v1 = true then
     (zq133 data4 a1 b1 leftLen).bind fun r12 =>
     some (.nx (r12.1, b1, limit2, mid, mid1, r12.2))
    else
     (zq130 data4 a1 b1 leftLen).bind fun r13 =>
     (chk ((8 : Int) ≠ 0)).bind fun u =>
     if (decide ((w64 (r13.1 - a1)) < (w64 (b1 - r13.1)))) = true then
      (rec_ r13.2.2 a1 r13.1 limit2).bind fun r14 =>
      some (.nx ((w64 (r13.1 + 1)), b1, limit2, (decide ((w64 ((w64 (b1 - a1)).tdiv 8)) ≤ (w64 (r13.1 - a1)))), r13.2.1, r14))
     else
      (rec_ r13.2.2 (w64 (r13.1 + 1)) b1 limit2).bind fun r15 =>
      some (.nx (a1, r13.1, limit2, (decide ((w64 ((w64 (b1 - a1)).tdiv 8)) ≤ (w64 (b1 - r13.1)))), r13.2.1, r15))
noncomputable def zq135_F (rec_ : (List Match) → Int → Int → Int → Option ((List Match))) (data : List Match) (a : Int) (b : Int) (limit : Int) : Option ((List Match)) :=
 iter (zq135_L1 rec_) (a, b, limit, true, true, data)
noncomputable def zq135_k : Nat → (List Match) → Int → Int → Int → Option ((List Match))
 | 0 => fun _ _ _ _ => none
 | n + 1 => zq135_F (zq135_k n)
noncomputable def zq135 (data : List Match) (a : Int) (b : Int) (limit : Int) : Option ((List Match)) := zq135_k 4294967296 data a b limit
noncomputable def zq100 (x : List Match) : Option ((List Match)) :=
 (zq33 (⟨(IntKind.u64.wrap ((x.length : Int)))⟩ : IK .u64)).bind fun r =>
 (zq135 x 0 (x.length : Int) r).bind fun r1 =>
 some r1
noncomputable def zq29 (n : Match) (c1 : Match) : Option (Bool) :=
 (if (n.Vehicle == c1.Vehicle) = true then some true else some (n.Id == c1.Id)).bind fun (v : Bool) =>
 some v
noncomputable def zq94_L1 (s : List Match) (f : Match → Option (Bool)) : Int → Option (Lp (Int) (Fl (Int) (Unit)))
 | v =>
  if (decide (v < (s.length : Int))) = true then
   (idx s v).bind fun e =>
   (f e).bind fun r =>
   if r = true then
    some (.dn (.ret v))
   else
    some (.nx (w64 (v + 1)))
  else
   some (.dn (.go ()))
noncomputable def zq94 (s : List Match) (f : Match → Option (Bool)) : Option (Int) :=
 flb (iter (zq94_L1 s f) (0 : Int)) fun (_ : Unit) =>
 some (-1)
noncomputable def zq97 (s : List Match) (c1 : Match) : Option (Int) :=
 zq94 s (fun (z0 : Match) => zq29 z0 c1)
noncomputable def zq90 (s : List Match) (f : Match → Option (Bool)) : Option (Bool) :=
 (zq94 s f).bind fun r =>
 some (decide (0 ≤ r))
noncomputable def zq93 (s : List Match) (c1 : Match) : Option (Bool) :=
 zq90 s (fun (z0 : Match) => zq29 z0 c1)
noncomputable def zq30 (a : Match) (b : Match) : Option (Int) :=
 (zq0 a.Vehicle b.Vehicle).bind fun r =>
 some r
noncomputable def zq115 (data : List Match) (a : Int) (b : Int) : Option ((List Match)) :=
 zq112 data a b (fun (z0 : Match) (z1 : Match) => zq30 z0 z1)
noncomputable def zq144 (data : List Match) (lo : Int) (hi : Int) (first : Int) : Option ((List Match)) :=
 zq142 data lo hi first (fun (z0 : Match) (z1 : Match) => zq30 z0 z1)
noncomputable def zq111 (data : List Match) (a : Int) (b : Int) : Option ((List Match)) :=
 zq109 data a b (fun (z0 : Match) (z1 : Match) => zq30 z0 z1)
noncomputable def zq125 (data : List Match) (a : Int) (b : Int) (swaps : Int) : Option (Int × Int × Int) :=
 zq123 data a b swaps (fun (z0 : Match) (z1 : Match) => zq30 z0 z1)
noncomputable def zq121 (data : List Match) (a : Int) (b : Int) (c : Int) (swaps : Int) : Option (Int × Int) :=
 zq119 data a b c swaps (fun (z0 : Match) (z1 : Match) => zq30 z0 z1)
noncomputable def zq118 (data : List Match) (a : Int) (swaps : Int) : Option (Int × Int) :=
 zq116 data a swaps (fun (z0 : Match) (z1 : Match) => zq30 z0 z1)
noncomputable def zq108 (data : List Match) (a : Int) (b : Int) : Option (Int × Int) :=
 zq106 data a b (fun (z0 : Match) (z1 : Match) => zq30 z0 z1)
noncomputable def zq139 (data : List Match) (a : Int) (b : Int) : Option ((List Match)) :=
 zq137 data a b (fun (z0 : Match) (z1 : Match) => zq30 z0 z1)
noncomputable def zq128 (data : List Match) (a : Int) (b : Int) : Option (Bool × (List Match)) :=
 zq126 data a b (fun (z0 : Match) (z1 : Match) => zq30 z0 z1)
noncomputable def zq134 (data : List Match) (a : Int) (b : Int) (pivot : Int) : Option (Int × (List Match)) :=
 zq132 data a b pivot (fun (z0 : Match) (z1 : Match) => zq30 z0 z1)
noncomputable def zq131 (data : List Match) (a : Int) (b : Int) (pivot : Int) : Option (Int × Bool × (List Match)) :=
 zq129 data a b pivot (fun (z0 : Match) (z1 : Match) => zq30 z0 z1)
noncomputable def zq105 (data : List Match) (a : Int) (b : Int) : Option ((List Match)) :=
 zq103 data a b (fun (z0 : Match) (z1 : Match) => zq30 z0 z1)
noncomputable def zq136_L1 (rec_ : (List Match) → Int → Int → Int → Option ((List Match))) : Int × Int × Int × Bool × Bool × (List Match) → Option (Lp (Int × Int × Int × Bool × Bool × (List Match)) ((List Match)))
 | (a1, b1, limit1, mid, mid1, data1) =>
  if (decide ((w64 (b1 - a1)) ≤ 12)) = true then
   (zq115 data1 a1 b1).bind fun r =>
   some (.dn r)
  else
   if (limit1 == 0) = true then
    (zq111 data1 a1 b1).bind fun r2 =>
    some (.dn r2)
   else
    (if (!mid) = true then
     (zq105 data1 a1 b1).bind fun r4 =>
     some ((w64 (limit1 - 1)), r4)
    else
     some (limit1, data1)).bind fun ((limit2, data2) : Int × (List Match)) =>
    (zq108 data2 a1 b1).bind fun r5 =>
    (if (r5.2 == 2) = true then
     (zq139 data2 a1 b1).bind fun r6 =>
     some ((w64 ((w64 (b1 - 1)) - (w64 (r5.1 - a1)))), (1 : Int), r6)
    else
     some (r5.1, r5.2, data2)).bind fun ((leftLen, rightLen, data3) : Int × Int × (List Match)) =>
    flb ((if mid = true then if mid1 = true then some (rightLen == 1) else some false else some false).bind fun (v : Bool) =>
    if v = true then
     (zq128 data3 a1 b1).bind fun r7 =>
     if r7.1 = true then
      some (.ret (.dn r7.2))
     else
      some (.go r7.2)
    else
     some (.go data3)) fun (data4 : List Match) =>
    (if (decide (0 < a1)) = true then (idx data4 (w64 (a1 - 1))).bind fun e6 =>
    (idx data4 leftLen).bind fun e7 =>
    (zq30 e6 e7).bind fun r11 =>
    some (!(decide (r11 < 0))) else some false).bind fun (v1 : Bool) =>
    if v1 = true then
     (zq134 data4 a1 b1 leftLen).bind fun r12 =>
     some (.nx (r12.1, b1, limit2, mid, mid1, r12.2))
    else
     (zq131 data4 a1 b1 leftLen).bind fun r13 =>
     (chk ((8 : Int) ≠ 0)).bind fun u =>
     if (decide ((w64 (r13.1 - a1)) < (w64 (b1 - r13.1)))) = true then
      (rec_ r13.2.2 a1 r13.1 limit2).bind fun r14 =>
      some (.nx ((w64 (r13.1 + 1)), b1, limit2, (decide ((w64 ((w64 (b1 - a1)).tdiv 8)) ≤ (w64 (r13.1 - a1)))), r13.2.1, r14))
     else
      (rec_ r13.2.2 (w64 (r13.1 + 1)) b1 limit2).bind fun r15 =>
      some (.nx (a1, r13.1, limit2, (decide ((w64 ((w64 (b1 - a1)).tdiv 8)) ≤ (w64 (b1 - r13.1)))), r13.2.1, r15))
noncomputable def zq136_F (rec_ : (List Match) → Int → Int → Int → Option ((List Match))) (data : List Match) (a : Int) (b : Int) (limit : Int) : Option ((List Match)) :=
 iter (zq136_L1 rec_) (a, b, limit, true, true, data)
noncomputable def zq136_k : Nat → (List Match) → Int → Int → Int → Option ((List Match))
 | 0 => fun _ _ _ _ => none
 | n + 1 => zq136_F (zq136_k n)
noncomputable def zq136 (data : List Match) (a : Int) (b : Int) (limit : Int) : Option ((List Match)) := zq136_k 4294967296 data a b limit
noncomputable def zq101 (x : List Match) : Option ((List Match)) :=
 (zq33 (⟨(IntKind.u64.wrap ((x.length : Int)))⟩ : IK .u64)).bind fun r =>
 (zq136 x 0 (x.length : Int) r).bind fun r1 =>
 some r1
noncomputable def zq27_L1 (limit : Int) (r1 : (List Match)) : Int × (List Match) → Option (Lp (Int × (List Match)) ((List Match)))
 | (v2, v3) =>
  if (decide (v2 < (r1.length : Int))) = true then
   ((idx r1 v2).bind fun e1 =>
   (zq12 e1.Delay).bind fun r2 =>
   if (decide (r2 ≤ limit)) = true then
    (chk (v3.length + ([e1] : List Match).length ≤ 4294967296)).bind fun u =>
    some (v3 ++ ([e1] : List Match))
   else
    some v3).bind fun (v4 : List Match) =>
   some (.nx ((w64 (v2 + 1)), v4))
  else
   some (.dn v3)
noncomputable def zq27_L2 (t : Timetable) (limit : Int) (r : (List Report)) : Int × (List Match) → Option (Lp (Int × (List Match)) ((List Match)))
 | (v, v1) =>
  if (decide (v < (r.length : Int))) = true then
   (idx r v).bind fun e =>
   (zq18 t e).bind fun r1 =>
   (iter (zq27_L1 limit r1) ((0 : Int), v1)).bind fun (v5 : List Match) =>
   some (.nx ((w64 (v + 1)), v5))
  else
   some (.dn v1)
noncomputable def zq27_L3 (r3 : (List Match)) : Int × (List Match) → Option (Lp (Int × (List Match)) ((List Match)))
 | (v7, v8) =>
  if (decide (v7 < (r3.length : Int))) = true then
   ((idx r3 v7).bind fun e2 =>
   (zq93 v8 e2).bind fun r4 =>
   if (!r4) = true then
    (chk (v8.length + ([e2] : List Match).length ≤ 4294967296)).bind fun u1 =>
    some (v8 ++ ([e2] : List Match))
   else
    some v8).bind fun (v9 : List Match) =>
   some (.nx ((w64 (v7 + 1)), v9))
  else
   some (.dn v8)
noncomputable def zq27 (t : Timetable) (list : List Report) (limit : Int) : Option ((List Match)) :=
 (zq25 list).bind fun r =>
 (iter (zq27_L2 t limit r) ((0 : Int), ([] : List Match))).bind fun (v6 : List Match) =>
 (zq100 v6).bind fun r3 =>
 (iter (zq27_L3 r3) ((0 : Int), ([] : List Match))).bind fun (v10 : List Match) =>
 (zq101 v10).bind fun r5 =>
 some r5
noncomputable def zq9 (t : Timetable) (list : List Report) (limit : Int) : Option ((List Match) × Bool) :=
 (zq13 t list limit).bind fun r =>
 if (!r) = true then
  some (([] : List Match), false)
 else
  (zq27 t list limit).bind fun r1 =>
  some (r1, true)
noncomputable def zq72 (t : Timetable) (r : Report) : Option (Bool) :=
 (zq59 r.Vehicle 1 99).bind fun r6 =>
 (if r6 = true then (zq84 r.Time).bind fun r7 =>
 if r7 = true then (zq59 r.Line 0 (w64 ((t.Network.Lines.length : Int) - 1))).bind fun r8 =>
 if r8 = true then (idx t.Network.Lines r.Line).bind fun e1 =>
 (zq70 e1).bind fun r9 =>
 (zq59 r.Done 0 r9).bind fun r10 =>
 some r10 else some false else some false else some false).bind fun (v : Bool) =>
 some v
noncomputable def zq68_L1 (t : Timetable) (list : List Report) : Int → Option (Lp (Int) (Fl (Bool) (Unit)))
 | v1 =>
  if (decide (v1 < (list.length : Int))) = true then
   (idx list v1).bind fun e1 =>
   (zq72 t e1).bind fun r2 =>
   if (!r2) = true then
    some (.dn (.ret false))
   else
    (if (decide (0 < v1)) = true then (idx list (w64 (v1 - 1))).bind fun e9 =>
    (idx list v1).bind fun e10 =>
    if (decide (e10.Time < e9.Time)) = true then some true else (idx list (w64 (v1 - 1))).bind fun e11 =>
    (idx list v1).bind fun e12 =>
    if (e11.Time == e12.Time) = true then (idx list (w64 (v1 - 1))).bind fun e13 =>
    (idx list v1).bind fun e14 =>
    some (decide (e14.Vehicle ≤ e13.Vehicle)) else some false else some false).bind fun (v2 : Bool) =>
    if v2 = true then
     some (.dn (.ret false))
    else
     some (.nx (w64 (v1 + 1)))
  else
   some (.dn (.go ()))
noncomputable def zq68 (t : Timetable) (list : List Report) : Option (Bool) :=
 (zq87 t).bind fun r =>
 (if (!r) = true then some true else some (decide (20 < (list.length : Int)))).bind fun (v : Bool) =>
 if v = true then
  some false
 else
  flb (iter (zq68_L1 t list) (0 : Int)) fun (_ : Unit) =>
  some true
noncomputable def zq65 (t : Timetable) (list : List Report) (limit : Int) : Option (Bool) :=
 (zq68 t list).bind fun r =>
 (if r = true then (zq59 limit 0 1799).bind fun r1 =>
 some r1 else some false).bind fun (v : Bool) =>
 some v
noncomputable def zq69_L1 (list : List Report) (i : Int) (v : List Report) : Int → Option (Lp (Int) ((List Report)))
 | v2 =>
  if (decide (0 ≤ v2)) = true then
   (idx list v2).bind fun e =>
   if (e.Vehicle == i) = true then
    (idx list v2).bind fun e1 =>
    (chk (v.length + ([e1] : List Report).length ≤ 4294967296)).bind fun u =>
    some (.dn (v ++ ([e1] : List Report)))
   else
    some (.nx (w64 (v2 - 1)))
  else
   some (.dn v)
noncomputable def zq69_L2 (list : List Report) : Int × (List Report) → Option (Lp (Int × (List Report)) ((List Report)))
 | (i, v) =>
  if (decide (i ≤ 99)) = true then
   ((iter (zq69_L1 list i v) (w64 ((list.length : Int) - 1))).bind fun (v3 : List Report) =>
   some v3).bind fun (v1 : List Report) =>
   some (.nx ((w64 (i + 1)), v1))
  else
   some (.dn v)
noncomputable def zq69 (list : List Report) : Option ((List Report)) :=
 (iter (zq69_L2 list) ((1 : Int), ([] : List Report))).bind fun (v4 : List Report) =>
 some v4
noncomputable def zq60 (a : Int) (b : Int) : Option (Int) :=
 if (decide (b < a)) = true then
  some a
 else
  some b
noncomputable def zq64 (x : Int) : Option (Int) :=
 (zq60 x (w64 (0 - x))).bind fun r =>
 some r
noncomputable def zq67_L1 (r : Report) (m : List Match) (e5 : Trip) : Int → Option (Lp (Int) (Int))
 | v =>
  (if (decide (0 < v)) = true then (idx m (w64 (v - 1))).bind fun e9 =>
  (zq64 e9.Delay).bind fun r5 =>
  (zq64 (w64 ((w64 (r.Time - e5.Start)) - r.Done))).bind fun r6 =>
  if (decide (r6 < r5)) = true then some true else (idx m (w64 (v - 1))).bind fun e10 =>
  (zq64 e10.Delay).bind fun r7 =>
  (zq64 (w64 ((w64 (r.Time - e5.Start)) - r.Done))).bind fun r8 =>
  if (r7 == r8) = true then (idx m (w64 (v - 1))).bind fun e11 =>
  some (decide ((w64 ((w64 (r.Time - e5.Start)) - r.Done)) < e11.Delay)) else some false else some false).bind fun (v1 : Bool) =>
  if v1 = true then
   some (.nx (w64 (v - 1)))
  else
   some (.dn v)
noncomputable def zq67_L2 (t : Timetable) (r : Report) : Int × (List Match) → Option (Lp (Int × (List Match)) ((List Match)))
 | (k, m) =>
  if (decide (k < (t.Trips.length : Int))) = true then
   ((idx t.Trips k).bind fun e1 =>
   if (e1.Line != r.Line) = true then
    some m
   else
    (idx t.Trips k).bind fun e4 =>
    (idx t.Trips k).bind fun e5 =>
    (iter (zq67_L1 r m e5) (m.length : Int)).bind fun (v2 : Int) =>
    (chk ((0 : Int) ≤ 0 ∧ 0 ≤ v2 ∧ v2 ≤ (m.length : Int))).bind fun u5 =>
    (chk (([] : List Match).length + ((m.take v2.toNat).drop (0 : Int).toNat).length ≤ 4294967296)).bind fun u6 =>
    (chk ((([] : List Match) ++ ((m.take v2.toNat).drop (0 : Int).toNat)).length + ([(⟨r.Vehicle, e4.Id, (w64 ((w64 (r.Time - e5.Start)) - r.Done))⟩ : Match)] : List Match).length ≤ 4294967296)).bind fun u7 =>
    (chk ((0 : Int) ≤ v2 ∧ v2 ≤ (m.length : Int))).bind fun u8 =>
    (chk (((([] : List Match) ++ ((m.take v2.toNat).drop (0 : Int).toNat)) ++ ([(⟨r.Vehicle, e4.Id, (w64 ((w64 (r.Time - e5.Start)) - r.Done))⟩ : Match)] : List Match)).length + (m.drop v2.toNat).length ≤ 4294967296)).bind fun u9 =>
    some (((([] : List Match) ++ ((m.take v2.toNat).drop (0 : Int).toNat)) ++ ([(⟨r.Vehicle, e4.Id, (w64 ((w64 (r.Time - e5.Start)) - r.Done))⟩ : Match)] : List Match)) ++ (m.drop v2.toNat))).bind fun (m1 : List Match) =>
   some (.nx ((w64 (k + 1)), m1))
  else
   some (.dn m)
noncomputable def zq67 (t : Timetable) (r : Report) : Option ((List Match)) :=
 (iter (zq67_L2 t r) ((0 : Int), ([] : List Match))).bind fun (m2 : List Match) =>
 some m2
noncomputable def zq58_L1 (l : List Int) (n : Int) : Int → Option (Lp (Int) (Fl (Bool) (Unit)))
 | v =>
  if (decide (v < (l.length : Int))) = true then
   (idx l v).bind fun e =>
   if (e == n) = true then
    some (.dn (.ret true))
   else
    some (.nx (w64 (v + 1)))
  else
   some (.dn (.go ()))
noncomputable def zq58 (l : List Int) (n : Int) : Option (Bool) :=
 flb (iter (zq58_L1 l n) (0 : Int)) fun (_ : Unit) =>
 some false
noncomputable def zq66 (a : Match) (b : Match) : Option (Bool) :=
 (zq64 a.Delay).bind fun r2 =>
 (zq64 b.Delay).bind fun r3 =>
 (if (decide (r2 < r3)) = true then some true else if (r2 == r3) = true then if (decide (a.Vehicle < b.Vehicle)) = true then some true else if (a.Vehicle == b.Vehicle) = true then some (decide (a.Id < b.Id)) else some false else some false).bind fun (y_ : Bool) =>
 some y_
noncomputable def zq71_L1 (limit : Int) (i : List Int) (some_ : List Int) (r2 : (List Match)) : Int × Int × Int × Int → Option (Lp (Int × Int × Int × Int) (Int × Int × Int))
 | (v3, v4, v5, v6) =>
  if (decide (v3 < (r2.length : Int))) = true then
   ((idx r2 v3).bind fun e2 =>
   (zq64 e2.Delay).bind fun r3 =>
   (if (decide (limit < r3)) = true then some true else (zq58 i e2.Vehicle).bind fun r4 =>
   if r4 = true then some true else (zq58 some_ e2.Id).bind fun r5 =>
   some r5).bind fun (v10 : Bool) =>
   if v10 = true then
    some (v4, v5, v6)
   else
    (if (v4 == 0) = true then some true else (zq66 e2 (⟨v4, v5, v6⟩ : Match)).bind fun r6 =>
    some r6).bind fun (v11 : Bool) =>
    if v11 = true then
     some (e2.Vehicle, e2.Id, e2.Delay)
    else
     some (v4, v5, v6)).bind fun ((v7, v8, v9) : Int × Int × Int) =>
   some (.nx ((w64 (v3 + 1)), v7, v8, v9))
  else
   some (.dn (v4, v5, v6))
noncomputable def zq71_L2 (t : Timetable) (limit : Int) (r : (List Report)) (i : List Int) (some_ : List Int) : Int × Int × Int × Int → Option (Lp (Int × Int × Int × Int) (Int × Int × Int))
 | (m, v, v1, v2) =>
  if (decide (m < (r.length : Int))) = true then
   (idx r m).bind fun e1 =>
   (zq67 t e1).bind fun r2 =>
   (iter (zq71_L1 limit i some_ r2) ((0 : Int), v, v1, v2)).bind fun ((v12, v13, v14) : Int × Int × Int) =>
   some (.nx ((w64 (m + 1)), v12, v13, v14))
  else
   some (.dn (v, v1, v2))
noncomputable def zq71_L3 (ids : List Match) (v15 : Int) : Int → Option (Lp (Int) (Int))
 | v18 =>
  (if (decide (0 < v18)) = true then (idx ids (w64 (v18 - 1))).bind fun e5 =>
  some (decide (v15 < e5.Vehicle)) else some false).bind fun (v19 : Bool) =>
  if v19 = true then
   some (.nx (w64 (v18 - 1)))
  else
   some (.dn v18)
noncomputable def zq71_L4 (t : Timetable) (limit : Int) (r : (List Report)) : (List Match) × (List Int) × (List Int) → Option (Lp ((List Match) × (List Int) × (List Int)) ((List Match)))
 | (ids, i, some_) =>
  (iter (zq71_L2 t limit r i some_) ((0 : Int), (0 : Int), (0 : Int), (0 : Int))).bind fun ((v15, v16, v17) : Int × Int × Int) =>
  if (v15 == 0) = true then
   some (.dn ids)
  else
   (chk (i.length + ([v15] : List Int).length ≤ 4294967296)).bind fun u =>
   (chk (some_.length + ([v16] : List Int).length ≤ 4294967296)).bind fun u1 =>
   (iter (zq71_L3 ids v15) (ids.length : Int)).bind fun (v20 : Int) =>
   (chk ((0 : Int) ≤ 0 ∧ 0 ≤ v20 ∧ v20 ≤ (ids.length : Int))).bind fun u7 =>
   (chk (([] : List Match).length + ((ids.take v20.toNat).drop (0 : Int).toNat).length ≤ 4294967296)).bind fun u8 =>
   (chk ((([] : List Match) ++ ((ids.take v20.toNat).drop (0 : Int).toNat)).length + ([(⟨v15, v16, v17⟩ : Match)] : List Match).length ≤ 4294967296)).bind fun u9 =>
   (chk ((0 : Int) ≤ v20 ∧ v20 ≤ (ids.length : Int))).bind fun u10 =>
   (chk (((([] : List Match) ++ ((ids.take v20.toNat).drop (0 : Int).toNat)) ++ ([(⟨v15, v16, v17⟩ : Match)] : List Match)).length + (ids.drop v20.toNat).length ≤ 4294967296)).bind fun u11 =>
   some (.nx ((((([] : List Match) ++ ((ids.take v20.toNat).drop (0 : Int).toNat)) ++ ([(⟨v15, v16, v17⟩ : Match)] : List Match)) ++ (ids.drop v20.toNat)), (i ++ ([v15] : List Int)), (some_ ++ ([v16] : List Int))))
noncomputable def zq71 (t : Timetable) (list : List Report) (limit : Int) : Option ((List Match)) :=
 (zq69 list).bind fun r =>
 iter (zq71_L4 t limit r) (([] : List Match), ([] : List Int), ([] : List Int))
noncomputable def zq37 (t : Timetable) (list : List Report) (limit : Int) : Option ((List Match) × Bool) :=
 (zq65 t list limit).bind fun r =>
 if (!r) = true then
  some (([] : List Match), false)
 else
  (zq71 t list limit).bind fun r1 =>
  some (r1, true)
noncomputable def zq8 (m : Match) (c1 : Report) : Option (Bool) :=
 some (m.Vehicle == c1.Vehicle)
noncomputable def zq95 (s : List Match) (c1 : Report) : Option (Int) :=
 zq94 s (fun (z0 : Match) => zq8 z0 c1)
noncomputable def zq91 (s : List Match) (c1 : Report) : Option (Bool) :=
 zq90 s (fun (z0 : Match) => zq8 z0 c1)
noncomputable def zq7_L1 (r1 : (List Match)) (r2 : (List Report)) : Int × (List Int) → Option (Lp (Int × (List Int)) ((List Int)))
 | (v, v1) =>
  if (decide (v < (r2.length : Int))) = true then
   ((idx r2 v).bind fun e =>
   (zq91 r1 e).bind fun r3 =>
   if (!r3) = true then
    (chk (v1.length + ([e.Vehicle] : List Int).length ≤ 4294967296)).bind fun u =>
    some (v1 ++ ([e.Vehicle] : List Int))
   else
    some v1).bind fun (v2 : List Int) =>
   some (.nx ((w64 (v + 1)), v2))
  else
   some (.dn v1)
noncomputable def zq7 (t : Timetable) (list : List Report) (limit : Int) : Option ((List Int) × Bool) :=
 (zq13 t list limit).bind fun r =>
 if (!r) = true then
  some (([] : List Int), false)
 else
  (zq27 t list limit).bind fun r1 =>
  (zq25 list).bind fun r2 =>
  (iter (zq7_L1 r1 r2) ((0 : Int), ([] : List Int))).bind fun (v3 : List Int) =>
  some (v3, true)
noncomputable def zq151_L1 (list : List Int) (x : Int) : Int → Option (Lp (Int) (Fl (Bool) (Unit)))
 | v =>
  if (decide (v < (list.length : Int))) = true then
   (idx list v).bind fun e =>
   if (e == x) = true then
    some (.dn (.ret true))
   else
    some (.nx (w64 (v + 1)))
  else
   some (.dn (.go ()))
noncomputable def zq151 (list : List Int) (x : Int) : Option (Bool) :=
 flb (iter (zq151_L1 list x) (0 : Int)) fun (_ : Unit) =>
 some false
noncomputable def zq36 (code : List UInt8) : Option (Timetable × (List Report) × Int × Int) :=
 (zq42 (⟨code, 0, (⟨0⟩ : IK .u64)⟩ : l1Cur)).bind fun r =>
 (zq55 r.2 r.1).bind fun r1 =>
 (zq43 r1.2).bind fun r2 =>
 (zq49 r2.2 r.1).bind fun r4 =>
 some (r.1, r1.1, r2.1, r4.1)
noncomputable def zq11 (m : Match) (c1 : Trip) : Option (Bool) :=
 some (m.Id == c1.Id)
noncomputable def zq96 (s : List Match) (c1 : Trip) : Option (Int) :=
 zq94 s (fun (z0 : Match) => zq11 z0 c1)
noncomputable def zq92 (s : List Match) (c1 : Trip) : Option (Bool) :=
 zq90 s (fun (z0 : Match) => zq11 z0 c1)
noncomputable def zq10_L1 (t : Timetable) (now : Int) (r2 : (List Match)) : Int × (List Int) → Option (Lp (Int × (List Int)) ((List Int)))
 | (v1, v2) =>
  if (decide (v1 < (t.Trips.length : Int))) = true then
   ((idx t.Trips v1).bind fun e =>
   (zq17 t e).bind fun r6 =>
   (zq32 now e.Start r6).bind fun r7 =>
   (if r7 = true then (zq92 r2 e).bind fun r8 =>
   some (!r8) else some false).bind fun (v4 : Bool) =>
   if v4 = true then
    (chk (v2.length + ([e.Id] : List Int).length ≤ 4294967296)).bind fun u =>
    some (v2 ++ ([e.Id] : List Int))
   else
    some v2).bind fun (v3 : List Int) =>
   some (.nx ((w64 (v1 + 1)), v3))
  else
   some (.dn v2)
noncomputable def zq10 (t : Timetable) (list : List Report) (limit : Int) (now : Int) : Option ((List Int) × Bool) :=
 (zq13 t list limit).bind fun r =>
 (if (!r) = true then some true else (zq5 now).bind fun r1 =>
 some (!r1)).bind fun (v : Bool) =>
 if v = true then
  some (([] : List Int), false)
 else
  (zq27 t list limit).bind fun r2 =>
  (iter (zq10_L1 t now r2) ((0 : Int), ([] : List Int))).bind fun (v5 : List Int) =>
  some (v5, true)
noncomputable def zq38_L1 (t : Timetable) (r2 : (List Match)) (v1 : Int) : Bool × Int → Option (Lp (Bool × Int) (Bool))
 | (v2, v3) =>
  if (decide (v3 < (r2.length : Int))) = true then
   if v2 = true then (idx r2 v3).bind fun e4 =>
   (idx t.Trips v1).bind fun e5 =>
   some (.nx ((e4.Id != e5.Id), (w64 (v3 + 1)))) else some (.nx (false, (w64 (v3 + 1))))
  else
   some (.dn v2)
noncomputable def zq38_L2 (t : Timetable) (now : Int) (r2 : (List Match)) : Int × (List Int) → Option (Lp (Int × (List Int)) ((List Int)))
 | (v1, k) =>
  if (decide (v1 < (t.Trips.length : Int))) = true then
   ((idx t.Trips v1).bind fun e1 =>
   (zq86 t v1).bind fun r5 =>
   (zq59 now e1.Start r5).bind fun r6 =>
   (iter (zq38_L1 t r2 v1) (r6, (0 : Int))).bind fun (v4 : Bool) =>
   if v4 = true then
    (idx t.Trips v1).bind fun e6 =>
    (chk (k.length + ([e6.Id] : List Int).length ≤ 4294967296)).bind fun u =>
    some (k ++ ([e6.Id] : List Int))
   else
    some k).bind fun (k1 : List Int) =>
   some (.nx ((w64 (v1 + 1)), k1))
  else
   some (.dn k)
noncomputable def zq38 (t : Timetable) (list : List Report) (limit : Int) (now : Int) : Option ((List Int) × Bool) :=
 (zq65 t list limit).bind fun r =>
 (if (!r) = true then some true else (zq84 now).bind fun r1 =>
 some (!r1)).bind fun (v : Bool) =>
 if v = true then
  some (([] : List Int), false)
 else
  (zq71 t list limit).bind fun r2 =>
  (iter (zq38_L2 t now r2) ((0 : Int), ([] : List Int))).bind fun (k2 : List Int) =>
  some (k2, true)
noncomputable def zq152_L1 (a : List Int) (b : List Int) : Int → Option (Lp (Int) (Fl (Bool) (Unit)))
 | v =>
  if (decide (v < (a.length : Int))) = true then
   (idx a v).bind fun e2 =>
   (idx b v).bind fun e3 =>
   if (e2 != e3) = true then
    some (.dn (.ret false))
   else
    some (.nx (w64 (v + 1)))
  else
   some (.dn (.go ()))
noncomputable def zq152 (a : List Int) (b : List Int) : Option (Bool) :=
 if ((a.length : Int) != (b.length : Int)) = true then
  some false
 else
  flb (iter (zq152_L1 a b) (0 : Int)) fun (_ : Unit) =>
  some true
noncomputable def v_FnMatches_L1 (r2 : (List Match) × Bool) (m : Int) (e : Match) : Int → Option (Lp (Int) (Fl (Lp (Int) (Fl (Bool) (Unit))) (Unit)))
 | i =>
  if (decide (i < m)) = true then
   (idx r2.1 i).bind fun e7 =>
   if (e7.Id == e.Id) = true then
    some (.dn (.ret (.dn (.ret false))))
   else
    some (.nx (w64 (i + 1)))
  else
   some (.dn (.go ()))
noncomputable def v_FnMatches_L2 (r1 : Timetable × (List Report) × Int) (r2 : (List Match) × Bool) (r3 : (List Match) × Bool) (r5 : (List Int) × Bool) : Int → Option (Lp (Int) (Fl (Bool) (Unit)))
 | m =>
  if (decide (m < (r2.1.length : Int))) = true then
   (idx r2.1 m).bind fun e =>
   (idx r3.1 m).bind fun e3 =>
   (if (!((e.Vehicle == e3.Vehicle) && ((e.Id == e3.Id) && ((e.Delay == e3.Delay) && true)))) = true then some true else if (decide (r1.2.2 < e.Delay)) = true then some true else if (decide (r1.2.2 < (w64 (0 - e.Delay)))) = true then some true else (zq151 r5.1 e.Vehicle).bind fun r7 =>
   if r7 = true then some true else if (decide (0 < m)) = true then (idx r2.1 (w64 (m - 1))).bind fun e4 =>
   some (decide (e.Vehicle ≤ e4.Vehicle)) else some false).bind fun (v1 : Bool) =>
   if v1 = true then
    some (.dn (.ret false))
   else
    flb (iter (v_FnMatches_L1 r2 m e) (0 : Int)) fun (_ : Unit) =>
    some (.nx (w64 (m + 1)))
  else
   some (.dn (.go ()))
noncomputable def v_FnMatches_L3 (r1 : Timetable × (List Report) × Int) (r2 : (List Match) × Bool) (there : Int) : Bool × Int → Option (Lp (Bool × Int) (Bool))
 | (k, u) =>
  if (decide (u < (r2.1.length : Int))) = true then
   if k = true then some (.nx (true, (w64 (u + 1)))) else (idx r2.1 u).bind fun e13 =>
   (idx r1.2.1 there).bind fun e14 =>
   some (.nx ((e13.Vehicle == e14.Vehicle), (w64 (u + 1))))
  else
   some (.dn k)
noncomputable def v_FnMatches_L4 (r1 : Timetable × (List Report) × Int) (r2 : (List Match) × Bool) (r5 : (List Int) × Bool) : Int → Option (Lp (Int) (Fl (Bool) (Unit)))
 | there =>
  (if (decide (there < (r1.2.1.length : Int))) = true then some r2.2 else some false).bind fun (v3 : Bool) =>
  if v3 = true then
   (idx r1.2.1 there).bind fun e10 =>
   (zq151 r5.1 e10.Vehicle).bind fun r11 =>
   (iter (v_FnMatches_L3 r1 r2 there) (r11, (0 : Int))).bind fun (k1 : Bool) =>
   if (!k1) = true then
    some (.dn (.ret false))
   else
    some (.nx (w64 (there + 1)))
  else
   some (.dn (.go ()))
noncomputable def v_FnMatches (code : List UInt8) : Option (Bool) :=
 (zq150 code).bind fun r =>
 if r = true then
  some true
 else
  (zq35 code).bind fun r1 =>
  (zq9 r1.1 r1.2.1 r1.2.2).bind fun r2 =>
  (zq37 r1.1 r1.2.1 r1.2.2).bind fun r3 =>
  (if (!(r2.2 == r3.2)) = true then some true else if ((r2.1.length : Int) != (r3.1.length : Int)) = true then some true else if r2.2 = true then (zq4 r1.1 r1.2.1).bind fun r4 =>
  some (!r4) else some false).bind fun (v : Bool) =>
  if v = true then
   some false
  else
   (zq7 r1.1 r1.2.1 r1.2.2).bind fun r5 =>
   if (!(r5.2 == r2.2)) = true then
    some false
   else
    flb (iter (v_FnMatches_L2 r1 r2 r3 r5) (0 : Int)) fun (_ : Unit) =>
    flb (iter (v_FnMatches_L4 r1 r2 r5) (0 : Int)) fun (_ : Unit) =>
    (zq36 code).bind fun r13 =>
    (zq10 r13.1 r13.2.1 r13.2.2.1 r13.2.2.2).bind fun r14 =>
    (zq38 r13.1 r13.2.1 r13.2.2.1 r13.2.2.2).bind fun r15 =>
    (if (r14.2 == r15.2) = true then (zq152 r14.1 r15.1).bind fun r16 =>
    some r16 else some false).bind fun (t : Bool) =>
    some t
end Go.Proofs.YtaegkodcjpgndaaGreat
