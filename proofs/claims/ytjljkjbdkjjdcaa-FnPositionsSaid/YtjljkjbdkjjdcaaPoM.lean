/- Models of the functions that the law reaches: plain Lean; none where the function would panic or not end. Made by program (dec.py). -/
import Derived.Test.YtjljkjbdkjjdcaaAbC0
namespace Go.Proofs.Ytjljkjbdkjjdcaa
open Go Go.Ab
set_option maxRecDepth 100000
set_option maxHeartbeats 4000000
set_option linter.unusedVariables false
set_option linter.unusedSimpArgs false
structure l1Cur where
 code_ : List UInt8
 at_ : Int
 seed_ : IK .u64
instance enc_l1Cur : Enc l1Cur := ⟨3, fun x => .agg [Enc.e x.code_, .sc (.int .i64 x.at_), .sc (.int .u64 x.seed_.v)], fun a b h => by
 simp only [D.agg.injEq, List.cons.injEq, and_true] at h
 obtain ⟨a1, a2, a3⟩ := a
 obtain ⟨b1, b2, b3⟩ := b
 obtain ⟨h1, h2, h3⟩ := h
 have q1 := Enc.inj (α := List UInt8) a1 b1 h1
 have q2 := Enc.inj (α := Int) a2 b2 h2
 have q3 := Enc.inj (α := IK .u64) a3 b3 h3
 subst q1; subst q2; subst q3; rfl⟩
structure Line where
 Name : ByteArray
 Stops : List Int
 Runs : List Int
instance enc_Line : Enc Line := ⟨3, fun x => .agg [.sc (.string x.Name), Enc.e x.Stops, Enc.e x.Runs], fun a b h => by
 simp only [D.agg.injEq, List.cons.injEq, and_true] at h
 obtain ⟨a1, a2, a3⟩ := a
 obtain ⟨b1, b2, b3⟩ := b
 obtain ⟨h1, h2, h3⟩ := h
 have q1 := Enc.inj (α := ByteArray) a1 b1 h1
 have q2 := Enc.inj (α := List Int) a2 b2 h2
 have q3 := Enc.inj (α := List Int) a3 b3 h3
 subst q1; subst q2; subst q3; rfl⟩
structure Network where
 Stops : List ByteArray
 Lines : List Line
instance enc_Network : Enc Network := ⟨2, fun x => .agg [Enc.e x.Stops, Enc.e x.Lines], fun a b h => by
 simp only [D.agg.injEq, List.cons.injEq, and_true] at h
 obtain ⟨a1, a2⟩ := a
 obtain ⟨b1, b2⟩ := b
 obtain ⟨h1, h2⟩ := h
 have q1 := Enc.inj (α := List ByteArray) a1 b1 h1
 have q2 := Enc.inj (α := List Line) a2 b2 h2
 subst q1; subst q2; rfl⟩
structure Trip where
 Id : Int
 Line : Int
 Start : Int
instance enc_Trip : Enc Trip := ⟨3, fun x => .agg [.sc (.int .i64 x.Id), .sc (.int .i64 x.Line), .sc (.int .i64 x.Start)], fun a b h => by
 simp only [D.agg.injEq, List.cons.injEq, and_true] at h
 obtain ⟨a1, a2, a3⟩ := a
 obtain ⟨b1, b2, b3⟩ := b
 obtain ⟨h1, h2, h3⟩ := h
 have q1 := Enc.inj (α := Int) a1 b1 h1
 have q2 := Enc.inj (α := Int) a2 b2 h2
 have q3 := Enc.inj (α := Int) a3 b3 h3
 subst q1; subst q2; subst q3; rfl⟩
structure Timetable where
 Network : Network
 Trips : List Trip
instance enc_Timetable : Enc Timetable := ⟨3, fun x => .agg [Enc.e x.Network.Stops, Enc.e x.Network.Lines, Enc.e x.Trips], fun a b h => by
 simp only [D.agg.injEq, List.cons.injEq, and_true] at h
 obtain ⟨⟨a1, a2⟩, a3⟩ := a
 obtain ⟨⟨b1, b2⟩, b3⟩ := b
 obtain ⟨h1, h2, h3⟩ := h
 have q1 := Enc.inj (α := List ByteArray) a1 b1 h1
 have q2 := Enc.inj (α := List Line) a2 b2 h2
 have q3 := Enc.inj (α := List Trip) a3 b3 h3
 subst q1; subst q2; subst q3; rfl⟩
structure Report where
 Vehicle : Int
 Time : Int
 Line : Int
 Done : Int
instance enc_Report : Enc Report := ⟨4, fun x => .agg [.sc (.int .i64 x.Vehicle), .sc (.int .i64 x.Time), .sc (.int .i64 x.Line), .sc (.int .i64 x.Done)], fun a b h => by
 simp only [D.agg.injEq, List.cons.injEq, and_true] at h
 obtain ⟨a1, a2, a3, a4⟩ := a
 obtain ⟨b1, b2, b3, b4⟩ := b
 obtain ⟨h1, h2, h3, h4⟩ := h
 have q1 := Enc.inj (α := Int) a1 b1 h1
 have q2 := Enc.inj (α := Int) a2 b2 h2
 have q3 := Enc.inj (α := Int) a3 b3 h3
 have q4 := Enc.inj (α := Int) a4 b4 h4
 subst q1; subst q2; subst q3; subst q4; rfl⟩
structure Match where
 Vehicle : Int
 Id : Int
 Delay : Int
instance enc_Match : Enc Match := ⟨3, fun x => .agg [.sc (.int .i64 x.Vehicle), .sc (.int .i64 x.Id), .sc (.int .i64 x.Delay)], fun a b h => by
 simp only [D.agg.injEq, List.cons.injEq, and_true] at h
 obtain ⟨a1, a2, a3⟩ := a
 obtain ⟨b1, b2, b3⟩ := b
 obtain ⟨h1, h2, h3⟩ := h
 have q1 := Enc.inj (α := Int) a1 b1 h1
 have q2 := Enc.inj (α := Int) a2 b2 h2
 have q3 := Enc.inj (α := Int) a3 b3 h3
 subst q1; subst q2; subst q3; rfl⟩
instance : BxE l1Cur := ⟨fun x y h => Enc.inj x y (congrArg D.agg h)⟩
instance : BxE Line := ⟨fun x y h => Enc.inj x y (congrArg D.agg h)⟩
instance : BxE Network := ⟨fun x y h => Enc.inj x y (congrArg D.agg h)⟩
instance : BxE Trip := ⟨fun x y h => Enc.inj x y (congrArg D.agg h)⟩
instance : BxE Timetable := ⟨fun x y h => Enc.inj x y (congrArg D.agg h)⟩
instance : BxE Report := ⟨fun x y h => Enc.inj x y (congrArg D.agg h)⟩
instance : BxE Match := ⟨fun x y h => Enc.inj x y (congrArg D.agg h)⟩
instance : FlatEnc Trip := ⟨fun _ => flatDB_ok rfl⟩
instance : FlatEnc Report := ⟨fun _ => flatDB_ok rfl⟩
instance : FlatEnc Match := ⟨fun _ => flatDB_ok rfl⟩
noncomputable def v_rBig (code : List UInt8) : Option (Bool) :=
 some (decide (65536 < (code.length : Int)))
noncomputable def s_l1Cur_next (c : l1Cur) : Option (Int × l1Cur) :=
 (if (decide (c.at_ < (c.code_.length : Int))) = true then
  (idx c.code_ c.at_).bind fun e1 =>
  some (w64 ((e1.toNat : Int)))
 else
  some (0 : Int)).bind fun (v : Int) =>
 if (decide ((w64 (c.at_ + 1)) ≤ (c.code_.length : Int))) = true then
  some (v, (⟨c.code_, (w64 (c.at_ + 1)), (⟨(IntKind.u64.wrap ((IntKind.u64.wrap ((IntKind.u64.wrap (c.seed_.v * 6364136223846793005)) + (IntKind.u64.wrap (v)))) + 900900))⟩ : IK .u64)⟩ : l1Cur))
 else
  (chk ((0 : Int) ≤ 40)).bind fun u =>
  some ((w64 ((IntKind.u64.wrap ((BitVec.ofInt (IntKind.u64).bits ((IntKind.u64.wrap ((IntKind.u64.wrap ((IntKind.u64.wrap (c.seed_.v * 6364136223846793005)) + (IntKind.u64.wrap (v)))) + 900900)).fdiv (2 ^ (min (40 : Int).toNat (IntKind.u64).bits))) &&& BitVec.ofInt (IntKind.u64).bits 255).toNat : Int)))), (⟨c.code_, (w64 (c.at_ + 1)), (⟨(IntKind.u64.wrap ((IntKind.u64.wrap ((IntKind.u64.wrap (c.seed_.v * 6364136223846793005)) + (IntKind.u64.wrap (v)))) + 900900))⟩ : IK .u64)⟩ : l1Cur))
noncomputable def s_l1Cur_pick (c : l1Cur) (n : Int) : Option (Int × l1Cur) :=
 if (decide (n ≤ 1)) = true then
  some (0, c)
 else
  (s_l1Cur_next c).bind fun r =>
  (if (decide (200 < n)) = true then
   (s_l1Cur_next r.2).bind fun r1 =>
   some ((w64 ((w64 (r.1 * 256)) + r1.1)), r1.2.code_, r1.2.at_, r1.2.seed_.v)
  else
   some (r.1, r.2.code_, r.2.at_, r.2.seed_.v)).bind fun ((v, v1, v2, v3) : Int × (List UInt8) × Int × Int) =>
  (chk ((n : Int) ≠ 0)).bind fun u =>
  some ((v.tmod n), (⟨v1, v2, (⟨v3⟩ : IK .u64)⟩ : l1Cur))
noncomputable def s_l1Num_F (rec_ : Int → Option (ByteArray)) (n : Int) : Option (ByteArray) :=
 if (decide (n < 0)) = true then
  (rec_ (w64 (0 - n))).bind fun r =>
  (chk ((str [45]).size + r.size ≤ 4294967296)).bind fun u =>
  some ((str [45]) ++ r)
 else
  if (decide (n < 10)) = true then
   (chk ((0 : Int) ≤ n ∧ n ≤ (w64 (n + 1)) ∧ (w64 (n + 1)) ≤ ((str [48, 49, 50, 51, 52, 53, 54, 55, 56, 57]).size : Int))).bind fun u1 =>
   some ((str [48, 49, 50, 51, 52, 53, 54, 55, 56, 57]).extract n.toNat (w64 (n + 1)).toNat)
  else
   (chk ((10 : Int) ≠ 0)).bind fun u7 =>
   (rec_ (w64 (n.tdiv 10))).bind fun r2 =>
   (chk ((10 : Int) ≠ 0)).bind fun u8 =>
   (chk ((10 : Int) ≠ 0)).bind fun u9 =>
   (chk ((0 : Int) ≤ (n.tmod 10) ∧ (n.tmod 10) ≤ (w64 ((n.tmod 10) + 1)) ∧ (w64 ((n.tmod 10) + 1)) ≤ ((str [48, 49, 50, 51, 52, 53, 54, 55, 56, 57]).size : Int))).bind fun u10 =>
   (chk (r2.size + ((str [48, 49, 50, 51, 52, 53, 54, 55, 56, 57]).extract (n.tmod 10).toNat (w64 ((n.tmod 10) + 1)).toNat).size ≤ 4294967296)).bind fun u11 =>
   some (r2 ++ ((str [48, 49, 50, 51, 52, 53, 54, 55, 56, 57]).extract (n.tmod 10).toNat (w64 ((n.tmod 10) + 1)).toNat))
noncomputable def s_l1Num_k : Nat → Int → Option (ByteArray)
 | 0 => fun _ => none
 | n + 1 => s_l1Num_F (s_l1Num_k n)
noncomputable def s_l1Num (n : Int) : Option (ByteArray) := s_l1Num_k 4294967296 n
noncomputable def s_l2Place_L1 (x : Line) (stop : Int) : Int → Option (Lp (Int) (Fl (Int) (Unit)))
 | v =>
  if (decide (v < (x.Stops.length : Int))) = true then
   (idx x.Stops v).bind fun e =>
   if (e == stop) = true then
    some (.dn (.ret v))
   else
    some (.nx (w64 (v + 1)))
  else
   some (.dn (.go ()))
noncomputable def s_l2Place (x : Line) (stop : Int) : Option (Int) :=
 flb (iter (s_l2Place_L1 x stop) (0 : Int)) fun (_ : Unit) =>
 some (-1)
noncomputable def s_l1Cur_line_L1 (name : ByteArray) (stops : Int) : Int × Int × (List UInt8) × Int × Int × (List Int) → Option (Lp (Int × Int × (List UInt8) × Int × Int × (List Int)) ((List UInt8) × Int × Int × (List Int)))
 | (v, v1, v2, v3, v4, v5) =>
  if (decide (0 < v1)) = true then
   ((s_l2Place (⟨name, v5, ([] : List Int)⟩ : Line) v).bind fun r2 =>
   if (decide (r2 < 0)) = true then
    (chk (v5.length + ([v] : List Int).length ≤ 4294967296)).bind fun u =>
    some (v5 ++ ([v] : List Int))
   else
    some v5).bind fun (v6 : List Int) =>
   (s_l1Cur_pick (⟨v2, v3, (⟨v4⟩ : IK .u64)⟩ : l1Cur) 2).bind fun r3 =>
   (chk ((stops : Int) ≠ 0)).bind fun u1 =>
   some (.nx (((w64 ((w64 (v + 1)) + r3.1)).tmod stops), (w64 (v1 - 1)), r3.2.code_, r3.2.at_, r3.2.seed_.v, v6))
  else
   some (.dn (v2, v3, v4, v5))
noncomputable def s_l1Cur_line_L2 (v11 : List Int) : Int × (List UInt8) × Int × Int × (List Int) → Option (Lp (Int × (List UInt8) × Int × Int × (List Int)) ((List UInt8) × Int × Int × (List Int)))
 | (v12, v13, v14, v15, v16) =>
  if (decide (v12 < (v11.length : Int))) = true then
   (s_l1Cur_pick (⟨v13, v14, (⟨v15⟩ : IK .u64)⟩ : l1Cur) 12).bind fun r5 =>
   (chk (v16.length + ([(w64 (3 + r5.1))] : List Int).length ≤ 4294967296)).bind fun u7 =>
   some (.nx ((w64 (v12 + 1)), r5.2.code_, r5.2.at_, r5.2.seed_.v, (v16 ++ ([(w64 (3 + r5.1))] : List Int))))
  else
   some (.dn (v13, v14, v15, v16))
noncomputable def s_l1Cur_line (c : l1Cur) (name : ByteArray) (stops : Int) : Option (Line × l1Cur) :=
 (s_l1Cur_pick c stops).bind fun r =>
 (s_l1Cur_pick r.2 3).bind fun r1 =>
 (iter (s_l1Cur_line_L1 name stops) (r.1, (w64 (2 + r1.1)), r1.2.code_, r1.2.at_, r1.2.seed_.v, ([] : List Int))).bind fun ((v7, v8, v9, v10) : (List UInt8) × Int × Int × (List Int)) =>
 (if (decide ((v10.length : Int) < 2)) = true then
  (idx v10 0).bind fun e1 =>
  (chk ((stops : Int) ≠ 0)).bind fun u4 =>
  (chk (v10.length + ([((w64 (e1 + 1)).tmod stops)] : List Int).length ≤ 4294967296)).bind fun u5 =>
  some (v10 ++ ([((w64 (e1 + 1)).tmod stops)] : List Int))
 else
  some v10).bind fun (v11 : List Int) =>
 (iter (s_l1Cur_line_L2 v11) ((1 : Int), v7, v8, v9, ([] : List Int))).bind fun ((v17, v18, v19, v20) : (List UInt8) × Int × Int × (List Int)) =>
 some ((⟨name, v11, v20⟩ : Line), (⟨v17, v18, (⟨v19⟩ : IK .u64)⟩ : l1Cur))
noncomputable def s_l1Cur_line_f_L1 (name : ByteArray) (stops : Int) : Int × Int × (List UInt8) × Int × Int × (List Int) → Option (Lp (Int × Int × (List UInt8) × Int × Int × (List Int)) ((List UInt8) × Int × Int × (List Int)))
 | (v, v1, v2, v3, v4, v5) =>
  if (decide (0 < v1)) = true then
   ((s_l2Place (⟨name, v5, ([] : List Int)⟩ : Line) v).bind fun r2 =>
   if (decide (r2 < 0)) = true then
    (chk (v5.length + ([v] : List Int).length ≤ 4294967296)).bind fun u =>
    some (v5 ++ ([v] : List Int))
   else
    some v5).bind fun (v6 : List Int) =>
   (s_l1Cur_pick (⟨v2, v3, (⟨v4⟩ : IK .u64)⟩ : l1Cur) 2).bind fun r3 =>
   (chk ((stops : Int) ≠ 0)).bind fun u1 =>
   some (.nx (((w64 ((w64 (v + 1)) + r3.1)).tmod stops), (w64 (v1 - 1)), r3.2.code_, r3.2.at_, r3.2.seed_.v, v6))
  else
   some (.dn (v2, v3, v4, v5))
noncomputable def s_l1Cur_line_f_L2 (v11 : List Int) : Int × (List UInt8) × Int × Int × (List Int) → Option (Lp (Int × (List UInt8) × Int × Int × (List Int)) ((List UInt8) × Int × Int × (List Int)))
 | (v12, v13, v14, v15, v16) =>
  if (decide (v12 < (v11.length : Int))) = true then
   (s_l1Cur_pick (⟨v13, v14, (⟨v15⟩ : IK .u64)⟩ : l1Cur) 12).bind fun r5 =>
   (chk (v16.length + ([(w64 (3 + r5.1))] : List Int).length ≤ 4294967296)).bind fun u7 =>
   some (.nx ((w64 (v12 + 1)), r5.2.code_, r5.2.at_, r5.2.seed_.v, (v16 ++ ([(w64 (3 + r5.1))] : List Int))))
  else
   some (.dn (v13, v14, v15, v16))
noncomputable def s_l1Cur_line_f (c : l1Cur) (name : ByteArray) (stops : Int) : Option (Line × l1Cur) :=
 (s_l1Cur_pick c stops).bind fun r =>
 (s_l1Cur_pick r.2 3).bind fun r1 =>
 (iter (s_l1Cur_line_f_L1 name stops) (r.1, (w64 (2 + r1.1)), r1.2.code_, r1.2.at_, r1.2.seed_.v, ([] : List Int))).bind fun ((v7, v8, v9, v10) : (List UInt8) × Int × Int × (List Int)) =>
 (if (decide ((v10.length : Int) < 2)) = true then
  (idx v10 0).bind fun e1 =>
  (chk ((stops : Int) ≠ 0)).bind fun u4 =>
  (chk (v10.length + ([((w64 (e1 + 1)).tmod stops)] : List Int).length ≤ 4294967296)).bind fun u5 =>
  some (v10 ++ ([((w64 (e1 + 1)).tmod stops)] : List Int))
 else
  some v10).bind fun (v11 : List Int) =>
 (iter (s_l1Cur_line_f_L2 v11) ((1 : Int), v7, v8, v9, ([] : List Int))).bind fun ((v17, v18, v19, v20) : (List UInt8) × Int × Int × (List Int)) =>
 some ((⟨name, v11, v20⟩ : Line), (⟨v17, v18, (⟨v19⟩ : IK .u64)⟩ : l1Cur))
noncomputable def s_l1Cur_one (c : l1Cur) (n : Int) : Option (Bool × l1Cur) :=
 (s_l1Cur_pick c n).bind fun r =>
 some ((r.1 == 0), r.2)
noncomputable def s_l2Back_L1 (list : List Int) : Int × (List Int) → Option (Lp (Int × (List Int)) ((List Int)))
 | (v, i) =>
  if (decide (0 ≤ v)) = true then
   (idx list v).bind fun e =>
   (chk (i.length + ([e] : List Int).length ≤ 4294967296)).bind fun u =>
   some (.nx ((w64 (v - 1)), (i ++ ([e] : List Int))))
  else
   some (.dn i)
noncomputable def s_l2Back (list : List Int) : Option ((List Int)) :=
 (iter (s_l2Back_L1 list) ((w64 ((list.length : Int) - 1)), ([] : List Int))).bind fun (i1 : List Int) =>
 some i1
noncomputable def s_l2Back_f_L1 (list : List Int) : Int × (List Int) → Option (Lp (Int × (List Int)) ((List Int)))
 | (v, i) =>
  if (decide (0 ≤ v)) = true then
   (idx list v).bind fun e =>
   (chk (i.length + ([e] : List Int).length ≤ 4294967296)).bind fun u =>
   some (.nx ((w64 (v - 1)), (i ++ ([e] : List Int))))
  else
   some (.dn i)
noncomputable def s_l2Back_f (list : List Int) : Option ((List Int)) :=
 (iter (s_l2Back_f_L1 list) ((w64 ((list.length : Int) - 1)), ([] : List Int))).bind fun (i1 : List Int) =>
 some i1
noncomputable def s_l1Own (l : List Int) : Option ((List Int)) :=
 (chk (([] : List Int).length + l.length ≤ 4294967296)).bind fun u =>
 some (([] : List Int) ++ l)
noncomputable def s_l1Own_f (l : List Int) : Option ((List Int)) :=
 (chk (([] : List Int).length + l.length ≤ 4294967296)).bind fun u =>
 some (([] : List Int) ++ l)
noncomputable def s_l2Own_L1 (n : Network) : Int × (List Line) → Option (Lp (Int × (List Line)) ((List Line)))
 | (v, v1) =>
  if (decide (v < (n.Lines.length : Int))) = true then
   (idx n.Lines v).bind fun e3 =>
   (idx n.Lines v).bind fun e4 =>
   (s_l1Own_f e4.Stops).bind fun r2 =>
   (idx n.Lines v).bind fun e5 =>
   (s_l1Own_f e5.Runs).bind fun r3 =>
   (chk (v1.length + ([(⟨e3.Name, r2, r3⟩ : Line)] : List Line).length ≤ 4294967296)).bind fun u2 =>
   some (.nx ((w64 (v + 1)), (v1 ++ ([(⟨e3.Name, r2, r3⟩ : Line)] : List Line))))
  else
   some (.dn v1)
noncomputable def s_l2Own (n : Network) : Option (Network) :=
 (chk (([] : List ByteArray).length + n.Stops.length ≤ 4294967296)).bind fun u =>
 (iter (s_l2Own_L1 n) ((0 : Int), ([] : List Line))).bind fun (v2 : List Line) =>
 some (⟨(([] : List ByteArray) ++ n.Stops), v2⟩ : Network)
noncomputable def s_l1Cur_network_L1 (r : Int × l1Cur) : Int × (List UInt8) × Int × Int × (List Line) → Option (Lp (Int × (List UInt8) × Int × Int × (List Line)) ((List UInt8) × Int × Int × (List Line)))
 | (x, v, v1, v2, v3) =>
  if (decide (0 < x)) = true then
   (s_l1Num x).bind fun r4 =>
   (chk ((str [108]).size + r4.size ≤ 4294967296)).bind fun u3 =>
   (s_l1Cur_line_f (⟨v, v1, (⟨v2⟩ : IK .u64)⟩ : l1Cur) ((str [108]) ++ r4) (w64 (2 + r.1))).bind fun r5 =>
   (chk (v3.length + ([r5.1] : List Line).length ≤ 4294967296)).bind fun u4 =>
   some (.nx ((w64 (x - 1)), r5.2.code_, r5.2.at_, r5.2.seed_.v, (v3 ++ ([r5.1] : List Line))))
  else
   some (.dn (v, v1, v2, v3))
noncomputable def s_l1Cur_network (c : l1Cur) : Option (Network × l1Cur) :=
 (s_l1Cur_pick c 5).bind fun r =>
 (chk ((0 : Int) ≤ 0 ∧ 0 ≤ (w64 (2 + r.1)) ∧ (w64 (2 + r.1)) ≤ (([(str [112, 111, 114, 116]), (str [109, 105, 108, 108]), (str [112, 97, 114, 107]), (str [104, 97, 108, 108]), (str [100, 111, 99, 107]), (str [102, 97, 105, 114])] : List ByteArray).length : Int))).bind fun u =>
 (s_l1Cur_pick r.2 3).bind fun r1 =>
 (iter (s_l1Cur_network_L1 r) ((w64 (1 + r1.1)), r1.2.code_, r1.2.at_, r1.2.seed_.v, ([] : List Line))).bind fun ((v4, v5, v6, v7) : (List UInt8) × Int × Int × (List Line)) =>
 ((s_l1Cur_one (⟨v4, v5, (⟨v6⟩ : IK .u64)⟩ : l1Cur) 2).bind fun r6 =>
 if r6.1 = true then
  (idx v7 0).bind fun e =>
  (s_l2Back_f e.Stops).bind fun r9 =>
  (s_l2Back_f e.Runs).bind fun r10 =>
  (chk (v7.length + ([(⟨(str [114, 49]), r9, r10⟩ : Line)] : List Line).length ≤ 4294967296)).bind fun u6 =>
  some (r6.2.code_, r6.2.at_, r6.2.seed_.v, (v7 ++ ([(⟨(str [114, 49]), r9, r10⟩ : Line)] : List Line)))
 else
  some (r6.2.code_, r6.2.at_, r6.2.seed_.v, v7)).bind fun ((v8, v9, v10, v11) : (List UInt8) × Int × Int × (List Line)) =>
 (s_l2Own (⟨((([(str [112, 111, 114, 116]), (str [109, 105, 108, 108]), (str [112, 97, 114, 107]), (str [104, 97, 108, 108]), (str [100, 111, 99, 107]), (str [102, 97, 105, 114])] : List ByteArray).take (w64 (2 + r.1)).toNat).drop (0 : Int).toNat), v11⟩ : Network)).bind fun r11 =>
 some ((⟨r11.Stops, r11.Lines⟩ : Network), (⟨v8, v9, (⟨v10⟩ : IK .u64)⟩ : l1Cur))
noncomputable def s_l1Cur_timetable_L1 (r : Network × l1Cur) : Int × Int × (List UInt8) × Int × Int × (List Trip) → Option (Lp (Int × Int × (List UInt8) × Int × Int × (List Trip)) ((List UInt8) × Int × Int × (List Trip)))
 | (n, v, v1, v2, v3, v4) =>
  if (decide (0 < v)) = true then
   (s_l1Cur_pick (⟨v1, v2, (⟨v3⟩ : IK .u64)⟩ : l1Cur) 3).bind fun r2 =>
   (s_l1Cur_pick r2.2 (r.1.Lines.length : Int)).bind fun r5 =>
   (s_l1Cur_pick r5.2 24).bind fun r6 =>
   (chk (v4.length + ([(⟨(w64 ((w64 (n + 1)) + r2.1)), r5.1, (w64 (360 + (w64 (5 * r6.1))))⟩ : Trip)] : List Trip).length ≤ 4294967296)).bind fun u1 =>
   some (.nx ((w64 ((w64 (n + 1)) + r2.1)), (w64 (v - 1)), r6.2.code_, r6.2.at_, r6.2.seed_.v, (v4 ++ ([(⟨(w64 ((w64 (n + 1)) + r2.1)), r5.1, (w64 (360 + (w64 (5 * r6.1))))⟩ : Trip)] : List Trip))))
  else
   some (.dn (v1, v2, v3, v4))
noncomputable def s_l1Cur_timetable (c : l1Cur) : Option (Timetable × l1Cur) :=
 (s_l1Cur_network c).bind fun r =>
 (s_l1Cur_pick r.2 8).bind fun r1 =>
 (iter (s_l1Cur_timetable_L1 r) ((0 : Int), r1.1, r1.2.code_, r1.2.at_, r1.2.seed_.v, ([] : List Trip))).bind fun ((v5, v6, v7, v8) : (List UInt8) × Int × Int × (List Trip)) =>
 some ((⟨(⟨r.1.Stops, r.1.Lines⟩ : Network), v8⟩ : Timetable), (⟨v5, v6, (⟨v7⟩ : IK .u64)⟩ : l1Cur))
noncomputable def s_l1Cur_among (c : l1Cur) (list : List Int) : Option (Int × l1Cur) :=
 (s_l1Cur_pick c (list.length : Int)).bind fun r =>
 (idx list r.1).bind fun e =>
 some (e, r.2)
noncomputable def s_l1Cur_of (c : l1Cur) (list : List ByteArray) : Option (ByteArray × l1Cur) :=
 (s_l1Cur_pick c (list.length : Int)).bind fun r =>
 (idx list r.1).bind fun e =>
 some (e, r.2)
noncomputable def s_l1Cur_of_w (c : l1Cur) (list : List ByteArray) : Option (ByteArray × l1Cur) :=
 (s_l1Cur_pick c (list.length : Int)).bind fun r =>
 (idx list r.1).bind fun e =>
 some (e, r.2)
noncomputable def s_l2Own_t_L1 (n : Network) : Int × (List Line) → Option (Lp (Int × (List Line)) ((List Line)))
 | (v, v1) =>
  if (decide (v < (n.Lines.length : Int))) = true then
   (idx n.Lines v).bind fun e3 =>
   (idx n.Lines v).bind fun e4 =>
   (s_l1Own e4.Stops).bind fun r2 =>
   (idx n.Lines v).bind fun e5 =>
   (s_l1Own e5.Runs).bind fun r3 =>
   (chk (v1.length + ([(⟨e3.Name, r2, r3⟩ : Line)] : List Line).length ≤ 4294967296)).bind fun u2 =>
   some (.nx ((w64 (v + 1)), (v1 ++ ([(⟨e3.Name, r2, r3⟩ : Line)] : List Line))))
  else
   some (.dn v1)
noncomputable def s_l2Own_t (n : Network) : Option (Network) :=
 (chk (([] : List ByteArray).length + n.Stops.length ≤ 4294967296)).bind fun u =>
 (iter (s_l2Own_t_L1 n) ((0 : Int), ([] : List Line))).bind fun (v2 : List Line) =>
 some (⟨(([] : List ByteArray) ++ n.Stops), v2⟩ : Network)
noncomputable def s_l1Cur_network_t_L1 (r : Int × l1Cur) : Int × (List UInt8) × Int × Int × (List Line) → Option (Lp (Int × (List UInt8) × Int × Int × (List Line)) ((List UInt8) × Int × Int × (List Line)))
 | (x, v, v1, v2, v3) =>
  if (decide (0 < x)) = true then
   (s_l1Num x).bind fun r4 =>
   (chk ((str [108]).size + r4.size ≤ 4294967296)).bind fun u3 =>
   (s_l1Cur_line_f (⟨v, v1, (⟨v2⟩ : IK .u64)⟩ : l1Cur) ((str [108]) ++ r4) (w64 (2 + r.1))).bind fun r5 =>
   (chk (v3.length + ([r5.1] : List Line).length ≤ 4294967296)).bind fun u4 =>
   some (.nx ((w64 (x - 1)), r5.2.code_, r5.2.at_, r5.2.seed_.v, (v3 ++ ([r5.1] : List Line))))
  else
   some (.dn (v, v1, v2, v3))
noncomputable def s_l1Cur_network_t (c : l1Cur) : Option (Network × l1Cur) :=
 (s_l1Cur_pick c 5).bind fun r =>
 (chk ((0 : Int) ≤ 0 ∧ 0 ≤ (w64 (2 + r.1)) ∧ (w64 (2 + r.1)) ≤ (([(str [112, 111, 114, 116]), (str [109, 105, 108, 108]), (str [112, 97, 114, 107]), (str [104, 97, 108, 108]), (str [100, 111, 99, 107]), (str [102, 97, 105, 114])] : List ByteArray).length : Int))).bind fun u =>
 (s_l1Cur_pick r.2 3).bind fun r1 =>
 (iter (s_l1Cur_network_t_L1 r) ((w64 (1 + r1.1)), r1.2.code_, r1.2.at_, r1.2.seed_.v, ([] : List Line))).bind fun ((v4, v5, v6, v7) : (List UInt8) × Int × Int × (List Line)) =>
 ((s_l1Cur_one (⟨v4, v5, (⟨v6⟩ : IK .u64)⟩ : l1Cur) 2).bind fun r6 =>
 if r6.1 = true then
  (idx v7 0).bind fun e =>
  (s_l2Back_f e.Stops).bind fun r9 =>
  (s_l2Back_f e.Runs).bind fun r10 =>
  (chk (v7.length + ([(⟨(str [114, 49]), r9, r10⟩ : Line)] : List Line).length ≤ 4294967296)).bind fun u6 =>
  some (r6.2.code_, r6.2.at_, r6.2.seed_.v, (v7 ++ ([(⟨(str [114, 49]), r9, r10⟩ : Line)] : List Line)))
 else
  some (r6.2.code_, r6.2.at_, r6.2.seed_.v, v7)).bind fun ((v8, v9, v10, v11) : (List UInt8) × Int × Int × (List Line)) =>
 (s_l2Own_t (⟨((([(str [112, 111, 114, 116]), (str [109, 105, 108, 108]), (str [112, 97, 114, 107]), (str [104, 97, 108, 108]), (str [100, 111, 99, 107]), (str [102, 97, 105, 114])] : List ByteArray).take (w64 (2 + r.1)).toNat).drop (0 : Int).toNat), v11⟩ : Network)).bind fun r11 =>
 some ((⟨r11.Stops, r11.Lines⟩ : Network), (⟨v8, v9, (⟨v10⟩ : IK .u64)⟩ : l1Cur))
noncomputable def s_l1Cur_among_w (c : l1Cur) (list : List Int) : Option (Int × l1Cur) :=
 (s_l1Cur_pick c (list.length : Int)).bind fun r =>
 (idx list r.1).bind fun e =>
 some (e, r.2)
noncomputable def s_l1Cur_anyNetwork_L1 (r : Network × l1Cur) : Int × (List UInt8) × Int × Int × (List Line) → Option (Lp (Int × (List UInt8) × Int × Int × (List Line)) ((List UInt8) × Int × Int × (List Line)))
 | (v7, v8, v9, v10, v11) =>
  (s_l1Cur_pick (⟨v8, v9, (⟨v10⟩ : IK .u64)⟩ : l1Cur) 2).bind fun r16 =>
  (if (decide ((v11.length : Int) < (w64 (5 + r16.1)))) = true then some (decide (v7 < 7)) else some false).bind fun (v12 : Bool) =>
  if v12 = true then
   (s_l1Num v7).bind fun r19 =>
   (chk ((str [120]).size + r19.size ≤ 4294967296)).bind fun u3 =>
   (s_l1Cur_line r16.2 ((str [120]) ++ r19) (r.1.Stops.length : Int)).bind fun r20 =>
   (chk (v11.length + ([(⟨r20.1.Name, r20.1.Stops, r20.1.Runs⟩ : Line)] : List Line).length ≤ 4294967296)).bind fun u4 =>
   some (.nx ((w64 (v7 + 1)), r20.2.code_, r20.2.at_, r20.2.seed_.v, (v11 ++ ([(⟨r20.1.Name, r20.1.Stops, r20.1.Runs⟩ : Line)] : List Line))))
  else
   some (.dn (r16.2.code_, r16.2.at_, r16.2.seed_.v, v11))
noncomputable def s_l1Cur_anyNetwork (c : l1Cur) : Option (Network × l1Cur) :=
 (s_l1Cur_network_t c).bind fun r =>
 (s_l1Cur_pick r.2 (r.1.Lines.length : Int)).bind fun r1 =>
 (idx r.1.Lines r1.1).bind fun e =>
 flb ((s_l1Cur_pick r1.2 24).bind fun r2 =>
 if (r2.1 == 0) = true then
  (s_l1Cur_of_w r2.2 ([(str [109, 105, 108, 108]), (str []), (str [65]), (str [97, 98, 99, 100, 101, 102, 103, 104]), (str [97, 98, 99, 100, 101, 102, 103, 104, 105])] : List ByteArray)).bind fun r4 =>
  (idx r.1.Stops 0).bind fun e2 =>
  some (.go (r4.2.code_, r4.2.at_, r4.2.seed_.v, e.Name, (r.1.Stops.set (0 : Int).toNat r4.1), r.1.Lines, e.Runs))
 else
  if (r2.1 == 1) = true then
   (s_l1Cur_of_w r2.2 ([(str [114, 49]), (str [108, 49]), (str []), (str [88])] : List ByteArray)).bind fun r5 =>
   some (.go (r5.2.code_, r5.2.at_, r5.2.seed_.v, r5.1, r.1.Stops, r.1.Lines, e.Runs))
  else
   if (r2.1 == 2) = true then
    (s_l1Cur_pick r2.2 (e.Stops.length : Int)).bind fun r8 =>
    (s_l1Cur_pick r8.2 10).bind fun r9 =>
    (idx e.Stops r8.1).bind fun e4 =>
    some (.go (r9.2.code_, r9.2.at_, r9.2.seed_.v, e.Name, r.1.Stops, (r.1.Lines.set r1.1.toNat (⟨e.Name, (e.Stops.set r8.1.toNat (w64 (r9.1 - 1))), e.Runs⟩ : Line)), ((⟨e.Name, (e.Stops.set r8.1.toNat (w64 (r9.1 - 1))), e.Runs⟩ : Line).Runs)))
   else
    if (r2.1 == 3) = true then
     (s_l1Cur_pick r2.2 (e.Runs.length : Int)).bind fun r12 =>
     (s_l1Cur_among_w r12.2 ([0, 60, 61, (-1)] : List Int)).bind fun r13 =>
     (idx e.Runs r12.1).bind fun e6 =>
     some (.go (r13.2.code_, r13.2.at_, r13.2.seed_.v, e.Name, r.1.Stops, (r.1.Lines.set r1.1.toNat (⟨e.Name, e.Stops, (e.Runs.set r12.1.toNat r13.1)⟩ : Line)), ((⟨e.Name, e.Stops, (e.Runs.set r12.1.toNat r13.1)⟩ : Line).Runs)))
    else
     if (r2.1 == 4) = true then
      (chk (e.Runs.length + ([3] : List Int).length ≤ 4294967296)).bind fun u =>
      some (.go (r2.2.code_, r2.2.at_, r2.2.seed_.v, e.Name, r.1.Stops, r.1.Lines, (e.Runs ++ ([3] : List Int))))
     else
      if (r2.1 == 5) = true then
       some (.ret ((⟨r.1.Stops, ([] : List Line)⟩ : Network), r2.2))
      else
       if (r2.1 == 6) = true then
        (iter (s_l1Cur_anyNetwork_L1 r) ((0 : Int), r2.2.code_, r2.2.at_, r2.2.seed_.v, r.1.Lines)).bind fun ((v13, v14, v15, v16) : (List UInt8) × Int × Int × (List Line)) =>
        some (.ret ((⟨r.1.Stops, v16⟩ : Network), (⟨v13, v14, (⟨v15⟩ : IK .u64)⟩ : l1Cur)))
       else
        some (.go (r2.2.code_, r2.2.at_, r2.2.seed_.v, e.Name, r.1.Stops, r.1.Lines, e.Runs))) fun ((v, v1, v2, v3, v4, v5, v6) : (List UInt8) × Int × Int × ByteArray × (List ByteArray) × (List Line) × (List Int)) =>
 (idx v5 r1.1).bind fun e9 =>
 some ((⟨v4, (v5.set r1.1.toNat (⟨v3, e9.Stops, v6⟩ : Line))⟩ : Network), (⟨v, v1, (⟨v2⟩ : IK .u64)⟩ : l1Cur))
noncomputable def s_l1Cur_anyTimetable_L1 : Int × (List UInt8) × Int × Int × (List Trip) → Option (Lp (Int × (List UInt8) × Int × Int × (List Trip)) ((List UInt8) × Int × Int × (List Trip)))
 | (v8, v9, v10, v11, v12) =>
  (s_l1Cur_pick (⟨v9, v10, (⟨v11⟩ : IK .u64)⟩ : l1Cur) 2).bind fun r8 =>
  (if (decide ((v12.length : Int) < (w64 (12 + r8.1)))) = true then some (decide (v8 < 14)) else some false).bind fun (v13 : Bool) =>
  if v13 = true then
   (chk (v12.length + ([(⟨(w64 (100 + v8)), 0, (w64 (400 + v8))⟩ : Trip)] : List Trip).length ≤ 4294967296)).bind fun u =>
   some (.nx ((w64 (v8 + 1)), r8.2.code_, r8.2.at_, r8.2.seed_.v, (v12 ++ ([(⟨(w64 (100 + v8)), 0, (w64 (400 + v8))⟩ : Trip)] : List Trip))))
  else
   some (.dn (r8.2.code_, r8.2.at_, r8.2.seed_.v, v12))
noncomputable def s_l1Cur_anyTimetable (c : l1Cur) : Option (Timetable × l1Cur) :=
 (s_l1Cur_timetable c).bind fun r =>
 if ((r.1.Trips.length : Int) == 0) = true then
  some ((⟨(⟨r.1.Network.Stops, r.1.Network.Lines⟩ : Network), r.1.Trips⟩ : Timetable), r.2)
 else
  (s_l1Cur_pick r.2 (r.1.Trips.length : Int)).bind fun r1 =>
  (idx r.1.Trips r1.1).bind fun e =>
  flb ((s_l1Cur_pick r1.2 24).bind fun r2 =>
  if (r2.1 == 0) = true then
   (s_l1Cur_among r2.2 ([0, 999, 1000, 2] : List Int)).bind fun r3 =>
   some (.go (r3.2.code_, r3.2.at_, r3.2.seed_.v, r.1.Network.Lines, r3.1, e.Line, e.Start, r.1.Network.Stops))
  else
   if (r2.1 == 1) = true then
    (s_l1Cur_pick r2.2 7).bind fun r4 =>
    some (.go (r4.2.code_, r4.2.at_, r4.2.seed_.v, r.1.Network.Lines, e.Id, (w64 (r4.1 - 1)), e.Start, r.1.Network.Stops))
   else
    if (r2.1 == 2) = true then
     (s_l1Cur_among r2.2 ([(-1), 0, 1799, 1798, 1800] : List Int)).bind fun r5 =>
     some (.go (r5.2.code_, r5.2.at_, r5.2.seed_.v, r.1.Network.Lines, e.Id, e.Line, r5.1, r.1.Network.Stops))
    else
     if (r2.1 == 3) = true then
      (s_l1Cur_anyNetwork r2.2).bind fun r6 =>
      some (.go (r6.2.code_, r6.2.at_, r6.2.seed_.v, r6.1.Lines, e.Id, e.Line, e.Start, r6.1.Stops))
     else
      if (r2.1 == 4) = true then
       (iter (s_l1Cur_anyTimetable_L1) ((0 : Int), r2.2.code_, r2.2.at_, r2.2.seed_.v, r.1.Trips)).bind fun ((v14, v15, v16, v17) : (List UInt8) × Int × Int × (List Trip)) =>
       some (.ret ((⟨(⟨r.1.Network.Stops, r.1.Network.Lines⟩ : Network), v17⟩ : Timetable), (⟨v14, v15, (⟨v16⟩ : IK .u64)⟩ : l1Cur)))
      else
       some (.go (r2.2.code_, r2.2.at_, r2.2.seed_.v, r.1.Network.Lines, e.Id, e.Line, e.Start, r.1.Network.Stops))) fun ((v, v1, v2, v3, v4, v5, v6, v7) : (List UInt8) × Int × Int × (List Line) × Int × Int × Int × (List ByteArray)) =>
  (idx r.1.Trips r1.1).bind fun e2 =>
  some ((⟨(⟨v7, v3⟩ : Network), (r.1.Trips.set r1.1.toNat (⟨v4, v5, v6⟩ : Trip))⟩ : Timetable), (⟨v, v1, (⟨v2⟩ : IK .u64)⟩ : l1Cur))
noncomputable def s_l1Cur_time (c : l1Cur) : Option (Int × l1Cur) :=
 (s_l1Cur_one c 16).bind fun r =>
 if r.1 = true then
  (s_l1Cur_among r.2 ([0, 1799, 1800, (-1), 1440, 1439] : List Int)).bind fun r1 =>
  some (r1.1, r1.2)
 else
  (s_l1Cur_pick r.2 240).bind fun r2 =>
  some ((w64 (360 + r2.1)), r2.2)
noncomputable def s_l1Cur_now23 (c : l1Cur) (t : Timetable) : Option (Int × l1Cur) :=
 (if (decide (0 < (t.Trips.length : Int))) = true then (s_l1Cur_one c 6).bind fun r =>
 some ((!r.1), r.2.code_, r.2.at_, r.2.seed_.v) else some (false, c.code_, c.at_, c.seed_.v)).bind fun ((v, v1, v2, v3) : Bool × (List UInt8) × Int × Int) =>
 if v = true then
  (s_l1Cur_pick (⟨v1, v2, (⟨v3⟩ : IK .u64)⟩ : l1Cur) (t.Trips.length : Int)).bind fun r3 =>
  (idx t.Trips r3.1).bind fun e1 =>
  (s_l1Cur_pick r3.2 40).bind fun r4 =>
  some ((w64 ((w64 (e1.Start + r4.1)) - 10)), r4.2)
 else
  (s_l1Cur_time (⟨v1, v2, (⟨v3⟩ : IK .u64)⟩ : l1Cur)).bind fun r5 =>
  some (r5.1, r5.2)
noncomputable def s_l1In (x : Int) (a : Int) (b : Int) : Option (Bool) :=
 (if (decide (a ≤ x)) = true then some (decide (x ≤ b)) else some false).bind fun (v : Bool) =>
 some v
noncomputable def s_l2Name_L1 (s : ByteArray) : Int → Option (Lp (Int) (Fl (Bool) (Unit)))
 | v1 =>
  if (decide (v1 < (s.size : Int))) = true then
   (chk ((0 : Int) ≤ v1 ∧ v1 < (s.size : Int))).bind fun u2 =>
   (if (decide (((s.data.toList.getD v1.toNat 0).toNat : Int) < 97)) = true then (chk ((0 : Int) ≤ v1 ∧ v1 < (s.size : Int))).bind fun u3 =>
   if (decide (((s.data.toList.getD v1.toNat 0).toNat : Int) < 48)) = true then some true else (chk ((0 : Int) ≤ v1 ∧ v1 < (s.size : Int))).bind fun u4 =>
   some (decide (57 < ((s.data.toList.getD v1.toNat 0).toNat : Int))) else (chk ((0 : Int) ≤ v1 ∧ v1 < (s.size : Int))).bind fun u5 =>
   if (decide (122 < ((s.data.toList.getD v1.toNat 0).toNat : Int))) = true then (chk ((0 : Int) ≤ v1 ∧ v1 < (s.size : Int))).bind fun u6 =>
   if (decide (((s.data.toList.getD v1.toNat 0).toNat : Int) < 48)) = true then some true else (chk ((0 : Int) ≤ v1 ∧ v1 < (s.size : Int))).bind fun u7 =>
   some (decide (57 < ((s.data.toList.getD v1.toNat 0).toNat : Int))) else some false).bind fun (v2 : Bool) =>
   if v2 = true then
    some (.dn (.ret false))
   else
    some (.nx (w64 (v1 + 1)))
  else
   some (.dn (.go ()))
noncomputable def s_l2Name (s : ByteArray) : Option (Bool) :=
 (s_l1In (s.size : Int) 1 8).bind fun r =>
 (if (!r) = true then some true else (chk ((0 : Int) ≤ 0 ∧ 0 < (s.size : Int))).bind fun u =>
 if (decide (((s.data.toList.getD (0 : Int).toNat 0).toNat : Int) < 97)) = true then some true else (chk ((0 : Int) ≤ 0 ∧ 0 < (s.size : Int))).bind fun u1 =>
 some (decide (122 < ((s.data.toList.getD (0 : Int).toNat 0).toNat : Int)))).bind fun (v : Bool) =>
 if v = true then
  some false
 else
  flb (iter (s_l2Name_L1 s) (0 : Int)) fun (_ : Unit) =>
  some true
noncomputable def s_l2Find_L1 (list : List ByteArray) (name : ByteArray) : Int → Option (Lp (Int) (Fl (Int) (Unit)))
 | v =>
  if (decide (v < (list.length : Int))) = true then
   (idx list v).bind fun e =>
   if (e.toList == name.toList) = true then
    some (.dn (.ret v))
   else
    some (.nx (w64 (v + 1)))
  else
   some (.dn (.go ()))
noncomputable def s_l2Find (list : List ByteArray) (name : ByteArray) : Option (Int) :=
 flb (iter (s_l2Find_L1 list name) (0 : Int)) fun (_ : Unit) =>
 some (-1)
noncomputable def s_l2Line_L1 (x : Line) (stops : Int) : Int → Option (Lp (Int) (Fl (Bool) (Unit)))
 | v1 =>
  if (decide (v1 < (x.Stops.length : Int))) = true then
   (idx x.Stops v1).bind fun e2 =>
   (s_l1In e2 0 (w64 (stops - 1))).bind fun r4 =>
   (if (!r4) = true then some true else (idx x.Stops v1).bind fun e3 =>
   (s_l2Place x e3).bind fun r5 =>
   some (r5 != v1)).bind fun (v2 : Bool) =>
   if v2 = true then
    some (.dn (.ret false))
   else
    some (.nx (w64 (v1 + 1)))
  else
   some (.dn (.go ()))
noncomputable def s_l2Line_L2 (x : Line) : Int → Option (Lp (Int) (Fl (Bool) (Unit)))
 | v3 =>
  if (decide (v3 < (x.Runs.length : Int))) = true then
   (idx x.Runs v3).bind fun e5 =>
   (s_l1In e5 1 60).bind fun r7 =>
   if (!r7) = true then
    some (.dn (.ret false))
   else
    some (.nx (w64 (v3 + 1)))
  else
   some (.dn (.go ()))
noncomputable def s_l2Line (x : Line) (stops : Int) : Option (Bool) :=
 (s_l2Name x.Name).bind fun r =>
 (if (!r) = true then some true else (s_l1In (x.Stops.length : Int) 2 6).bind fun r1 =>
 if (!r1) = true then some true else some ((x.Runs.length : Int) != (w64 ((x.Stops.length : Int) - 1)))).bind fun (v : Bool) =>
 if v = true then
  some false
 else
  flb (iter (s_l2Line_L1 x stops) (0 : Int)) fun (_ : Unit) =>
  flb (iter (s_l2Line_L2 x) (0 : Int)) fun (_ : Unit) =>
  some true
noncomputable def s_l2LineNamed_L1 (n : Network) (name : ByteArray) : Int → Option (Lp (Int) (Fl (Int) (Unit)))
 | v =>
  if (decide (v < (n.Lines.length : Int))) = true then
   (idx n.Lines v).bind fun e =>
   if (e.Name.toList == name.toList) = true then
    some (.dn (.ret v))
   else
    some (.nx (w64 (v + 1)))
  else
   some (.dn (.go ()))
noncomputable def s_l2LineNamed (n : Network) (name : ByteArray) : Option (Int) :=
 flb (iter (s_l2LineNamed_L1 n name) (0 : Int)) fun (_ : Unit) =>
 some (-1)
noncomputable def s_l2Good_L1 (n : Network) : Int → Option (Lp (Int) (Fl (Bool) (Unit)))
 | i =>
  if (decide (i < (n.Stops.length : Int))) = true then
   (idx n.Stops i).bind fun e2 =>
   (s_l2Name e2).bind fun r4 =>
   (if (!r4) = true then some true else (idx n.Stops i).bind fun e3 =>
   (s_l2Find n.Stops e3).bind fun r5 =>
   some (r5 != i)).bind fun (v1 : Bool) =>
   if v1 = true then
    some (.dn (.ret false))
   else
    some (.nx (w64 (i + 1)))
  else
   some (.dn (.go ()))
noncomputable def s_l2Good_L2 (n : Network) : Int → Option (Lp (Int) (Fl (Bool) (Unit)))
 | v2 =>
  if (decide (v2 < (n.Lines.length : Int))) = true then
   (idx n.Lines v2).bind fun e7 =>
   (s_l2Line e7 (n.Stops.length : Int)).bind fun r9 =>
   (if (!r9) = true then some true else (idx n.Lines v2).bind fun e8 =>
   (s_l2LineNamed n e8.Name).bind fun r10 =>
   some (r10 != v2)).bind fun (v3 : Bool) =>
   if v3 = true then
    some (.dn (.ret false))
   else
    some (.nx (w64 (v2 + 1)))
  else
   some (.dn (.go ()))
noncomputable def s_l2Good (n : Network) : Option (Bool) :=
 (s_l1In (n.Stops.length : Int) 2 8).bind fun r =>
 (if (!r) = true then some true else (s_l1In (n.Lines.length : Int) 1 5).bind fun r1 =>
 some (!r1)).bind fun (v : Bool) =>
 if v = true then
  some false
 else
  flb (iter (s_l2Good_L1 n) (0 : Int)) fun (_ : Unit) =>
  flb (iter (s_l2Good_L2 n) (0 : Int)) fun (_ : Unit) =>
  some true
noncomputable def s_l4Time (t : Int) : Option (Bool) :=
 (s_l1In t 0 1799).bind fun r =>
 some r
noncomputable def s_l5Line (t : Timetable) (i : Int) : Option (Line) :=
 (idx t.Trips i).bind fun e2 =>
 (idx t.Network.Lines e2.Line).bind fun e3 =>
 some e3
noncomputable def s_l5Stops (t : Timetable) (i : Int) : Option ((List Int)) :=
 (s_l5Line t i).bind fun r =>
 some r.Stops
noncomputable def s_l2Run_L1 (x : Line) (to : Int) : Int × Int → Option (Lp (Int × Int) (Int))
 | (v, v1) =>
  if (decide (v1 < to)) = true then
   (idx x.Runs v1).bind fun e =>
   some (.nx ((w64 (v + e)), (w64 (v1 + 1))))
  else
   some (.dn v)
noncomputable def s_l2Run (x : Line) (from_ : Int) (to : Int) : Option (Int) :=
 (iter (s_l2Run_L1 x to) ((0 : Int), from_)).bind fun (v2 : Int) =>
 some v2
noncomputable def s_l5At (t : Timetable) (i : Int) (k : Int) : Option (Int) :=
 (idx t.Trips i).bind fun e1 =>
 (s_l5Line t i).bind fun r2 =>
 (s_l2Run r2 0 k).bind fun r3 =>
 some (w64 (e1.Start + r3))
noncomputable def s_l5End (t : Timetable) (i : Int) : Option (Int) :=
 (s_l5Stops t i).bind fun r2 =>
 (s_l5At t i (w64 ((r2.length : Int) - 1))).bind fun r3 =>
 some r3
noncomputable def s_l5Good_L1 (t : Timetable) : Int → Option (Lp (Int) (Fl (Bool) (Unit)))
 | x =>
  if (decide (x < (t.Trips.length : Int))) = true then
   (idx t.Trips x).bind fun e =>
   (s_l1In e.Id 1 999).bind fun r6 =>
   (if (!r6) = true then some true else (s_l1In e.Line 0 (w64 ((t.Network.Lines.length : Int) - 1))).bind fun r7 =>
   if (!r7) = true then some true else (s_l4Time e.Start).bind fun r8 =>
   if (!r8) = true then some true else (s_l5End t x).bind fun r9 =>
   (s_l4Time r9).bind fun r10 =>
   if (!r10) = true then some true else if (decide (0 < x)) = true then (idx t.Trips (w64 (x - 1))).bind fun e2 =>
   some (decide (e.Id ≤ e2.Id)) else some false).bind fun (v1 : Bool) =>
   if v1 = true then
    some (.dn (.ret false))
   else
    some (.nx (w64 (x + 1)))
  else
   some (.dn (.go ()))
noncomputable def s_l5Good (t : Timetable) : Option (Bool) :=
 (s_l2Good t.Network).bind fun r =>
 (if (!r) = true then some true else some (decide (12 < (t.Trips.length : Int)))).bind fun (v : Bool) =>
 if v = true then
  some false
 else
  flb (iter (s_l5Good_L1 t) (0 : Int)) fun (_ : Unit) =>
  some true
noncomputable def s_l25Long (x : Line) : Option (Int) :=
 (s_l2Run x 0 (w64 ((x.Stops.length : Int) - 1))).bind fun r =>
 some r
noncomputable def s_l1Cur_report (c : l1Cur) (t : Timetable) (vehicle : Int) (time : Int) : Option (Report × l1Cur) :=
 if ((t.Network.Lines.length : Int) == 0) = true then
  some ((⟨vehicle, time, 0, 0⟩ : Report), c)
 else
  (s_l1Cur_pick c (t.Network.Lines.length : Int)).bind fun r =>
  ((if (decide (0 < (t.Trips.length : Int))) = true then (s_l5Good t).bind fun r1 =>
  if r1 = true then (s_l1Cur_one r.2 6).bind fun r2 =>
  some ((!r2.1), r2.2.code_, r2.2.at_, r2.2.seed_.v) else some (false, r.2.code_, r.2.at_, r.2.seed_.v) else some (false, r.2.code_, r.2.at_, r.2.seed_.v)).bind fun ((v4, v5, v6, v7) : Bool × (List UInt8) × Int × Int) =>
  if v4 = true then
   (s_l1Cur_pick (⟨v5, v6, (⟨v7⟩ : IK .u64)⟩ : l1Cur) (t.Trips.length : Int)).bind fun r4 =>
   (idx t.Trips r4.1).bind fun e1 =>
   some (r4.2.code_, r4.2.at_, r4.2.seed_.v, e1.Line)
  else
   some (v5, v6, v7, r.1)).bind fun ((v, v1, v2, v3) : (List UInt8) × Int × Int × Int) =>
  ((s_l2Good t.Network).bind fun r5 =>
  if r5 = true then
   (idx t.Network.Lines v3).bind fun e2 =>
   (s_l25Long e2).bind fun r6 =>
   (s_l1Cur_pick (⟨v, v1, (⟨v2⟩ : IK .u64)⟩ : l1Cur) (w64 (r6 + 1))).bind fun r7 =>
   some (r7.2.code_, r7.2.at_, r7.2.seed_.v, r7.1)
  else
   some (v, v1, v2, (0 : Int))).bind fun ((v8, v9, v10, v11) : (List UInt8) × Int × Int × Int) =>
  some ((⟨vehicle, time, v3, v11⟩ : Report), (⟨v8, v9, (⟨v10⟩ : IK .u64)⟩ : l1Cur))
noncomputable def s_DrawPlaceOf (code : List UInt8) : Option (Timetable × Report) :=
 (s_l1Cur_anyTimetable (⟨code, 0, (⟨0⟩ : IK .u64)⟩ : l1Cur)).bind fun r =>
 (s_l1Cur_among_w r.2 ([1, 2, 99, 0] : List Int)).bind fun r4 =>
 (s_l1Cur_now23 r4.2 r.1).bind fun r5 =>
 (s_l1Cur_report r5.2 r.1 r4.1 r5.1).bind fun r6 =>
 some (r.1, r6.1)
noncomputable def i_within (n : Int) (lo : Int) (hi : Int) : Option (Bool) :=
 (if (decide (lo ≤ n)) = true then some (decide (n ≤ hi)) else some false).bind fun (v : Bool) =>
 some v
noncomputable def i_isName_L1 (s : ByteArray) : Int → Option (Lp (Int) (Fl (Bool) (Unit)))
 | v1 =>
  if (decide (v1 < (s.size : Int))) = true then
   (chk ((0 : Int) ≤ v1 ∧ v1 < (s.size : Int))).bind fun u =>
   (if (decide (97 ≤ ((s.data.toList.getD v1.toNat 0).toNat : Int))) = true then (chk ((0 : Int) ≤ v1 ∧ v1 < (s.size : Int))).bind fun u1 =>
   some (decide (((s.data.toList.getD v1.toNat 0).toNat : Int) ≤ 122)) else some false).bind fun (v2 : Bool) =>
   (if (!v2) = true then if (v1 == 0) = true then some true else (chk ((0 : Int) ≤ v1 ∧ v1 < (s.size : Int))).bind fun u2 =>
   if (decide (((s.data.toList.getD v1.toNat 0).toNat : Int) < 48)) = true then some true else (chk ((0 : Int) ≤ v1 ∧ v1 < (s.size : Int))).bind fun u3 =>
   some (decide (57 < ((s.data.toList.getD v1.toNat 0).toNat : Int))) else some false).bind fun (v3 : Bool) =>
   if v3 = true then
    some (.dn (.ret false))
   else
    some (.nx (w64 (v1 + 1)))
  else
   some (.dn (.go ()))
noncomputable def i_isName (s : ByteArray) : Option (Bool) :=
 (if (decide ((s.size : Int) < 1)) = true then some true else some (decide (8 < (s.size : Int)))).bind fun (v : Bool) =>
 if v = true then
  some false
 else
  flb (iter (i_isName_L1 s) (0 : Int)) fun (_ : Unit) =>
  some true
noncomputable def slices_Index_string_L1 (s : List ByteArray) (v : ByteArray) : Int → Option (Lp (Int) (Fl (Int) (Unit)))
 | v1 =>
  if (decide (v1 < (s.length : Int))) = true then
   (idx s v1).bind fun e =>
   if (v.toList == e.toList) = true then
    some (.dn (.ret v1))
   else
    some (.nx (w64 (v1 + 1)))
  else
   some (.dn (.go ()))
noncomputable def slices_Index_string (s : List ByteArray) (v : ByteArray) : Option (Int) :=
 flb (iter (slices_Index_string_L1 s v) (0 : Int)) fun (_ : Unit) =>
 some (-1)
noncomputable def i_areNames_L1 (names : List ByteArray) : Int → Option (Lp (Int) (Fl (Bool) (Unit)))
 | v =>
  if (decide (v < (names.length : Int))) = true then
   (idx names v).bind fun e =>
   (i_isName e).bind fun r =>
   (if (!r) = true then some true else (slices_Index_string names e).bind fun r1 =>
   some (r1 != v)).bind fun (v1 : Bool) =>
   if v1 = true then
    some (.dn (.ret false))
   else
    some (.nx (w64 (v + 1)))
  else
   some (.dn (.go ()))
noncomputable def i_areNames (names : List ByteArray) : Option (Bool) :=
 flb (iter (i_areNames_L1 names) (0 : Int)) fun (_ : Unit) =>
 some true
noncomputable def i_lineNames_L1 (n : Network) : Int × (List ByteArray) → Option (Lp (Int × (List ByteArray)) ((List ByteArray)))
 | (v, i) =>
  if (decide (v < (n.Lines.length : Int))) = true then
   (idx n.Lines v).bind fun e =>
   (idx i v).bind fun e1 =>
   some (.nx ((w64 (v + 1)), (i.set v.toNat e.Name)))
  else
   some (.dn i)
noncomputable def i_lineNames (n : Network) : Option ((List ByteArray)) :=
 (chk ((0 : Int) ≤ (n.Lines.length : Int) ∧ ((n.Lines.length : Int) : Int) ≤ 4294967296)).bind fun u =>
 (iter (i_lineNames_L1 n) ((0 : Int), (List.replicate (n.Lines.length : Int).toNat (ByteArray.empty : ByteArray)))).bind fun (i1 : List ByteArray) =>
 some i1
noncomputable def i_isStop (n : Network) (stop : Int) : Option (Bool) :=
 (if (decide (0 ≤ stop)) = true then some (decide (stop < (n.Stops.length : Int))) else some false).bind fun (v : Bool) =>
 some v
noncomputable def slices_Index_int_L1 (s : List Int) (v : Int) : Int → Option (Lp (Int) (Fl (Int) (Unit)))
 | v1 =>
  if (decide (v1 < (s.length : Int))) = true then
   (idx s v1).bind fun e =>
   if (v == e) = true then
    some (.dn (.ret v1))
   else
    some (.nx (w64 (v1 + 1)))
  else
   some (.dn (.go ()))
noncomputable def slices_Index_int (s : List Int) (v : Int) : Option (Int) :=
 flb (iter (slices_Index_int_L1 s v) (0 : Int)) fun (_ : Unit) =>
 some (-1)
noncomputable def i_isValidLine_L1 (n : Network) (l : Line) : Int → Option (Lp (Int) (Fl (Bool) (Unit)))
 | v1 =>
  if (decide (v1 < (l.Stops.length : Int))) = true then
   (idx l.Stops v1).bind fun e =>
   (i_isStop n e).bind fun r1 =>
   (if (!r1) = true then some true else (slices_Index_int l.Stops e).bind fun r2 =>
   some (r2 != v1)).bind fun (v2 : Bool) =>
   if v2 = true then
    some (.dn (.ret false))
   else
    some (.nx (w64 (v1 + 1)))
  else
   some (.dn (.go ()))
noncomputable def i_isValidLine_L2 (l : Line) : Int → Option (Lp (Int) (Fl (Bool) (Unit)))
 | v3 =>
  if (decide (v3 < (l.Runs.length : Int))) = true then
   (idx l.Runs v3).bind fun e2 =>
   (i_within e2 1 60).bind fun r4 =>
   if (!r4) = true then
    some (.dn (.ret false))
   else
    some (.nx (w64 (v3 + 1)))
  else
   some (.dn (.go ()))
noncomputable def i_isValidLine (n : Network) (l : Line) : Option (Bool) :=
 (i_within (l.Stops.length : Int) 2 6).bind fun r =>
 (if (!r) = true then some true else some ((l.Runs.length : Int) != (w64 ((l.Stops.length : Int) - 1)))).bind fun (v : Bool) =>
 if v = true then
  some false
 else
  flb (iter (i_isValidLine_L1 n l) (0 : Int)) fun (_ : Unit) =>
  flb (iter (i_isValidLine_L2 l) (0 : Int)) fun (_ : Unit) =>
  some true
noncomputable def i_IsValidNetwork_L1 (n : Network) : Int → Option (Lp (Int) (Fl (Bool) (Unit)))
 | v1 =>
  if (decide (v1 < (n.Lines.length : Int))) = true then
   (idx n.Lines v1).bind fun e =>
   (i_isValidLine n e).bind fun r5 =>
   if (!r5) = true then
    some (.dn (.ret false))
   else
    some (.nx (w64 (v1 + 1)))
  else
   some (.dn (.go ()))
noncomputable def i_IsValidNetwork (n : Network) : Option (Bool) :=
 (i_within (n.Stops.length : Int) 2 8).bind fun r =>
 (if (!r) = true then some true else (i_within (n.Lines.length : Int) 1 5).bind fun r1 =>
 if (!r1) = true then some true else (i_areNames n.Stops).bind fun r2 =>
 if (!r2) = true then some true else (i_lineNames n).bind fun r3 =>
 (i_areNames r3).bind fun r4 =>
 some (!r4)).bind fun (v : Bool) =>
 if v = true then
  some false
 else
  flb (iter (i_IsValidNetwork_L1 n) (0 : Int)) fun (_ : Unit) =>
  some true
noncomputable def i_isLine (n : Network) (line : Int) : Option (Bool) :=
 (if (decide (0 ≤ line)) = true then some (decide (line < (n.Lines.length : Int))) else some false).bind fun (v : Bool) =>
 some v
noncomputable def i_IsValidTime (t : Int) : Option (Bool) :=
 (i_within t 0 1799).bind fun r =>
 some r
noncomputable def i_total_L1 (list : List Int) : Int × Int → Option (Lp (Int × Int) (Int))
 | (v, v1) =>
  if (decide (v1 < (list.length : Int))) = true then
   (idx list v1).bind fun e =>
   some (.nx ((w64 (v + e)), (w64 (v1 + 1))))
  else
   some (.dn v)
noncomputable def i_total (list : List Int) : Option (Int) :=
 (iter (i_total_L1 list) ((0 : Int), (0 : Int))).bind fun (v2 : Int) =>
 some v2
noncomputable def i_endOf (t : Timetable) (x : Trip) : Option (Int) :=
 (idx t.Network.Lines x.Line).bind fun e1 =>
 (i_total e1.Runs).bind fun r1 =>
 some (w64 (x.Start + r1))
noncomputable def i_areTrips_L1 (t : Timetable) : Int × Int → Option (Lp (Int × Int) (Fl (Bool) (Unit)))
 | (v, v1) =>
  if (decide (v1 < (t.Trips.length : Int))) = true then
   (idx t.Trips v1).bind fun e =>
   (if (decide (e.Id ≤ v)) = true then some true else if (decide (999 < e.Id)) = true then some true else (i_isLine t.Network e.Line).bind fun r =>
   if (!r) = true then some true else (i_IsValidTime e.Start).bind fun r1 =>
   if (!r1) = true then some true else (i_endOf t e).bind fun r2 =>
   (i_IsValidTime r2).bind fun r3 =>
   some (!r3)).bind fun (v2 : Bool) =>
   if v2 = true then
    some (.dn (.ret false))
   else
    some (.nx (e.Id, (w64 (v1 + 1))))
  else
   some (.dn (.go ()))
noncomputable def i_areTrips (t : Timetable) : Option (Bool) :=
 if (decide (12 < (t.Trips.length : Int))) = true then
  some false
 else
  flb (iter (i_areTrips_L1 t) ((0 : Int), (0 : Int))) fun (_ : Unit) =>
  some true
noncomputable def i_IsValidTimetable (t : Timetable) : Option (Bool) :=
 (i_IsValidNetwork t.Network).bind fun r =>
 (if r = true then (i_areTrips t).bind fun r1 =>
 some r1 else some false).bind fun (v : Bool) =>
 some v
noncomputable def i_isReport (t : Timetable) (r : Report) : Option (Bool) :=
 (i_within r.Vehicle 1 99).bind fun r6 =>
 (if r6 = true then (i_IsValidTime r.Time).bind fun r7 =>
 if r7 = true then (i_isLine t.Network r.Line).bind fun r8 =>
 if r8 = true then (idx t.Network.Lines r.Line).bind fun e1 =>
 (i_total e1.Runs).bind fun r9 =>
 (i_within r.Done 0 r9).bind fun r10 =>
 some r10 else some false else some false else some false).bind fun (v : Bool) =>
 some v
noncomputable def i_PlaceOf_L1 (e : Line) : Int × Int × Int → Option (Lp (Int × Int × Int) (Int × Int))
 | (v2, run1, v3) =>
  if (decide (v3 < (e.Runs.length : Int))) = true then
   (idx e.Runs v3).bind fun e1 =>
   if (decide (run1 < e1)) = true then
    some (.dn (v2, run1))
   else
    some (.nx ((w64 (v2 + 1)), (w64 (run1 - e1)), (w64 (v3 + 1))))
  else
   some (.dn (v2, run1))
noncomputable def i_PlaceOf (t : Timetable) (r : Report) : Option (Int × Int × Bool) :=
 (i_IsValidTimetable t).bind fun r1 =>
 (if (!r1) = true then some true else (i_isReport t r).bind fun r2 =>
 some (!r2)).bind fun (v : Bool) =>
 if v = true then
  some (0, 0, false)
 else
  ((idx t.Network.Lines r.Line).bind fun e =>
  (iter (i_PlaceOf_L1 e) ((0 : Int), r.Done, (0 : Int))).bind fun ((v4, run2) : Int × Int) =>
  some (v4, run2)).bind fun ((v1, run) : Int × Int) =>
  some (v1, run, true)
noncomputable def s_l25Report (t : Timetable) (r : Report) : Option (Bool) :=
 (s_l1In r.Vehicle 1 99).bind fun r6 =>
 (if r6 = true then (s_l4Time r.Time).bind fun r7 =>
 if r7 = true then (s_l1In r.Line 0 (w64 ((t.Network.Lines.length : Int) - 1))).bind fun r8 =>
 if r8 = true then (idx t.Network.Lines r.Line).bind fun e1 =>
 (s_l25Long e1).bind fun r9 =>
 (s_l1In r.Done 0 r9).bind fun r10 =>
 some r10 else some false else some false else some false).bind fun (v : Bool) =>
 some v
noncomputable def s_l25Good_L1 (t : Timetable) (list : List Report) : Int → Option (Lp (Int) (Fl (Bool) (Unit)))
 | v1 =>
  if (decide (v1 < (list.length : Int))) = true then
   (idx list v1).bind fun e1 =>
   (s_l25Report t e1).bind fun r2 =>
   if (!r2) = true then
    some (.dn (.ret false))
   else
    (if (decide (0 < v1)) = true then (idx list (w64 (v1 - 1))).bind fun e9 =>
    (idx list v1).bind fun e10 =>
    if (decide (e10.Time < e9.Time)) = true then some true else (idx list (w64 (v1 - 1))).bind fun e11 =>
    (idx list v1).bind fun e12 =>
    if (e11.Time == e12.Time) = true then (idx list (w64 (v1 - 1))).bind fun e13 =>
    (idx list v1).bind fun e14 =>
    some (decide (e14.Vehicle ≤ e13.Vehicle)) else some false else some false).bind fun (v2 : Bool) =>
    if v2 = true then
     some (.dn (.ret false))
    else
     some (.nx (w64 (v1 + 1)))
  else
   some (.dn (.go ()))
noncomputable def s_l25Good (t : Timetable) (list : List Report) : Option (Bool) :=
 (s_l5Good t).bind fun r =>
 (if (!r) = true then some true else some (decide (20 < (list.length : Int)))).bind fun (v : Bool) =>
 if v = true then
  some false
 else
  flb (iter (s_l25Good_L1 t list) (0 : Int)) fun (_ : Unit) =>
  some true
noncomputable def s_PlaceOf_L1 (r : Report) (e : Line) : Int → Option (Lp (Int) (Int))
 | v =>
  (if (decide ((w64 (v + 1)) < (e.Stops.length : Int))) = true then (s_l2Run e 0 (w64 (v + 1))).bind fun r3 =>
  some (decide (r3 ≤ r.Done)) else some false).bind fun (v1 : Bool) =>
  if v1 = true then
   some (.nx (w64 (v + 1)))
  else
   some (.dn v)
noncomputable def s_PlaceOf (t : Timetable) (r : Report) : Option (Int × Int × Bool) :=
 (s_l25Good t ([r] : List Report)).bind fun r1 =>
 if (!r1) = true then
  some (0, 0, false)
 else
  (idx t.Network.Lines r.Line).bind fun e =>
  (iter (s_PlaceOf_L1 r e) (0 : Int)).bind fun (v2 : Int) =>
  (s_l2Run e 0 v2).bind fun r5 =>
  some (v2, (w64 (r.Done - r5)), true)
noncomputable def i_absolute (n : Int) : Option (Int) :=
 some (if (w64 (0 - n)) > n then (w64 (0 - n)) else n)
noncomputable def cmp_isNaN_int (x : Int) : Option (Bool) :=
 some (x != x)
noncomputable def cmp_Compare_int (x : Int) (y_ : Int) : Option (Int) :=
 (cmp_isNaN_int x).bind fun r =>
 (cmp_isNaN_int y_).bind fun r1 =>
 if r = true then
  if r1 = true then
   some 0
  else
   some (-1)
 else
  if r1 = true then
   some 1
  else
   if (decide (x < y_)) = true then
    some (-1)
   else
    if (decide (y_ < x)) = true then
     some 1
    else
     some 0
noncomputable def cmp_Or_int_L1 (vals : List Int) : Int → Option (Lp (Int) (Fl (Int) (Unit)))
 | v =>
  if (decide (v < (vals.length : Int))) = true then
   (idx vals v).bind fun e =>
   if (e != 0) = true then
    some (.dn (.ret e))
   else
    some (.nx (w64 (v + 1)))
  else
   some (.dn (.go ()))
noncomputable def cmp_Or_int (vals : List Int) : Option (Int) :=
 flb (iter (cmp_Or_int_L1 vals) (0 : Int)) fun (_ : Unit) =>
 some 0
noncomputable def i_fittingTrips_1 (a : Match) (b : Match) : Option (Int) :=
 (i_absolute a.Delay).bind fun r5 =>
 (i_absolute b.Delay).bind fun r6 =>
 (cmp_Compare_int r5 r6).bind fun r7 =>
 (cmp_Compare_int a.Delay b.Delay).bind fun r8 =>
 (cmp_Or_int ([r7, r8] : List Int)).bind fun r9 =>
 some r9
noncomputable def slices_insertionSortCmpFunc_Match_w_L1 (a : Int) (cmp : Match → Match → Option (Int)) : Int × (List Match) → Option (Lp (Int × (List Match)) ((List Match)))
 | (v1, data2) =>
  (if (decide (a < v1)) = true then (idx data2 v1).bind fun e2 =>
  (idx data2 (w64 (v1 - 1))).bind fun e3 =>
  (cmp e2 e3).bind fun r1 =>
  some (decide (r1 < 0)) else some false).bind fun (v2 : Bool) =>
  if v2 = true then
   (idx data2 (w64 (v1 - 1))).bind fun e8 =>
   (idx data2 v1).bind fun e9 =>
   (idx data2 v1).bind fun e10 =>
   (idx (data2.set v1.toNat e8) (w64 (v1 - 1))).bind fun e11 =>
   some (.nx ((w64 (v1 - 1)), ((data2.set v1.toNat e8).set (w64 (v1 - 1)).toNat e9)))
  else
   some (.dn data2)
noncomputable def slices_insertionSortCmpFunc_Match_w_L2 (a : Int) (b : Int) (cmp : Match → Match → Option (Int)) : Int × (List Match) → Option (Lp (Int × (List Match)) ((List Match)))
 | (v, data1) =>
  if (decide (v < b)) = true then
   (iter (slices_insertionSortCmpFunc_Match_w_L1 a cmp) (v, data1)).bind fun (data3 : List Match) =>
   some (.nx ((w64 (v + 1)), data3))
  else
   some (.dn data1)
noncomputable def slices_insertionSortCmpFunc_Match_w (data : List Match) (a : Int) (b : Int) (cmp : Match → Match → Option (Int)) : Option ((List Match)) :=
 iter (slices_insertionSortCmpFunc_Match_w_L2 a b cmp) ((w64 (a + 1)), data)
noncomputable def slices_insertionSortCmpFunc_Match_w__i_fittingTrips_1 (data : List Match) (a : Int) (b : Int) : Option ((List Match)) :=
 slices_insertionSortCmpFunc_Match_w data a b (fun (z0 : Match) (z1 : Match) => i_fittingTrips_1 z0 z1)
noncomputable def slices_swapRangeCmpFunc_Match_w_L1 (a : Int) (b : Int) (n : Int) : Int × (List Match) → Option (Lp (Int × (List Match)) ((List Match)))
 | (v, data1) =>
  if (decide (v < n)) = true then
   (idx data1 (w64 (b + v))).bind fun e4 =>
   (idx data1 (w64 (a + v))).bind fun e5 =>
   (idx data1 (w64 (a + v))).bind fun e6 =>
   (idx (data1.set (w64 (a + v)).toNat e4) (w64 (b + v))).bind fun e7 =>
   some (.nx ((w64 (v + 1)), ((data1.set (w64 (a + v)).toNat e4).set (w64 (b + v)).toNat e5)))
  else
   some (.dn data1)
noncomputable def slices_swapRangeCmpFunc_Match_w (data : List Match) (a : Int) (b : Int) (n : Int) (cmp : Match → Match → Option (Int)) : Option ((List Match)) :=
 iter (slices_swapRangeCmpFunc_Match_w_L1 a b n) ((0 : Int), data)
noncomputable def slices_swapRangeCmpFunc_Match_w__i_fittingTrips_1 (data : List Match) (a : Int) (b : Int) (n : Int) : Option ((List Match)) :=
 slices_swapRangeCmpFunc_Match_w data a b n (fun (z0 : Match) (z1 : Match) => i_fittingTrips_1 z0 z1)
noncomputable def slices_rotateCmpFunc_Match_w_L1 (m : Int) (cmp : Match → Match → Option (Int)) : Int × Int × (List Match) → Option (Lp (Int × Int × (List Match)) (Int × (List Match)))
 | (v, v1, data1) =>
  if (v != v1) = true then
   if (decide (v1 < v)) = true then
    (slices_swapRangeCmpFunc_Match_w data1 (w64 (m - v)) m v1 cmp).bind fun r =>
    some (.nx ((w64 (v - v1)), v1, r))
   else
    (slices_swapRangeCmpFunc_Match_w data1 (w64 (m - v)) (w64 ((w64 (m + v1)) - v)) v cmp).bind fun r1 =>
    some (.nx (v, (w64 (v1 - v)), r1))
  else
   some (.dn (v, data1))
noncomputable def slices_rotateCmpFunc_Match_w (data : List Match) (a : Int) (m : Int) (b : Int) (cmp : Match → Match → Option (Int)) : Option ((List Match)) :=
 (iter (slices_rotateCmpFunc_Match_w_L1 m cmp) ((w64 (m - a)), (w64 (b - m)), data)).bind fun ((v2, data2) : Int × (List Match)) =>
 (slices_swapRangeCmpFunc_Match_w data2 (w64 (m - v2)) m v2 cmp).bind fun r2 =>
 some r2
noncomputable def slices_rotateCmpFunc_Match_w__i_fittingTrips_1 (data : List Match) (a : Int) (m : Int) (b : Int) : Option ((List Match)) :=
 slices_rotateCmpFunc_Match_w data a m b (fun (z0 : Match) (z1 : Match) => i_fittingTrips_1 z0 z1)
noncomputable def slices_symMergeCmpFunc_Match_w__i_fittingTrips_1_L1 (data : List Match) (a : Int) : Int × Int → Option (Lp (Int × Int) (Int))
 | (j, h) =>
  if (decide (j < h)) = true then
   (chk ((0 : Int) ≤ 1)).bind fun u =>
   (idx data (w64 (((IntKind.u64.wrap ((w64 (j + h)))).fdiv (2 ^ (min (1 : Int).toNat (IntKind.u64).bits)))))).bind fun e2 =>
   (idx data a).bind fun e3 =>
   (i_fittingTrips_1 e2 e3).bind fun r1 =>
   if (decide (r1 < 0)) = true then
    some (.nx ((w64 ((w64 (((IntKind.u64.wrap ((w64 (j + h)))).fdiv (2 ^ (min (1 : Int).toNat (IntKind.u64).bits))))) + 1)), h))
   else
    some (.nx (j, (w64 (((IntKind.u64.wrap ((w64 (j + h)))).fdiv (2 ^ (min (1 : Int).toNat (IntKind.u64).bits)))))))
  else
   some (.dn j)
noncomputable def slices_symMergeCmpFunc_Match_w__i_fittingTrips_1_L2 (j1 : Int) : Int × (List Match) → Option (Lp (Int × (List Match)) ((List Match)))
 | (mid, data1) =>
  if (decide (mid < (w64 (j1 - 1)))) = true then
   (idx data1 (w64 (mid + 1))).bind fun e8 =>
   (idx data1 mid).bind fun e9 =>
   (idx data1 mid).bind fun e10 =>
   (idx (data1.set mid.toNat e8) (w64 (mid + 1))).bind fun e11 =>
   some (.nx ((w64 (mid + 1)), ((data1.set mid.toNat e8).set (w64 (mid + 1)).toNat e9)))
  else
   some (.dn data1)
noncomputable def slices_symMergeCmpFunc_Match_w__i_fittingTrips_1_L3 (data : List Match) (m : Int) : Int × Int → Option (Lp (Int × Int) (Int))
 | (n, start) =>
  if (decide (n < start)) = true then
   (chk ((0 : Int) ≤ 1)).bind fun u1 =>
   (idx data m).bind fun e14 =>
   (idx data (w64 (((IntKind.u64.wrap ((w64 (n + start)))).fdiv (2 ^ (min (1 : Int).toNat (IntKind.u64).bits)))))).bind fun e15 =>
   (i_fittingTrips_1 e14 e15).bind fun r3 =>
   if (!(decide (r3 < 0))) = true then
    some (.nx ((w64 ((w64 (((IntKind.u64.wrap ((w64 (n + start)))).fdiv (2 ^ (min (1 : Int).toNat (IntKind.u64).bits))))) + 1)), start))
   else
    some (.nx (n, (w64 (((IntKind.u64.wrap ((w64 (n + start)))).fdiv (2 ^ (min (1 : Int).toNat (IntKind.u64).bits)))))))
  else
   some (.dn n)
noncomputable def slices_symMergeCmpFunc_Match_w__i_fittingTrips_1_L4 (n1 : Int) : Int × (List Match) → Option (Lp (Int × (List Match)) ((List Match)))
 | (p, data3) =>
  if (decide (n1 < p)) = true then
   (idx data3 (w64 (p - 1))).bind fun e20 =>
   (idx data3 p).bind fun e21 =>
   (idx data3 p).bind fun e22 =>
   (idx (data3.set p.toNat e20) (w64 (p - 1))).bind fun e23 =>
   some (.nx ((w64 (p - 1)), ((data3.set p.toNat e20).set (w64 (p - 1)).toNat e21)))
  else
   some (.dn data3)
noncomputable def slices_symMergeCmpFunc_Match_w__i_fittingTrips_1_L5 (data : List Match) (a : Int) (m : Int) (b : Int) : Int × Int → Option (Lp (Int × Int) (Int))
 | (v2, v3) =>
  if (decide (v2 < v3)) = true then
   (chk ((0 : Int) ≤ 1)).bind fun u3 =>
   (idx data (w64 ((w64 ((w64 ((w64 (((IntKind.u64.wrap ((w64 (a + b)))).fdiv (2 ^ (min (1 : Int).toNat (IntKind.u64).bits))))) + m)) - 1)) - (w64 (((IntKind.u64.wrap ((w64 (v2 + v3)))).fdiv (2 ^ (min (1 : Int).toNat (IntKind.u64).bits)))))))).bind fun e26 =>
   (idx data (w64 (((IntKind.u64.wrap ((w64 (v2 + v3)))).fdiv (2 ^ (min (1 : Int).toNat (IntKind.u64).bits)))))).bind fun e27 =>
   (i_fittingTrips_1 e26 e27).bind fun r5 =>
   if (!(decide (r5 < 0))) = true then
    some (.nx ((w64 ((w64 (((IntKind.u64.wrap ((w64 (v2 + v3)))).fdiv (2 ^ (min (1 : Int).toNat (IntKind.u64).bits))))) + 1)), v3))
   else
    some (.nx (v2, (w64 (((IntKind.u64.wrap ((w64 (v2 + v3)))).fdiv (2 ^ (min (1 : Int).toNat (IntKind.u64).bits)))))))
  else
   some (.dn v2)
noncomputable def slices_symMergeCmpFunc_Match_w__i_fittingTrips_1_F (rec_ : (List Match) → Int → Int → Int → Option ((List Match))) (data : List Match) (a : Int) (m : Int) (b : Int) : Option ((List Match)) :=
 if ((w64 (m - a)) == 1) = true then
  (iter (slices_symMergeCmpFunc_Match_w__i_fittingTrips_1_L1 data a) (m, b)).bind fun (j1 : Int) =>
  (iter (slices_symMergeCmpFunc_Match_w__i_fittingTrips_1_L2 j1) (a, data)).bind fun (data2 : List Match) =>
  some data2
 else
  if ((w64 (b - m)) == 1) = true then
   (iter (slices_symMergeCmpFunc_Match_w__i_fittingTrips_1_L3 data m) (a, m)).bind fun (n1 : Int) =>
   (iter (slices_symMergeCmpFunc_Match_w__i_fittingTrips_1_L4 n1) (m, data)).bind fun (data4 : List Match) =>
   some data4
  else
   (chk ((0 : Int) ≤ 1)).bind fun u2 =>
   (if (decide ((w64 (((IntKind.u64.wrap ((w64 (a + b)))).fdiv (2 ^ (min (1 : Int).toNat (IntKind.u64).bits))))) < m)) = true then
    some ((w64 ((w64 ((w64 (((IntKind.u64.wrap ((w64 (a + b)))).fdiv (2 ^ (min (1 : Int).toNat (IntKind.u64).bits))))) + m)) - b)), (w64 (((IntKind.u64.wrap ((w64 (a + b)))).fdiv (2 ^ (min (1 : Int).toNat (IntKind.u64).bits))))))
   else
    some (a, m)).bind fun ((v, v1) : Int × Int) =>
   (iter (slices_symMergeCmpFunc_Match_w__i_fittingTrips_1_L5 data a m b) (v, v1)).bind fun (v4 : Int) =>
   ((if (decide (v4 < m)) = true then some (decide (m < (w64 ((w64 ((w64 (((IntKind.u64.wrap ((w64 (a + b)))).fdiv (2 ^ (min (1 : Int).toNat (IntKind.u64).bits))))) + m)) - v4)))) else some false).bind fun (v5 : Bool) =>
   if v5 = true then
    (slices_rotateCmpFunc_Match_w__i_fittingTrips_1 data v4 m (w64 ((w64 ((w64 (((IntKind.u64.wrap ((w64 (a + b)))).fdiv (2 ^ (min (1 : Int).toNat (IntKind.u64).bits))))) + m)) - v4))).bind fun r6 =>
    some r6
   else
    some data).bind fun (data5 : List Match) =>
   ((if (decide (a < v4)) = true then some (decide (v4 < (w64 (((IntKind.u64.wrap ((w64 (a + b)))).fdiv (2 ^ (min (1 : Int).toNat (IntKind.u64).bits))))))) else some false).bind fun (v6 : Bool) =>
   if v6 = true then
    (rec_ data5 a v4 (w64 (((IntKind.u64.wrap ((w64 (a + b)))).fdiv (2 ^ (min (1 : Int).toNat (IntKind.u64).bits)))))).bind fun r7 =>
    some r7
   else
    some data5).bind fun (data6 : List Match) =>
   (if (decide ((w64 (((IntKind.u64.wrap ((w64 (a + b)))).fdiv (2 ^ (min (1 : Int).toNat (IntKind.u64).bits))))) < (w64 ((w64 ((w64 (((IntKind.u64.wrap ((w64 (a + b)))).fdiv (2 ^ (min (1 : Int).toNat (IntKind.u64).bits))))) + m)) - v4)))) = true then some (decide ((w64 ((w64 ((w64 (((IntKind.u64.wrap ((w64 (a + b)))).fdiv (2 ^ (min (1 : Int).toNat (IntKind.u64).bits))))) + m)) - v4)) < b)) else some false).bind fun (v7 : Bool) =>
   if v7 = true then
    (rec_ data6 (w64 (((IntKind.u64.wrap ((w64 (a + b)))).fdiv (2 ^ (min (1 : Int).toNat (IntKind.u64).bits))))) (w64 ((w64 ((w64 (((IntKind.u64.wrap ((w64 (a + b)))).fdiv (2 ^ (min (1 : Int).toNat (IntKind.u64).bits))))) + m)) - v4)) b).bind fun r8 =>
    some r8
   else
    some data6
noncomputable def slices_symMergeCmpFunc_Match_w__i_fittingTrips_1_k : Nat → (List Match) → Int → Int → Int → Option ((List Match))
 | 0 => fun _ _ _ _ => none
 | n + 1 => slices_symMergeCmpFunc_Match_w__i_fittingTrips_1_F (slices_symMergeCmpFunc_Match_w__i_fittingTrips_1_k n)
noncomputable def slices_symMergeCmpFunc_Match_w__i_fittingTrips_1 (data : List Match) (a : Int) (m : Int) (b : Int) : Option ((List Match)) := slices_symMergeCmpFunc_Match_w__i_fittingTrips_1_k 4294967296 data a m b
noncomputable def slices_stableCmpFunc_Match_w__i_fittingTrips_1_L1 (n : Int) : Int × Int × (List Match) → Option (Lp (Int × Int × (List Match)) (Int × (List Match)))
 | (v, v1, data1) =>
  if (decide (v1 ≤ n)) = true then
   (slices_insertionSortCmpFunc_Match_w__i_fittingTrips_1 data1 v v1).bind fun r =>
   some (.nx (v1, (w64 (v1 + 20)), r))
  else
   some (.dn (v, data1))
noncomputable def slices_stableCmpFunc_Match_w__i_fittingTrips_1_L2 (n : Int) (m : Int) : Int × Int × (List Match) → Option (Lp (Int × Int × (List Match)) (Int × (List Match)))
 | (v3, v4, data4) =>
  if (decide (v4 ≤ n)) = true then
   (slices_symMergeCmpFunc_Match_w__i_fittingTrips_1 data4 v3 (w64 (v3 + m)) v4).bind fun r2 =>
   some (.nx (v4, (w64 (v4 + (w64 (2 * m)))), r2))
  else
   some (.dn (v3, data4))
noncomputable def slices_stableCmpFunc_Match_w__i_fittingTrips_1_L3 (n : Int) : Int × (List Match) → Option (Lp (Int × (List Match)) ((List Match)))
 | (m, data3) =>
  if (decide (m < n)) = true then
   (iter (slices_stableCmpFunc_Match_w__i_fittingTrips_1_L2 n m) ((0 : Int), (w64 (2 * m)), data3)).bind fun ((v5, data5) : Int × (List Match)) =>
   (if (decide ((w64 (v5 + m)) < n)) = true then
    (slices_symMergeCmpFunc_Match_w__i_fittingTrips_1 data5 v5 (w64 (v5 + m)) n).bind fun r3 =>
    some r3
   else
    some data5).bind fun (data6 : List Match) =>
   some (.nx ((w64 (m * 2)), data6))
  else
   some (.dn data3)
noncomputable def slices_stableCmpFunc_Match_w__i_fittingTrips_1 (data : List Match) (n : Int) : Option ((List Match)) :=
 (iter (slices_stableCmpFunc_Match_w__i_fittingTrips_1_L1 n) ((0 : Int), (20 : Int), data)).bind fun ((v2, data2) : Int × (List Match)) =>
 (slices_insertionSortCmpFunc_Match_w__i_fittingTrips_1 data2 v2 n).bind fun r1 =>
 iter (slices_stableCmpFunc_Match_w__i_fittingTrips_1_L3 n) ((20 : Int), r1)
noncomputable def slices_SortStableFunc_Match_w__i_fittingTrips_1 (x : List Match) : Option ((List Match)) :=
 (slices_stableCmpFunc_Match_w__i_fittingTrips_1 x (x.length : Int)).bind fun r =>
 some r
noncomputable def i_fittingTrips_L1 (t : Timetable) (r : Report) : Int × (List Match) → Option (Lp (Int × (List Match)) ((List Match)))
 | (v, x) =>
  if (decide (v < (t.Trips.length : Int))) = true then
   ((idx t.Trips v).bind fun e =>
   if (e.Line == r.Line) = true then
    (chk (x.length + ([(⟨r.Vehicle, e.Id, (w64 ((w64 (r.Time - e.Start)) - r.Done))⟩ : Match)] : List Match).length ≤ 4294967296)).bind fun u =>
    some (x ++ ([(⟨r.Vehicle, e.Id, (w64 ((w64 (r.Time - e.Start)) - r.Done))⟩ : Match)] : List Match))
   else
    some x).bind fun (x1 : List Match) =>
   some (.nx ((w64 (v + 1)), x1))
  else
   some (.dn x)
noncomputable def i_fittingTrips (t : Timetable) (r : Report) : Option ((List Match)) :=
 (iter (i_fittingTrips_L1 t r) ((0 : Int), ([] : List Match))).bind fun (x2 : List Match) =>
 (slices_SortStableFunc_Match_w__i_fittingTrips_1 x2).bind fun r1 =>
 some r1
noncomputable def i_FittingTrips (t : Timetable) (r : Report) : Option ((List Match) × Bool) :=
 (i_IsValidTimetable t).bind fun r1 =>
 (if (!r1) = true then some true else (i_isReport t r).bind fun r2 =>
 some (!r2)).bind fun (v : Bool) =>
 if v = true then
  some (([] : List Match), false)
 else
  (i_fittingTrips t r).bind fun r3 =>
  some (r3, true)
noncomputable def s_l1Most (a : Int) (b : Int) : Option (Int) :=
 if (decide (b < a)) = true then
  some a
 else
  some b
noncomputable def s_l25Abs (x : Int) : Option (Int) :=
 (s_l1Most x (w64 (0 - x))).bind fun r =>
 some r
noncomputable def s_l25Fitting_L1 (r : Report) (m : List Match) (e5 : Trip) : Int → Option (Lp (Int) (Int))
 | v =>
  (if (decide (0 < v)) = true then (idx m (w64 (v - 1))).bind fun e9 =>
  (s_l25Abs e9.Delay).bind fun r5 =>
  (s_l25Abs (w64 ((w64 (r.Time - e5.Start)) - r.Done))).bind fun r6 =>
  if (decide (r6 < r5)) = true then some true else (idx m (w64 (v - 1))).bind fun e10 =>
  (s_l25Abs e10.Delay).bind fun r7 =>
  (s_l25Abs (w64 ((w64 (r.Time - e5.Start)) - r.Done))).bind fun r8 =>
  if (r7 == r8) = true then (idx m (w64 (v - 1))).bind fun e11 =>
  some (decide ((w64 ((w64 (r.Time - e5.Start)) - r.Done)) < e11.Delay)) else some false else some false).bind fun (v1 : Bool) =>
  if v1 = true then
   some (.nx (w64 (v - 1)))
  else
   some (.dn v)
noncomputable def s_l25Fitting_L2 (t : Timetable) (r : Report) : Int × (List Match) → Option (Lp (Int × (List Match)) ((List Match)))
 | (k, m) =>
  if (decide (k < (t.Trips.length : Int))) = true then
   ((idx t.Trips k).bind fun e1 =>
   if (e1.Line != r.Line) = true then
    some m
   else
    (idx t.Trips k).bind fun e4 =>
    (idx t.Trips k).bind fun e5 =>
    (iter (s_l25Fitting_L1 r m e5) (m.length : Int)).bind fun (v2 : Int) =>
    (chk ((0 : Int) ≤ 0 ∧ 0 ≤ v2 ∧ v2 ≤ (m.length : Int))).bind fun u5 =>
    (chk (([] : List Match).length + ((m.take v2.toNat).drop (0 : Int).toNat).length ≤ 4294967296)).bind fun u6 =>
    (chk ((([] : List Match) ++ ((m.take v2.toNat).drop (0 : Int).toNat)).length + ([(⟨r.Vehicle, e4.Id, (w64 ((w64 (r.Time - e5.Start)) - r.Done))⟩ : Match)] : List Match).length ≤ 4294967296)).bind fun u7 =>
    (chk ((0 : Int) ≤ v2 ∧ v2 ≤ (m.length : Int))).bind fun u8 =>
    (chk (((([] : List Match) ++ ((m.take v2.toNat).drop (0 : Int).toNat)) ++ ([(⟨r.Vehicle, e4.Id, (w64 ((w64 (r.Time - e5.Start)) - r.Done))⟩ : Match)] : List Match)).length + (m.drop v2.toNat).length ≤ 4294967296)).bind fun u9 =>
    some (((([] : List Match) ++ ((m.take v2.toNat).drop (0 : Int).toNat)) ++ ([(⟨r.Vehicle, e4.Id, (w64 ((w64 (r.Time - e5.Start)) - r.Done))⟩ : Match)] : List Match)) ++ (m.drop v2.toNat))).bind fun (m1 : List Match) =>
   some (.nx ((w64 (k + 1)), m1))
  else
   some (.dn m)
noncomputable def s_l25Fitting (t : Timetable) (r : Report) : Option ((List Match)) :=
 (iter (s_l25Fitting_L2 t r) ((0 : Int), ([] : List Match))).bind fun (m2 : List Match) =>
 some m2
noncomputable def s_FittingTrips (t : Timetable) (r : Report) : Option ((List Match) × Bool) :=
 (s_l25Good t ([r] : List Report)).bind fun r1 =>
 if (!r1) = true then
  some (([] : List Match), false)
 else
  (s_l25Fitting t r).bind fun r2 =>
  some (r2, true)
noncomputable def s_l1Cur_idOf (c : l1Cur) (t : Timetable) : Option (Int × l1Cur) :=
 (if ((t.Trips.length : Int) == 0) = true then some (true, c.code_, c.at_, c.seed_.v) else (s_l1Cur_one c 8).bind fun r =>
 some (r.1, r.2.code_, r.2.at_, r.2.seed_.v)).bind fun ((v, v1, v2, v3) : Bool × (List UInt8) × Int × Int) =>
 if v = true then
  (s_l1Cur_pick (⟨v1, v2, (⟨v3⟩ : IK .u64)⟩ : l1Cur) 30).bind fun r1 =>
  some (r1.1, r1.2)
 else
  (s_l1Cur_pick (⟨v1, v2, (⟨v3⟩ : IK .u64)⟩ : l1Cur) (t.Trips.length : Int)).bind fun r3 =>
  (idx t.Trips r3.1).bind fun e1 =>
  some (e1.Id, r3.2)
noncomputable def s_l5Find_L1 (t : Timetable) (id : Int) : Int → Option (Lp (Int) (Fl (Int) (Unit)))
 | v =>
  if (decide (v < (t.Trips.length : Int))) = true then
   (idx t.Trips v).bind fun e =>
   if (e.Id == id) = true then
    some (.dn (.ret v))
   else
    some (.nx (w64 (v + 1)))
  else
   some (.dn (.go ()))
noncomputable def s_l5Find (t : Timetable) (id : Int) : Option (Int) :=
 flb (iter (s_l5Find_L1 t id) (0 : Int)) fun (_ : Unit) =>
 some (-1)
noncomputable def s_DrawPredictArrivals (code : List UInt8) : Option (Timetable × Match × Int) :=
 (s_l1Cur_anyTimetable (⟨code, 0, (⟨0⟩ : IK .u64)⟩ : l1Cur)).bind fun r =>
 (s_l1Cur_among_w r.2 ([1, 99, 2, 0] : List Int)).bind fun r4 =>
 (s_l1Cur_idOf r4.2 r.1).bind fun r5 =>
 (s_l1Cur_among_w r5.2 ([0, 3, (-2), 20, 1799, (-1800)] : List Int)).bind fun r6 =>
 (s_l1Cur_pick r6.2 60).bind fun r7 =>
 ((s_l5Find r.1 r5.1).bind fun r8 =>
 (if (decide (0 ≤ r8)) = true then (s_l5Good r.1).bind fun r9 =>
 if r9 = true then (s_l1Cur_one r7.2 6).bind fun r10 =>
 some ((!r10.1), r10.2.code_, r10.2.at_, r10.2.seed_.v) else some (false, r7.2.code_, r7.2.at_, r7.2.seed_.v) else some (false, r7.2.code_, r7.2.at_, r7.2.seed_.v)).bind fun ((v, v1, v2, v3) : Bool × (List UInt8) × Int × Int) =>
 if v = true then
  (s_l5Line r.1 r8).bind fun r11 =>
  (s_l25Long r11).bind fun r12 =>
  (s_l1Cur_pick (⟨v1, v2, (⟨v3⟩ : IK .u64)⟩ : l1Cur) (w64 (r12 + 1))).bind fun r13 =>
  some r13.1
 else
  some r7.1).bind fun (i : Int) =>
 some (r.1, (⟨r4.1, r5.1, r6.1⟩ : Match), i)
noncomputable def i_tripIndex_1 (x : Trip) (c1 : Int) : Option (Bool) :=
 some (x.Id == c1)
noncomputable def slices_IndexFunc_Trip_L1 (s : List Trip) (f : Trip → Option (Bool)) : Int → Option (Lp (Int) (Fl (Int) (Unit)))
 | v =>
  if (decide (v < (s.length : Int))) = true then
   (idx s v).bind fun e =>
   (f e).bind fun r =>
   if r = true then
    some (.dn (.ret v))
   else
    some (.nx (w64 (v + 1)))
  else
   some (.dn (.go ()))
noncomputable def slices_IndexFunc_Trip (s : List Trip) (f : Trip → Option (Bool)) : Option (Int) :=
 flb (iter (slices_IndexFunc_Trip_L1 s f) (0 : Int)) fun (_ : Unit) =>
 some (-1)
noncomputable def slices_IndexFunc_Trip__i_tripIndex_1 (s : List Trip) (c1 : Int) : Option (Int) :=
 slices_IndexFunc_Trip s (fun (z0 : Trip) => i_tripIndex_1 z0 c1)
noncomputable def i_tripIndex (t : Timetable) (id : Int) : Option (Int) :=
 (slices_IndexFunc_Trip__i_tripIndex_1 t.Trips id).bind fun r =>
 some r
noncomputable def i_lineOf (t : Timetable) (x : Trip) : Option (Line) :=
 (idx t.Network.Lines x.Line).bind fun e =>
 some e
noncomputable def i_stopTimes_L1 (r : Line) : Int × (List Int) → Option (Lp (Int × (List Int)) ((List Int)))
 | (v, r1) =>
  if (decide (v < (r.Runs.length : Int))) = true then
   (idx r.Runs v).bind fun e =>
   (idx r1 v).bind fun e1 =>
   (chk (r1.length + ([(w64 (e1 + e))] : List Int).length ≤ 4294967296)).bind fun u =>
   some (.nx ((w64 (v + 1)), (r1 ++ ([(w64 (e1 + e))] : List Int))))
  else
   some (.dn r1)
noncomputable def i_stopTimes (t : Timetable) (x : Trip) : Option ((List Int)) :=
 (i_lineOf t x).bind fun r =>
 (iter (i_stopTimes_L1 r) ((0 : Int), ([x.Start] : List Int))).bind fun (r2 : List Int) =>
 some r2
noncomputable def i_PredictArrivals_L1 (m : Match) (done : Int) (e2 : Trip) (r10 : (List Int)) : Int × (List Int) → Option (Lp (Int × (List Int)) ((List Int)))
 | (v2, v3) =>
  if (decide (v2 < (r10.length : Int))) = true then
   ((idx r10 v2).bind fun e3 =>
   if (decide (done < (w64 (e3 - e2.Start)))) = true then
    (chk (v3.length + ([(w64 (e3 + (if m.Delay > 0 then m.Delay else 0)))] : List Int).length ≤ 4294967296)).bind fun u =>
    some (v3 ++ ([(w64 (e3 + (if m.Delay > 0 then m.Delay else 0)))] : List Int))
   else
    some v3).bind fun (v4 : List Int) =>
   some (.nx ((w64 (v2 + 1)), v4))
  else
   some (.dn v3)
noncomputable def i_PredictArrivals (t : Timetable) (m : Match) (done : Int) : Option ((List Int) × Bool) :=
 (i_IsValidTimetable t).bind fun r =>
 (if (!r) = true then some true else (i_within m.Vehicle 1 99).bind fun r1 =>
 if (!r1) = true then some true else (i_within m.Delay (-1799) 1799).bind fun r2 =>
 some (!r2)).bind fun (v : Bool) =>
 if v = true then
  some (([] : List Int), false)
 else
  (i_tripIndex t m.Id).bind fun r3 =>
  (if (decide (r3 < 0)) = true then some true else (idx t.Trips r3).bind fun e1 =>
  (i_lineOf t e1).bind fun r7 =>
  (i_total r7.Runs).bind fun r8 =>
  (i_within done 0 r8).bind fun r9 =>
  some (!r9)).bind fun (v1 : Bool) =>
  if v1 = true then
   some (([] : List Int), false)
  else
   (idx t.Trips r3).bind fun e2 =>
   (i_stopTimes t e2).bind fun r10 =>
   (iter (i_PredictArrivals_L1 m done e2 r10) ((0 : Int), ([] : List Int))).bind fun (v5 : List Int) =>
   some (v5, true)
noncomputable def s_PredictArrivals_L1 (t : Timetable) (m : Match) (done : Int) (r4 : Int) (r5 : Line) : Int × (List Int) → Option (Lp (Int × (List Int)) ((List Int)))
 | (v1, k) =>
  if (decide (v1 < (r5.Stops.length : Int))) = true then
   ((s_l2Run r5 0 v1).bind fun r8 =>
   if (decide (done < r8)) = true then
    (s_l5At t r4 v1).bind fun r11 =>
    (s_l1Most m.Delay 0).bind fun r12 =>
    (chk (k.length + ([(w64 (r11 + r12))] : List Int).length ≤ 4294967296)).bind fun u1 =>
    some (k ++ ([(w64 (r11 + r12))] : List Int))
   else
    some k).bind fun (k1 : List Int) =>
   some (.nx ((w64 (v1 + 1)), k1))
  else
   some (.dn k)
noncomputable def s_PredictArrivals (t : Timetable) (m : Match) (done : Int) : Option ((List Int) × Bool) :=
 (s_l5Good t).bind fun r =>
 (if (!r) = true then some true else (s_l5Find t m.Id).bind fun r1 =>
 if (decide (r1 < 0)) = true then some true else (s_l1In m.Vehicle 1 99).bind fun r2 =>
 if (!r2) = true then some true else (s_l1In m.Delay (-1799) 1799).bind fun r3 =>
 some (!r3)).bind fun (v : Bool) =>
 if v = true then
  some (([] : List Int), false)
 else
  (s_l5Find t m.Id).bind fun r4 =>
  (s_l5Line t r4).bind fun r5 =>
  (s_l25Long r5).bind fun r6 =>
  (s_l1In done 0 r6).bind fun r7 =>
  if (!r7) = true then
   some (([] : List Int), false)
  else
   (iter (s_PredictArrivals_L1 t m done r4 r5) ((0 : Int), ([] : List Int))).bind fun (k2 : List Int) =>
   some (k2, true)
noncomputable def v_rInts_L1 (a : List Int) (b : List Int) : Int → Option (Lp (Int) (Fl (Bool) (Unit)))
 | v =>
  if (decide (v < (a.length : Int))) = true then
   (idx a v).bind fun e2 =>
   (idx b v).bind fun e3 =>
   if (e2 != e3) = true then
    some (.dn (.ret false))
   else
    some (.nx (w64 (v + 1)))
  else
   some (.dn (.go ()))
noncomputable def v_rInts (a : List Int) (b : List Int) : Option (Bool) :=
 if ((a.length : Int) != (b.length : Int)) = true then
  some false
 else
  flb (iter (v_rInts_L1 a b) (0 : Int)) fun (_ : Unit) =>
  some true
noncomputable def s_l1Least (a : Int) (b : Int) : Option (Int) :=
 if (decide (a < b)) = true then
  some a
 else
  some b
noncomputable def s_DrawSpeedOf_L1 (r : Timetable × l1Cur) (r2 : Report × l1Cur) : Int × (List UInt8) × Int × Int × (List Report) × Int × Int → Option (Lp (Int × (List UInt8) × Int × Int × (List Report) × Int × Int) ((List UInt8) × Int × Int × (List Report)))
 | (v, v1, v2, v3, time, v4, v5) =>
  (if (decide (0 < v)) = true then (s_l4Time v4).bind fun r4 =>
  some r4 else some false).bind fun (v6 : Bool) =>
  if v6 = true then
   ((chk (time.length + ([(⟨r2.1.Vehicle, v4, r2.1.Line, v5⟩ : Report)] : List Report).length ≤ 4294967296)).bind fun u =>
   (s_l1Cur_pick (⟨v1, v2, (⟨v3⟩ : IK .u64)⟩ : l1Cur) 5).bind fun r6 =>
   (s_l2Good r.1.Network).bind fun r7 =>
   if r7 = true then
    (s_l1Cur_pick r6.2 6).bind fun r12 =>
    (s_l1Cur_pick r12.2 8).bind fun r13 =>
    (chk ((7 : Int) ≠ 0)).bind fun u2 =>
    (idx r.1.Network.Lines r2.1.Line).bind fun e1 =>
    (s_l25Long e1).bind fun r14 =>
    (s_l1Least (w64 ((w64 (v5 + r12.1)) - (w64 (r13.1.tdiv 7)))) r14).bind fun r15 =>
    some (r13.2.code_, r13.2.at_, r13.2.seed_.v, (w64 ((w64 (v4 + 1)) + r6.1)), r15)
   else
    some (r6.2.code_, r6.2.at_, r6.2.seed_.v, (w64 ((w64 (v4 + 1)) + r6.1)), v5)).bind fun ((v7, v8, v9, v10, v11) : (List UInt8) × Int × Int × Int × Int) =>
   some (.nx ((w64 (v - 1)), v7, v8, v9, (time ++ ([(⟨r2.1.Vehicle, v4, r2.1.Line, v5⟩ : Report)] : List Report)), v10, v11))
  else
   some (.dn (v1, v2, v3, time))
noncomputable def s_DrawSpeedOf (code : List UInt8) : Option (Timetable × (List Report) × Int) :=
 (s_l1Cur_anyTimetable (⟨code, 0, (⟨0⟩ : IK .u64)⟩ : l1Cur)).bind fun r =>
 (s_l1Cur_now23 r.2 r.1).bind fun r1 =>
 (s_l1Cur_report r1.2 r.1 1 r1.1).bind fun r2 =>
 (s_l1Cur_pick r2.2 5).bind fun r3 =>
 (iter (s_DrawSpeedOf_L1 r r2) (r3.1, r3.2.code_, r3.2.at_, r3.2.seed_.v, ([] : List Report), r2.1.Time, r2.1.Done)).bind fun ((v12, v13, v14, time1) : (List UInt8) × Int × Int × (List Report)) =>
 (s_l1Cur_among_w (⟨v12, v13, (⟨v14⟩ : IK .u64)⟩ : l1Cur) ([1, 1, 1, 2, 0] : List Int)).bind fun r17 =>
 some (r.1, time1, r17.1)
noncomputable def i_areReports_L1 (t : Timetable) (list : List Report) : Int → Option (Lp (Int) (Fl (Bool) (Unit)))
 | v =>
  if (decide (v < (list.length : Int))) = true then
   (idx list v).bind fun e =>
   (i_isReport t e).bind fun r4 =>
   (if (!r4) = true then some true else if (decide (0 < v)) = true then (idx list (w64 (v - 1))).bind fun e3 =>
   (cmp_Compare_int e3.Time e.Time).bind fun r5 =>
   (idx list (w64 (v - 1))).bind fun e4 =>
   (cmp_Compare_int e4.Vehicle e.Vehicle).bind fun r6 =>
   (cmp_Or_int ([r5, r6] : List Int)).bind fun r7 =>
   some (decide (0 ≤ r7)) else some false).bind fun (v1 : Bool) =>
   if v1 = true then
    some (.dn (.ret false))
   else
    some (.nx (w64 (v + 1)))
  else
   some (.dn (.go ()))
noncomputable def i_areReports (t : Timetable) (list : List Report) : Option (Bool) :=
 if (decide (20 < (list.length : Int))) = true then
  some false
 else
  flb (iter (i_areReports_L1 t list) (0 : Int)) fun (_ : Unit) =>
  some true
noncomputable def i_IsValidReports (t : Timetable) (list : List Report) : Option (Bool) :=
 (i_IsValidTimetable t).bind fun r =>
 (if r = true then (i_areReports t list).bind fun r1 =>
 some r1 else some false).bind fun (v : Bool) =>
 some v
noncomputable def i_SpeedOf_L1 (list : List Report) (vehicle : Int) : Int × (List Report) → Option (Lp (Int × (List Report)) ((List Report)))
 | (v, i) =>
  if (decide (v < (list.length : Int))) = true then
   ((idx list v).bind fun e =>
   if (e.Vehicle == vehicle) = true then
    (chk (i.length + ([e] : List Report).length ≤ 4294967296)).bind fun u =>
    some (i ++ ([e] : List Report))
   else
    some i).bind fun (i1 : List Report) =>
   some (.nx ((w64 (v + 1)), i1))
  else
   some (.dn i)
noncomputable def i_SpeedOf_L2 (i2 : List Report) : Int → Option (Lp (Int) (Fl (Int × Int × Bool) (Unit)))
 | v1 =>
  if (decide (v1 < (i2.length : Int))) = true then
   (idx i2 v1).bind fun e5 =>
   (idx i2 0).bind fun e6 =>
   (if (e5.Line != e6.Line) = true then some true else (idx i2 v1).bind fun e7 =>
   (idx i2 (w64 (v1 - 1))).bind fun e8 =>
   some (decide (e7.Done < e8.Done))).bind fun (v2 : Bool) =>
   if v2 = true then
    some (.dn (.ret (0, 0, false)))
   else
    some (.nx (w64 (v1 + 1)))
  else
   some (.dn (.go ()))
noncomputable def i_SpeedOf (t : Timetable) (list : List Report) (vehicle : Int) : Option (Int × Int × Bool) :=
 (i_IsValidReports t list).bind fun r =>
 if (!r) = true then
  some (0, 0, false)
 else
  (iter (i_SpeedOf_L1 list vehicle) ((0 : Int), ([] : List Report))).bind fun (i2 : List Report) =>
  if (decide ((i2.length : Int) < 2)) = true then
   some (0, 0, false)
  else
   flb (iter (i_SpeedOf_L2 i2) (1 : Int)) fun (_ : Unit) =>
   (idx i2 (w64 ((i2.length : Int) - 1))).bind fun e10 =>
   (idx i2 0).bind fun e13 =>
   (idx i2 0).bind fun e14 =>
   some ((w64 (e10.Done - e13.Done)), (w64 (e10.Time - e14.Time)), true)
noncomputable def s_SpeedOf_L1 (list : List Report) (vehicle : Int) : Int × (List Report) → Option (Lp (Int × (List Report)) ((List Report)))
 | (v, i) =>
  if (decide (v < (list.length : Int))) = true then
   ((idx list v).bind fun e =>
   if (e.Vehicle == vehicle) = true then
    (idx list v).bind fun e1 =>
    (chk (i.length + ([e1] : List Report).length ≤ 4294967296)).bind fun u =>
    some (i ++ ([e1] : List Report))
   else
    some i).bind fun (i1 : List Report) =>
   some (.nx ((w64 (v + 1)), i1))
  else
   some (.dn i)
noncomputable def s_SpeedOf_L2 (i2 : List Report) : Int → Option (Lp (Int) (Fl (Int × Int × Bool) (Unit)))
 | v1 =>
  if (decide (v1 < (i2.length : Int))) = true then
   (idx i2 v1).bind fun e6 =>
   (idx i2 0).bind fun e7 =>
   (if (e6.Line != e7.Line) = true then some true else (idx i2 (w64 (v1 - 1))).bind fun e8 =>
   (idx i2 v1).bind fun e9 =>
   some (decide (e9.Done < e8.Done))).bind fun (v2 : Bool) =>
   if v2 = true then
    some (.dn (.ret (0, 0, false)))
   else
    some (.nx (w64 (v1 + 1)))
  else
   some (.dn (.go ()))
noncomputable def s_SpeedOf (t : Timetable) (list : List Report) (vehicle : Int) : Option (Int × Int × Bool) :=
 (s_l25Good t list).bind fun r =>
 if (!r) = true then
  some (0, 0, false)
 else
  (iter (s_SpeedOf_L1 list vehicle) ((0 : Int), ([] : List Report))).bind fun (i2 : List Report) =>
  flb (iter (s_SpeedOf_L2 i2) (1 : Int)) fun (_ : Unit) =>
  if (decide ((i2.length : Int) < 2)) = true then
   some (0, 0, false)
  else
   (idx i2 (w64 ((i2.length : Int) - 1))).bind fun e15 =>
   (idx i2 0).bind fun e16 =>
   (idx i2 (w64 ((i2.length : Int) - 1))).bind fun e17 =>
   (idx i2 0).bind fun e18 =>
   some ((w64 (e15.Done - e16.Done)), (w64 (e17.Time - e18.Time)), true)
noncomputable def s_l1Cur_reports_L1 (t : Timetable) : Int × Int × Int × (List UInt8) × Int × Int × (List Report) → Option (Lp (Int × Int × Int × (List UInt8) × Int × Int × (List Report)) ((List UInt8) × Int × Int × (List Report)))
 | (n, k, x, v, v1, v2, v3) =>
  (if (decide (0 < x)) = true then (s_l4Time n).bind fun r2 =>
  some r2 else some false).bind fun (v4 : Bool) =>
  if v4 = true then
   ((s_l1Cur_pick (⟨v, v1, (⟨v2⟩ : IK .u64)⟩ : l1Cur) 2).bind fun r3 =>
   (s_l1Cur_report r3.2 t (w64 ((w64 (k + 1)) + r3.1)) n).bind fun r4 =>
   (chk (v3.length + ([r4.1] : List Report).length ≤ 4294967296)).bind fun u =>
   (s_l1Cur_one r4.2 3).bind fun r5 =>
   if r5.1 = true then
    (s_l1Cur_among r5.2 ([1, 5, 10] : List Int)).bind fun r6 =>
    some ((w64 (n + r6.1)), (0 : Int), r6.2.code_, r6.2.at_, r6.2.seed_.v, (v3 ++ ([r4.1] : List Report)))
   else
    some (n, (w64 ((w64 (k + 1)) + r3.1)), r5.2.code_, r5.2.at_, r5.2.seed_.v, (v3 ++ ([r4.1] : List Report)))).bind fun ((n1, k1, v5, v6, v7, v8) : Int × Int × (List UInt8) × Int × Int × (List Report)) =>
   some (.nx (n1, k1, (w64 (x - 1)), v5, v6, v7, v8))
  else
   some (.dn (v, v1, v2, v3))
noncomputable def s_l1Cur_reports (c : l1Cur) (t : Timetable) : Option ((List Report) × l1Cur) :=
 (s_l1Cur_now23 c t).bind fun r =>
 (s_l1Cur_pick r.2 7).bind fun r1 =>
 (iter (s_l1Cur_reports_L1 t) (r.1, (0 : Int), r1.1, r1.2.code_, r1.2.at_, r1.2.seed_.v, ([] : List Report))).bind fun ((v9, v10, v11, v12) : (List UInt8) × Int × Int × (List Report)) =>
 if ((v12.length : Int) == 0) = true then
  some (v12, (⟨v9, v10, (⟨v11⟩ : IK .u64)⟩ : l1Cur))
 else
  (s_l1Cur_pick (⟨v9, v10, (⟨v11⟩ : IK .u64)⟩ : l1Cur) (v12.length : Int)).bind fun r7 =>
  (idx v12 r7.1).bind fun e =>
  ((s_l1Cur_pick r7.2 40).bind fun r8 =>
  if (r8.1 == 0) = true then
   (s_l1Cur_among r8.2 ([0, 99, 100] : List Int)).bind fun r9 =>
   some (r9.2.code_, r9.2.at_, r9.2.seed_.v, r9.1, e.Line, e.Done)
  else
   if (r8.1 == 1) = true then
    (s_l1Cur_among r8.2 ([(-1), 5] : List Int)).bind fun r10 =>
    some (r10.2.code_, r10.2.at_, r10.2.seed_.v, e.Vehicle, r10.1, e.Done)
   else
    if (r8.1 == 2) = true then
     (s_l1Cur_among r8.2 ([(-1), 301] : List Int)).bind fun r11 =>
     some (r11.2.code_, r11.2.at_, r11.2.seed_.v, e.Vehicle, e.Line, r11.1)
    else
     some (r8.2.code_, r8.2.at_, r8.2.seed_.v, e.Vehicle, e.Line, e.Done)).bind fun ((v13, v14, v15, v16, v17, v18) : (List UInt8) × Int × Int × Int × Int × Int) =>
  (idx v12 r7.1).bind fun e1 =>
  some ((v12.set r7.1.toNat (⟨v16, e.Time, v17, v18⟩ : Report)), (⟨v13, v14, (⟨v15⟩ : IK .u64)⟩ : l1Cur))
noncomputable def s_l1Cur_limit25 (c : l1Cur) : Option (Int × l1Cur) :=
 (s_l1Cur_pick c 24).bind fun r =>
 (chk ((11 : Int) ≠ 0)).bind fun u =>
 (chk ((0 : Int) ≤ 0 ∧ 0 ≤ (w64 (5 + (w64 (r.1.tdiv 11)))) ∧ (w64 (5 + (w64 (r.1.tdiv 11)))) ≤ (([0, 5, 20, 60, 1799, (-1), 1800] : List Int).length : Int))).bind fun u1 =>
 (s_l1Cur_among r.2 ((([0, 5, 20, 60, 1799, (-1), 1800] : List Int).take (w64 (5 + (w64 (r.1.tdiv 11)))).toNat).drop (0 : Int).toNat)).bind fun r1 =>
 some (r1.1, r1.2)
noncomputable def s_DrawMissingTrips (code : List UInt8) : Option (Timetable × (List Report) × Int × Int) :=
 (s_l1Cur_anyTimetable (⟨code, 0, (⟨0⟩ : IK .u64)⟩ : l1Cur)).bind fun r =>
 (s_l1Cur_reports r.2 r.1).bind fun r1 =>
 (s_l1Cur_limit25 r1.2).bind fun r2 =>
 (s_l1Cur_now23 r2.2 r.1).bind fun r4 =>
 some (r.1, r1.1, r2.1, r4.1)
noncomputable def s_DrawStaleVehicles (code : List UInt8) : Option (Timetable × (List Report) × Int × Int) :=
 (s_DrawMissingTrips code).bind fun r =>
 some (r.1, r.2.1, r.2.2.2, r.2.2.1)
noncomputable def i_areMatched (t : Timetable) (list : List Report) (limit : Int) : Option (Bool) :=
 (i_IsValidReports t list).bind fun r =>
 (if r = true then (i_IsValidTime limit).bind fun r1 =>
 some r1 else some false).bind fun (v : Bool) =>
 some v
noncomputable def i_lastReports_L1 (list : List Report) : Int × (List Report) → Option (Lp (Int × (List Report)) ((List Report)))
 | (v, v1) =>
  if (decide (v < (list.length : Int))) = true then
   (idx list v).bind fun e =>
   (chk ((0 : Int) ≤ e.Vehicle ∧ e.Vehicle < 100)).bind fun u =>
   (idx v1 e.Vehicle).bind fun e1 =>
   some (.nx ((w64 (v + 1)), (v1.set e.Vehicle.toNat e)))
  else
   some (.dn v1)
noncomputable def i_lastReports_L2 (v2 : List Report) : Int × (List Report) → Option (Lp (Int × (List Report)) ((List Report)))
 | (v3, v4) =>
  if (decide (v3 < 100)) = true then
   ((chk ((0 : Int) ≤ v3 ∧ v3 < 100)).bind fun u2 =>
   (idx v2 v3).bind fun e2 =>
   if (decide (0 < e2.Vehicle)) = true then
    (chk (v4.length + ([e2] : List Report).length ≤ 4294967296)).bind fun u3 =>
    some (v4 ++ ([e2] : List Report))
   else
    some v4).bind fun (v5 : List Report) =>
   some (.nx ((w64 (v3 + 1)), v5))
  else
   some (.dn v4)
noncomputable def i_lastReports (list : List Report) : Option ((List Report)) :=
 (iter (i_lastReports_L1 list) ((0 : Int), (List.replicate 100 ((⟨0, 0, 0, 0⟩ : Report) : Report)))).bind fun (v2 : List Report) =>
 (chk (v2.length = 100)).bind fun u1 =>
 (iter (i_lastReports_L2 v2) ((0 : Int), ([] : List Report))).bind fun (v6 : List Report) =>
 some v6
noncomputable def i_StaleVehicles_L1 (list : List Report) (now : Int) : Int × (List Report) → Option (Lp (Int × (List Report)) ((List Report)))
 | (v1, v2) =>
  if (decide (v1 < (list.length : Int))) = true then
   ((idx list v1).bind fun e =>
   if (decide (e.Time ≤ now)) = true then
    (chk (v2.length + ([e] : List Report).length ≤ 4294967296)).bind fun u =>
    some (v2 ++ ([e] : List Report))
   else
    some v2).bind fun (v3 : List Report) =>
   some (.nx ((w64 (v1 + 1)), v3))
  else
   some (.dn v2)
noncomputable def i_StaleVehicles_L2 (now : Int) (limit : Int) (r2 : (List Report)) : Int × (List Int) → Option (Lp (Int × (List Int)) ((List Int)))
 | (v5, v6) =>
  if (decide (v5 < (r2.length : Int))) = true then
   ((idx r2 v5).bind fun e1 =>
   if (decide (limit < (w64 (now - e1.Time)))) = true then
    (chk (v6.length + ([e1.Vehicle] : List Int).length ≤ 4294967296)).bind fun u1 =>
    some (v6 ++ ([e1.Vehicle] : List Int))
   else
    some v6).bind fun (v7 : List Int) =>
   some (.nx ((w64 (v5 + 1)), v7))
  else
   some (.dn v6)
noncomputable def i_StaleVehicles (t : Timetable) (list : List Report) (now : Int) (limit : Int) : Option ((List Int) × Bool) :=
 (i_areMatched t list limit).bind fun r =>
 (if (!r) = true then some true else (i_IsValidTime now).bind fun r1 =>
 some (!r1)).bind fun (v : Bool) =>
 if v = true then
  some (([] : List Int), false)
 else
  (iter (i_StaleVehicles_L1 list now) ((0 : Int), ([] : List Report))).bind fun (v4 : List Report) =>
  (i_lastReports v4).bind fun r2 =>
  (iter (i_StaleVehicles_L2 now limit r2) ((0 : Int), ([] : List Int))).bind fun (v8 : List Int) =>
  some (v8, true)
noncomputable def s_l25Asked (t : Timetable) (list : List Report) (limit : Int) : Option (Bool) :=
 (s_l25Good t list).bind fun r =>
 (if r = true then (s_l1In limit 0 1799).bind fun r1 =>
 some r1 else some false).bind fun (v : Bool) =>
 some v
noncomputable def s_l25Last_L1 (list : List Report) (i : Int) (v : List Report) : Int → Option (Lp (Int) ((List Report)))
 | v2 =>
  if (decide (0 ≤ v2)) = true then
   (idx list v2).bind fun e =>
   if (e.Vehicle == i) = true then
    (idx list v2).bind fun e1 =>
    (chk (v.length + ([e1] : List Report).length ≤ 4294967296)).bind fun u =>
    some (.dn (v ++ ([e1] : List Report)))
   else
    some (.nx (w64 (v2 - 1)))
  else
   some (.dn v)
noncomputable def s_l25Last_L2 (list : List Report) : Int × (List Report) → Option (Lp (Int × (List Report)) ((List Report)))
 | (i, v) =>
  if (decide (i ≤ 99)) = true then
   ((iter (s_l25Last_L1 list i v) (w64 ((list.length : Int) - 1))).bind fun (v3 : List Report) =>
   some v3).bind fun (v1 : List Report) =>
   some (.nx ((w64 (i + 1)), v1))
  else
   some (.dn v)
noncomputable def s_l25Last (list : List Report) : Option ((List Report)) :=
 (iter (s_l25Last_L2 list) ((1 : Int), ([] : List Report))).bind fun (v4 : List Report) =>
 some v4
noncomputable def s_StaleVehicles_L1 (list : List Report) (now : Int) : Int × (List Report) → Option (Lp (Int × (List Report)) ((List Report)))
 | (v1, v2) =>
  if (decide (v1 < (list.length : Int))) = true then
   ((idx list v1).bind fun e =>
   if (decide (e.Time ≤ now)) = true then
    (idx list v1).bind fun e1 =>
    (chk (v2.length + ([e1] : List Report).length ≤ 4294967296)).bind fun u =>
    some (v2 ++ ([e1] : List Report))
   else
    some v2).bind fun (v3 : List Report) =>
   some (.nx ((w64 (v1 + 1)), v3))
  else
   some (.dn v2)
noncomputable def s_StaleVehicles_L2 (now : Int) (limit : Int) (r2 : (List Report)) : Int × (List Int) → Option (Lp (Int × (List Int)) ((List Int)))
 | (v5, i) =>
  if (decide (v5 < (r2.length : Int))) = true then
   ((idx r2 v5).bind fun e2 =>
   if (decide (limit < (w64 (now - e2.Time)))) = true then
    (idx r2 v5).bind fun e3 =>
    (chk (i.length + ([e3.Vehicle] : List Int).length ≤ 4294967296)).bind fun u1 =>
    some (i ++ ([e3.Vehicle] : List Int))
   else
    some i).bind fun (i1 : List Int) =>
   some (.nx ((w64 (v5 + 1)), i1))
  else
   some (.dn i)
noncomputable def s_StaleVehicles (t : Timetable) (list : List Report) (now : Int) (limit : Int) : Option ((List Int) × Bool) :=
 (s_l25Asked t list limit).bind fun r =>
 (if (!r) = true then some true else (s_l4Time now).bind fun r1 =>
 some (!r1)).bind fun (v : Bool) =>
 if v = true then
  some (([] : List Int), false)
 else
  (iter (s_StaleVehicles_L1 list now) ((0 : Int), ([] : List Report))).bind fun (v4 : List Report) =>
  (s_l25Last v4).bind fun r2 =>
  (iter (s_StaleVehicles_L2 now limit r2) ((0 : Int), ([] : List Int))).bind fun (i2 : List Int) =>
  some (i2, true)
noncomputable def v_FnPositions_L1 (r1 : Timetable × Report) (r4 : (List Match) × Bool) (r5 : (List Match) × Bool) : Int → Option (Lp (Int) (Fl (Bool) (Unit)))
 | runs =>
  if (decide (runs < (r4.1.length : Int))) = true then
   (idx r4.1 runs).bind fun e3 =>
   (idx r5.1 runs).bind fun e4 =>
   (if (!((e3.Vehicle == e4.Vehicle) && ((e3.Id == e4.Id) && ((e3.Delay == e4.Delay) && true)))) = true then some true else (idx r4.1 runs).bind fun e5 =>
   some (e5.Vehicle != r1.2.Vehicle)).bind fun (v2 : Bool) =>
   if v2 = true then
    some (.dn (.ret false))
   else
    some (.nx (w64 (runs + 1)))
  else
   some (.dn (.go ()))
noncomputable def v_FnPositions_L2 (r2 : Int × Int × Bool) (e7 : Line) : Int × Int → Option (Lp (Int × Int) (Int))
 | (i, u) =>
  if (decide (u < r2.1)) = true then
   (idx e7.Runs u).bind fun e8 =>
   some (.nx ((w64 (i + e8)), (w64 (u + 1))))
  else
   some (.dn i)
noncomputable def v_FnPositions_L3 (r9 : (List Int) × Bool) : Int → Option (Lp (Int) (Fl (Bool) (Unit)))
 | v5 =>
  if (decide (v5 < (r9.1.length : Int))) = true then
   (idx r9.1 v5).bind fun e13 =>
   (idx r9.1 (w64 (v5 - 1))).bind fun e14 =>
   if (decide (e13 ≤ e14)) = true then
    some (.dn (.ret false))
   else
    some (.nx (w64 (v5 + 1)))
  else
   some (.dn (.go ()))
noncomputable def v_FnPositions (code : List UInt8) : Option (Bool) :=
 (v_rBig code).bind fun r =>
 if r = true then
  some true
 else
  (s_DrawPlaceOf code).bind fun r1 =>
  (i_PlaceOf r1.1 r1.2).bind fun r2 =>
  (s_PlaceOf r1.1 r1.2).bind fun r3 =>
  (if (r2.1 != r3.1) = true then some true else if (r2.2.1 != r3.2.1) = true then some true else some (!(r2.2.2 == r3.2.2))).bind fun (v : Bool) =>
  if v = true then
   some false
  else
   (i_FittingTrips r1.1 r1.2).bind fun r4 =>
   (s_FittingTrips r1.1 r1.2).bind fun r5 =>
   (if (!(r4.2 == r5.2)) = true then some true else some ((r4.1.length : Int) != (r5.1.length : Int))).bind fun (v1 : Bool) =>
   if v1 = true then
    some false
   else
    flb (iter (v_FnPositions_L1 r1 r4 r5) (0 : Int)) fun (_ : Unit) =>
    flb (if r2.2.2 = true then
     (idx r1.1.Network.Lines r1.2.Line).bind fun e7 =>
     (iter (v_FnPositions_L2 r2 e7) ((0 : Int), (0 : Int))).bind fun (i1 : Int) =>
     (if ((w64 (i1 + r2.2.1)) != r1.2.Done) = true then some true else if (decide (r2.2.1 < 0)) = true then some true else if (decide (r2.1 < (e7.Runs.length : Int))) = true then (idx e7.Runs r2.1).bind fun e9 =>
     some (decide (e9 ≤ r2.2.1)) else some false).bind fun (v3 : Bool) =>
     if v3 = true then
      some (.ret false)
     else
      some (.go ())
    else
     some (.go ())) fun (_ : Unit) =>
    (s_DrawPredictArrivals code).bind fun r8 =>
    (i_PredictArrivals r8.1 r8.2.1 r8.2.2).bind fun r9 =>
    (s_PredictArrivals r8.1 r8.2.1 r8.2.2).bind fun r10 =>
    (if (!(r9.2 == r10.2)) = true then some true else (v_rInts r9.1 r10.1).bind fun r11 =>
    some (!r11)).bind fun (v4 : Bool) =>
    if v4 = true then
     some false
    else
     flb (iter (v_FnPositions_L3 r9) (1 : Int)) fun (_ : Unit) =>
     (s_DrawSpeedOf code).bind fun r13 =>
     (i_SpeedOf r13.1 r13.2.1 r13.2.2).bind fun r14 =>
     (s_SpeedOf r13.1 r13.2.1 r13.2.2).bind fun r15 =>
     (s_DrawStaleVehicles code).bind fun r16 =>
     (i_StaleVehicles r16.1 r16.2.1 r16.2.2.1 r16.2.2.2).bind fun r17 =>
     (s_StaleVehicles r16.1 r16.2.1 r16.2.2.1 r16.2.2.2).bind fun r18 =>
     (if (r14.1 == r15.1) = true then if (r14.2.1 == r15.2.1) = true then if (r14.2.2 == r15.2.2) = true then if (r17.2 == r18.2) = true then (v_rInts r17.1 r18.1).bind fun r19 =>
     some r19 else some false else some false else some false else some false).bind fun (t : Bool) =>
     some t
end Go.Proofs.Ytjljkjbdkjjdcaa
