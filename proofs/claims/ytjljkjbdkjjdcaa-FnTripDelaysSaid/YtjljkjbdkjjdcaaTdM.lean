/- Models of the functions that the law reaches: plain Lean; none where the function would panic or not end. Made by program (dec.py). -/
import Derived.Test.YtjljkjbdkjjdcaaAbC0
namespace Go.Proofs.Ytjljkjbdkjjdcaa
open Go Go.Ab
set_option maxRecDepth 100000
set_option maxHeartbeats 4000000
set_option linter.unusedVariables false
set_option linter.unusedSimpArgs false
structure l1Cur where
 code_ : List UInt8
 at_ : Int
 seed_ : IK .u64
instance enc_l1Cur : Enc l1Cur := ⟨3, fun x => .agg [Enc.e x.code_, .sc (.int .i64 x.at_), .sc (.int .u64 x.seed_.v)], fun a b h => by
 simp only [D.agg.injEq, List.cons.injEq, and_true] at h
 obtain ⟨a1, a2, a3⟩ := a
 obtain ⟨b1, b2, b3⟩ := b
 obtain ⟨h1, h2, h3⟩ := h
 have q1 := Enc.inj (α := List UInt8) a1 b1 h1
 have q2 := Enc.inj (α := Int) a2 b2 h2
 have q3 := Enc.inj (α := IK .u64) a3 b3 h3
 subst q1; subst q2; subst q3; rfl⟩
structure Line where
 Name : ByteArray
 Stops : List Int
 Runs : List Int
instance enc_Line : Enc Line := ⟨3, fun x => .agg [.sc (.string x.Name), Enc.e x.Stops, Enc.e x.Runs], fun a b h => by
 simp only [D.agg.injEq, List.cons.injEq, and_true] at h
 obtain ⟨a1, a2, a3⟩ := a
 obtain ⟨b1, b2, b3⟩ := b
 obtain ⟨h1, h2, h3⟩ := h
 have q1 := Enc.inj (α := ByteArray) a1 b1 h1
 have q2 := Enc.inj (α := List Int) a2 b2 h2
 have q3 := Enc.inj (α := List Int) a3 b3 h3
 subst q1; subst q2; subst q3; rfl⟩
structure Network where
 Stops : List ByteArray
 Lines : List Line
instance enc_Network : Enc Network := ⟨2, fun x => .agg [Enc.e x.Stops, Enc.e x.Lines], fun a b h => by
 simp only [D.agg.injEq, List.cons.injEq, and_true] at h
 obtain ⟨a1, a2⟩ := a
 obtain ⟨b1, b2⟩ := b
 obtain ⟨h1, h2⟩ := h
 have q1 := Enc.inj (α := List ByteArray) a1 b1 h1
 have q2 := Enc.inj (α := List Line) a2 b2 h2
 subst q1; subst q2; rfl⟩
structure Trip where
 Id : Int
 Line : Int
 Start : Int
instance enc_Trip : Enc Trip := ⟨3, fun x => .agg [.sc (.int .i64 x.Id), .sc (.int .i64 x.Line), .sc (.int .i64 x.Start)], fun a b h => by
 simp only [D.agg.injEq, List.cons.injEq, and_true] at h
 obtain ⟨a1, a2, a3⟩ := a
 obtain ⟨b1, b2, b3⟩ := b
 obtain ⟨h1, h2, h3⟩ := h
 have q1 := Enc.inj (α := Int) a1 b1 h1
 have q2 := Enc.inj (α := Int) a2 b2 h2
 have q3 := Enc.inj (α := Int) a3 b3 h3
 subst q1; subst q2; subst q3; rfl⟩
structure Timetable where
 Network : Network
 Trips : List Trip
instance enc_Timetable : Enc Timetable := ⟨3, fun x => .agg [Enc.e x.Network.Stops, Enc.e x.Network.Lines, Enc.e x.Trips], fun a b h => by
 simp only [D.agg.injEq, List.cons.injEq, and_true] at h
 obtain ⟨⟨a1, a2⟩, a3⟩ := a
 obtain ⟨⟨b1, b2⟩, b3⟩ := b
 obtain ⟨h1, h2, h3⟩ := h
 have q1 := Enc.inj (α := List ByteArray) a1 b1 h1
 have q2 := Enc.inj (α := List Line) a2 b2 h2
 have q3 := Enc.inj (α := List Trip) a3 b3 h3
 subst q1; subst q2; subst q3; rfl⟩
structure TripDelay where
 Id : Int
 Minutes : Int
instance enc_TripDelay : Enc TripDelay := ⟨2, fun x => .agg [.sc (.int .i64 x.Id), .sc (.int .i64 x.Minutes)], fun a b h => by
 simp only [D.agg.injEq, List.cons.injEq, and_true] at h
 obtain ⟨a1, a2⟩ := a
 obtain ⟨b1, b2⟩ := b
 obtain ⟨h1, h2⟩ := h
 have q1 := Enc.inj (α := Int) a1 b1 h1
 have q2 := Enc.inj (α := Int) a2 b2 h2
 subst q1; subst q2; rfl⟩
structure departure where
 trip_ : Trip
 time_ : Int
 delay_ : Int
instance enc_departure : Enc departure := ⟨5, fun x => .agg [.sc (.int .i64 x.trip_.Id), .sc (.int .i64 x.trip_.Line), .sc (.int .i64 x.trip_.Start), .sc (.int .i64 x.time_), .sc (.int .i64 x.delay_)], fun a b h => by
 simp only [D.agg.injEq, List.cons.injEq, and_true] at h
 obtain ⟨⟨a1, a2, a3⟩, a4, a5⟩ := a
 obtain ⟨⟨b1, b2, b3⟩, b4, b5⟩ := b
 obtain ⟨h1, h2, h3, h4, h5⟩ := h
 have q1 := Enc.inj (α := Int) a1 b1 h1
 have q2 := Enc.inj (α := Int) a2 b2 h2
 have q3 := Enc.inj (α := Int) a3 b3 h3
 have q4 := Enc.inj (α := Int) a4 b4 h4
 have q5 := Enc.inj (α := Int) a5 b5 h5
 subst q1; subst q2; subst q3; subst q4; subst q5; rfl⟩
structure A2_Int where
 X0 : Int
 X1 : Int
instance enc_A2_Int : Enc A2_Int := ⟨2, fun x => .agg [.sc (.int .i64 x.X0), .sc (.int .i64 x.X1)], fun a b h => by
 simp only [D.agg.injEq, List.cons.injEq, and_true] at h
 obtain ⟨a1, a2⟩ := a
 obtain ⟨b1, b2⟩ := b
 obtain ⟨h1, h2⟩ := h
 have q1 := Enc.inj (α := Int) a1 b1 h1
 have q2 := Enc.inj (α := Int) a2 b2 h2
 subst q1; subst q2; rfl⟩
instance : BxE l1Cur := ⟨fun x y h => Enc.inj x y (congrArg D.agg h)⟩
instance : BxE Line := ⟨fun x y h => Enc.inj x y (congrArg D.agg h)⟩
instance : BxE Network := ⟨fun x y h => Enc.inj x y (congrArg D.agg h)⟩
instance : BxE Trip := ⟨fun x y h => Enc.inj x y (congrArg D.agg h)⟩
instance : BxE Timetable := ⟨fun x y h => Enc.inj x y (congrArg D.agg h)⟩
instance : BxE TripDelay := ⟨fun x y h => Enc.inj x y (congrArg D.agg h)⟩
instance : BxE departure := ⟨fun x y h => Enc.inj x y (congrArg D.agg h)⟩
instance : BxE A2_Int := ⟨fun x y h => Enc.inj x y (congrArg D.agg h)⟩
instance : FlatEnc Trip := ⟨fun _ => flatDB_ok rfl⟩
instance : FlatEnc TripDelay := ⟨fun _ => flatDB_ok rfl⟩
instance : FlatEnc departure := ⟨fun _ => flatDB_ok rfl⟩
instance : FlatEnc A2_Int := ⟨fun _ => flatDB_ok rfl⟩
noncomputable def v_rBig (code : List UInt8) : Option (Bool) :=
 some (decide (65536 < (code.length : Int)))
noncomputable def s_l1Cur_next (c : l1Cur) : Option (Int × l1Cur) :=
 (if (decide (c.at_ < (c.code_.length : Int))) = true then
  (idx c.code_ c.at_).bind fun e1 =>
  some (w64 ((e1.toNat : Int)))
 else
  some (0 : Int)).bind fun (v : Int) =>
 if (decide ((w64 (c.at_ + 1)) ≤ (c.code_.length : Int))) = true then
  some (v, (⟨c.code_, (w64 (c.at_ + 1)), (⟨(IntKind.u64.wrap ((IntKind.u64.wrap ((IntKind.u64.wrap (c.seed_.v * 6364136223846793005)) + (IntKind.u64.wrap (v)))) + 900900))⟩ : IK .u64)⟩ : l1Cur))
 else
  (chk ((0 : Int) ≤ 40)).bind fun u =>
  some ((w64 ((IntKind.u64.wrap ((BitVec.ofInt (IntKind.u64).bits ((IntKind.u64.wrap ((IntKind.u64.wrap ((IntKind.u64.wrap (c.seed_.v * 6364136223846793005)) + (IntKind.u64.wrap (v)))) + 900900)).fdiv (2 ^ (min (40 : Int).toNat (IntKind.u64).bits))) &&& BitVec.ofInt (IntKind.u64).bits 255).toNat : Int)))), (⟨c.code_, (w64 (c.at_ + 1)), (⟨(IntKind.u64.wrap ((IntKind.u64.wrap ((IntKind.u64.wrap (c.seed_.v * 6364136223846793005)) + (IntKind.u64.wrap (v)))) + 900900))⟩ : IK .u64)⟩ : l1Cur))
noncomputable def s_l1Cur_pick (c : l1Cur) (n : Int) : Option (Int × l1Cur) :=
 if (decide (n ≤ 1)) = true then
  some (0, c)
 else
  (s_l1Cur_next c).bind fun r =>
  (if (decide (200 < n)) = true then
   (s_l1Cur_next r.2).bind fun r1 =>
   some ((w64 ((w64 (r.1 * 256)) + r1.1)), r1.2.code_, r1.2.at_, r1.2.seed_.v)
  else
   some (r.1, r.2.code_, r.2.at_, r.2.seed_.v)).bind fun ((v, v1, v2, v3) : Int × (List UInt8) × Int × Int) =>
  (chk ((n : Int) ≠ 0)).bind fun u =>
  some ((v.tmod n), (⟨v1, v2, (⟨v3⟩ : IK .u64)⟩ : l1Cur))
noncomputable def s_l1Num_F (rec_ : Int → Option (ByteArray)) (n : Int) : Option (ByteArray) :=
 if (decide (n < 0)) = true then
  (rec_ (w64 (0 - n))).bind fun r =>
  (chk ((str [45]).size + r.size ≤ 4294967296)).bind fun u =>
  some ((str [45]) ++ r)
 else
  if (decide (n < 10)) = true then
   (chk ((0 : Int) ≤ n ∧ n ≤ (w64 (n + 1)) ∧ (w64 (n + 1)) ≤ ((str [48, 49, 50, 51, 52, 53, 54, 55, 56, 57]).size : Int))).bind fun u1 =>
   some ((str [48, 49, 50, 51, 52, 53, 54, 55, 56, 57]).extract n.toNat (w64 (n + 1)).toNat)
  else
   (chk ((10 : Int) ≠ 0)).bind fun u7 =>
   (rec_ (w64 (n.tdiv 10))).bind fun r2 =>
   (chk ((10 : Int) ≠ 0)).bind fun u8 =>
   (chk ((10 : Int) ≠ 0)).bind fun u9 =>
   (chk ((0 : Int) ≤ (n.tmod 10) ∧ (n.tmod 10) ≤ (w64 ((n.tmod 10) + 1)) ∧ (w64 ((n.tmod 10) + 1)) ≤ ((str [48, 49, 50, 51, 52, 53, 54, 55, 56, 57]).size : Int))).bind fun u10 =>
   (chk (r2.size + ((str [48, 49, 50, 51, 52, 53, 54, 55, 56, 57]).extract (n.tmod 10).toNat (w64 ((n.tmod 10) + 1)).toNat).size ≤ 4294967296)).bind fun u11 =>
   some (r2 ++ ((str [48, 49, 50, 51, 52, 53, 54, 55, 56, 57]).extract (n.tmod 10).toNat (w64 ((n.tmod 10) + 1)).toNat))
noncomputable def s_l1Num_k : Nat → Int → Option (ByteArray)
 | 0 => fun _ => none
 | n + 1 => s_l1Num_F (s_l1Num_k n)
noncomputable def s_l1Num (n : Int) : Option (ByteArray) := s_l1Num_k 4294967296 n
noncomputable def s_l2Place_L1 (x : Line) (stop : Int) : Int → Option (Lp (Int) (Fl (Int) (Unit)))
 | v =>
  if (decide (v < (x.Stops.length : Int))) = true then
   (idx x.Stops v).bind fun e =>
   if (e == stop) = true then
    some (.dn (.ret v))
   else
    some (.nx (w64 (v + 1)))
  else
   some (.dn (.go ()))
noncomputable def s_l2Place (x : Line) (stop : Int) : Option (Int) :=
 flb (iter (s_l2Place_L1 x stop) (0 : Int)) fun (_ : Unit) =>
 some (-1)
noncomputable def s_l1Cur_line_L1 (name : ByteArray) (stops : Int) : Int × Int × (List UInt8) × Int × Int × (List Int) → Option (Lp (Int × Int × (List UInt8) × Int × Int × (List Int)) ((List UInt8) × Int × Int × (List Int)))
 | (v, v1, v2, v3, v4, v5) =>
  if (decide (0 < v1)) = true then
   ((s_l2Place (⟨name, v5, ([] : List Int)⟩ : Line) v).bind fun r2 =>
   if (decide (r2 < 0)) = true then
    (chk (v5.length + ([v] : List Int).length ≤ 4294967296)).bind fun u =>
    some (v5 ++ ([v] : List Int))
   else
    some v5).bind fun (v6 : List Int) =>
   (s_l1Cur_pick (⟨v2, v3, (⟨v4⟩ : IK .u64)⟩ : l1Cur) 2).bind fun r3 =>
   (chk ((stops : Int) ≠ 0)).bind fun u1 =>
   some (.nx (((w64 ((w64 (v + 1)) + r3.1)).tmod stops), (w64 (v1 - 1)), r3.2.code_, r3.2.at_, r3.2.seed_.v, v6))
  else
   some (.dn (v2, v3, v4, v5))
noncomputable def s_l1Cur_line_L2 (v11 : List Int) : Int × (List UInt8) × Int × Int × (List Int) → Option (Lp (Int × (List UInt8) × Int × Int × (List Int)) ((List UInt8) × Int × Int × (List Int)))
 | (v12, v13, v14, v15, v16) =>
  if (decide (v12 < (v11.length : Int))) = true then
   (s_l1Cur_pick (⟨v13, v14, (⟨v15⟩ : IK .u64)⟩ : l1Cur) 12).bind fun r5 =>
   (chk (v16.length + ([(w64 (3 + r5.1))] : List Int).length ≤ 4294967296)).bind fun u7 =>
   some (.nx ((w64 (v12 + 1)), r5.2.code_, r5.2.at_, r5.2.seed_.v, (v16 ++ ([(w64 (3 + r5.1))] : List Int))))
  else
   some (.dn (v13, v14, v15, v16))
noncomputable def s_l1Cur_line (c : l1Cur) (name : ByteArray) (stops : Int) : Option (Line × l1Cur) :=
 (s_l1Cur_pick c stops).bind fun r =>
 (s_l1Cur_pick r.2 3).bind fun r1 =>
 (iter (s_l1Cur_line_L1 name stops) (r.1, (w64 (2 + r1.1)), r1.2.code_, r1.2.at_, r1.2.seed_.v, ([] : List Int))).bind fun ((v7, v8, v9, v10) : (List UInt8) × Int × Int × (List Int)) =>
 (if (decide ((v10.length : Int) < 2)) = true then
  (idx v10 0).bind fun e1 =>
  (chk ((stops : Int) ≠ 0)).bind fun u4 =>
  (chk (v10.length + ([((w64 (e1 + 1)).tmod stops)] : List Int).length ≤ 4294967296)).bind fun u5 =>
  some (v10 ++ ([((w64 (e1 + 1)).tmod stops)] : List Int))
 else
  some v10).bind fun (v11 : List Int) =>
 (iter (s_l1Cur_line_L2 v11) ((1 : Int), v7, v8, v9, ([] : List Int))).bind fun ((v17, v18, v19, v20) : (List UInt8) × Int × Int × (List Int)) =>
 some ((⟨name, v11, v20⟩ : Line), (⟨v17, v18, (⟨v19⟩ : IK .u64)⟩ : l1Cur))
noncomputable def s_l1Cur_line_f_L1 (name : ByteArray) (stops : Int) : Int × Int × (List UInt8) × Int × Int × (List Int) → Option (Lp (Int × Int × (List UInt8) × Int × Int × (List Int)) ((List UInt8) × Int × Int × (List Int)))
 | (v, v1, v2, v3, v4, v5) =>
  if (decide (0 < v1)) = true then
   ((s_l2Place (⟨name, v5, ([] : List Int)⟩ : Line) v).bind fun r2 =>
   if (decide (r2 < 0)) = true then
    (chk (v5.length + ([v] : List Int).length ≤ 4294967296)).bind fun u =>
    some (v5 ++ ([v] : List Int))
   else
    some v5).bind fun (v6 : List Int) =>
   (s_l1Cur_pick (⟨v2, v3, (⟨v4⟩ : IK .u64)⟩ : l1Cur) 2).bind fun r3 =>
   (chk ((stops : Int) ≠ 0)).bind fun u1 =>
   some (.nx (((w64 ((w64 (v + 1)) + r3.1)).tmod stops), (w64 (v1 - 1)), r3.2.code_, r3.2.at_, r3.2.seed_.v, v6))
  else
   some (.dn (v2, v3, v4, v5))
noncomputable def s_l1Cur_line_f_L2 (v11 : List Int) : Int × (List UInt8) × Int × Int × (List Int) → Option (Lp (Int × (List UInt8) × Int × Int × (List Int)) ((List UInt8) × Int × Int × (List Int)))
 | (v12, v13, v14, v15, v16) =>
  if (decide (v12 < (v11.length : Int))) = true then
   (s_l1Cur_pick (⟨v13, v14, (⟨v15⟩ : IK .u64)⟩ : l1Cur) 12).bind fun r5 =>
   (chk (v16.length + ([(w64 (3 + r5.1))] : List Int).length ≤ 4294967296)).bind fun u7 =>
   some (.nx ((w64 (v12 + 1)), r5.2.code_, r5.2.at_, r5.2.seed_.v, (v16 ++ ([(w64 (3 + r5.1))] : List Int))))
  else
   some (.dn (v13, v14, v15, v16))
noncomputable def s_l1Cur_line_f (c : l1Cur) (name : ByteArray) (stops : Int) : Option (Line × l1Cur) :=
 (s_l1Cur_pick c stops).bind fun r =>
 (s_l1Cur_pick r.2 3).bind fun r1 =>
 (iter (s_l1Cur_line_f_L1 name stops) (r.1, (w64 (2 + r1.1)), r1.2.code_, r1.2.at_, r1.2.seed_.v, ([] : List Int))).bind fun ((v7, v8, v9, v10) : (List UInt8) × Int × Int × (List Int)) =>
 (if (decide ((v10.length : Int) < 2)) = true then
  (idx v10 0).bind fun e1 =>
  (chk ((stops : Int) ≠ 0)).bind fun u4 =>
  (chk (v10.length + ([((w64 (e1 + 1)).tmod stops)] : List Int).length ≤ 4294967296)).bind fun u5 =>
  some (v10 ++ ([((w64 (e1 + 1)).tmod stops)] : List Int))
 else
  some v10).bind fun (v11 : List Int) =>
 (iter (s_l1Cur_line_f_L2 v11) ((1 : Int), v7, v8, v9, ([] : List Int))).bind fun ((v17, v18, v19, v20) : (List UInt8) × Int × Int × (List Int)) =>
 some ((⟨name, v11, v20⟩ : Line), (⟨v17, v18, (⟨v19⟩ : IK .u64)⟩ : l1Cur))
noncomputable def s_l1Cur_one (c : l1Cur) (n : Int) : Option (Bool × l1Cur) :=
 (s_l1Cur_pick c n).bind fun r =>
 some ((r.1 == 0), r.2)
noncomputable def s_l2Back_L1 (list : List Int) : Int × (List Int) → Option (Lp (Int × (List Int)) ((List Int)))
 | (v, i) =>
  if (decide (0 ≤ v)) = true then
   (idx list v).bind fun e =>
   (chk (i.length + ([e] : List Int).length ≤ 4294967296)).bind fun u =>
   some (.nx ((w64 (v - 1)), (i ++ ([e] : List Int))))
  else
   some (.dn i)
noncomputable def s_l2Back (list : List Int) : Option ((List Int)) :=
 (iter (s_l2Back_L1 list) ((w64 ((list.length : Int) - 1)), ([] : List Int))).bind fun (i1 : List Int) =>
 some i1
noncomputable def s_l2Back_f_L1 (list : List Int) : Int × (List Int) → Option (Lp (Int × (List Int)) ((List Int)))
 | (v, i) =>
  if (decide (0 ≤ v)) = true then
   (idx list v).bind fun e =>
   (chk (i.length + ([e] : List Int).length ≤ 4294967296)).bind fun u =>
   some (.nx ((w64 (v - 1)), (i ++ ([e] : List Int))))
  else
   some (.dn i)
noncomputable def s_l2Back_f (list : List Int) : Option ((List Int)) :=
 (iter (s_l2Back_f_L1 list) ((w64 ((list.length : Int) - 1)), ([] : List Int))).bind fun (i1 : List Int) =>
 some i1
noncomputable def s_l1Own (l : List Int) : Option ((List Int)) :=
 (chk (([] : List Int).length + l.length ≤ 4294967296)).bind fun u =>
 some (([] : List Int) ++ l)
noncomputable def s_l1Own_f (l : List Int) : Option ((List Int)) :=
 (chk (([] : List Int).length + l.length ≤ 4294967296)).bind fun u =>
 some (([] : List Int) ++ l)
noncomputable def s_l2Own_L1 (n : Network) : Int × (List Line) → Option (Lp (Int × (List Line)) ((List Line)))
 | (v, v1) =>
  if (decide (v < (n.Lines.length : Int))) = true then
   (idx n.Lines v).bind fun e3 =>
   (idx n.Lines v).bind fun e4 =>
   (s_l1Own_f e4.Stops).bind fun r2 =>
   (idx n.Lines v).bind fun e5 =>
   (s_l1Own_f e5.Runs).bind fun r3 =>
   (chk (v1.length + ([(⟨e3.Name, r2, r3⟩ : Line)] : List Line).length ≤ 4294967296)).bind fun u2 =>
   some (.nx ((w64 (v + 1)), (v1 ++ ([(⟨e3.Name, r2, r3⟩ : Line)] : List Line))))
  else
   some (.dn v1)
noncomputable def s_l2Own (n : Network) : Option (Network) :=
 (chk (([] : List ByteArray).length + n.Stops.length ≤ 4294967296)).bind fun u =>
 (iter (s_l2Own_L1 n) ((0 : Int), ([] : List Line))).bind fun (v2 : List Line) =>
 some (⟨(([] : List ByteArray) ++ n.Stops), v2⟩ : Network)
noncomputable def s_l1Cur_network_L1 (r : Int × l1Cur) : Int × (List UInt8) × Int × Int × (List Line) → Option (Lp (Int × (List UInt8) × Int × Int × (List Line)) ((List UInt8) × Int × Int × (List Line)))
 | (x, v, v1, v2, v3) =>
  if (decide (0 < x)) = true then
   (s_l1Num x).bind fun r4 =>
   (chk ((str [108]).size + r4.size ≤ 4294967296)).bind fun u3 =>
   (s_l1Cur_line_f (⟨v, v1, (⟨v2⟩ : IK .u64)⟩ : l1Cur) ((str [108]) ++ r4) (w64 (2 + r.1))).bind fun r5 =>
   (chk (v3.length + ([r5.1] : List Line).length ≤ 4294967296)).bind fun u4 =>
   some (.nx ((w64 (x - 1)), r5.2.code_, r5.2.at_, r5.2.seed_.v, (v3 ++ ([r5.1] : List Line))))
  else
   some (.dn (v, v1, v2, v3))
noncomputable def s_l1Cur_network (c : l1Cur) : Option (Network × l1Cur) :=
 (s_l1Cur_pick c 5).bind fun r =>
 (chk ((0 : Int) ≤ 0 ∧ 0 ≤ (w64 (2 + r.1)) ∧ (w64 (2 + r.1)) ≤ (([(str [112, 111, 114, 116]), (str [109, 105, 108, 108]), (str [112, 97, 114, 107]), (str [104, 97, 108, 108]), (str [100, 111, 99, 107]), (str [102, 97, 105, 114])] : List ByteArray).length : Int))).bind fun u =>
 (s_l1Cur_pick r.2 3).bind fun r1 =>
 (iter (s_l1Cur_network_L1 r) ((w64 (1 + r1.1)), r1.2.code_, r1.2.at_, r1.2.seed_.v, ([] : List Line))).bind fun ((v4, v5, v6, v7) : (List UInt8) × Int × Int × (List Line)) =>
 ((s_l1Cur_one (⟨v4, v5, (⟨v6⟩ : IK .u64)⟩ : l1Cur) 2).bind fun r6 =>
 if r6.1 = true then
  (idx v7 0).bind fun e =>
  (s_l2Back_f e.Stops).bind fun r9 =>
  (s_l2Back_f e.Runs).bind fun r10 =>
  (chk (v7.length + ([(⟨(str [114, 49]), r9, r10⟩ : Line)] : List Line).length ≤ 4294967296)).bind fun u6 =>
  some (r6.2.code_, r6.2.at_, r6.2.seed_.v, (v7 ++ ([(⟨(str [114, 49]), r9, r10⟩ : Line)] : List Line)))
 else
  some (r6.2.code_, r6.2.at_, r6.2.seed_.v, v7)).bind fun ((v8, v9, v10, v11) : (List UInt8) × Int × Int × (List Line)) =>
 (s_l2Own (⟨((([(str [112, 111, 114, 116]), (str [109, 105, 108, 108]), (str [112, 97, 114, 107]), (str [104, 97, 108, 108]), (str [100, 111, 99, 107]), (str [102, 97, 105, 114])] : List ByteArray).take (w64 (2 + r.1)).toNat).drop (0 : Int).toNat), v11⟩ : Network)).bind fun r11 =>
 some ((⟨r11.Stops, r11.Lines⟩ : Network), (⟨v8, v9, (⟨v10⟩ : IK .u64)⟩ : l1Cur))
noncomputable def s_l1Cur_timetable_L1 (r : Network × l1Cur) : Int × Int × (List UInt8) × Int × Int × (List Trip) → Option (Lp (Int × Int × (List UInt8) × Int × Int × (List Trip)) ((List UInt8) × Int × Int × (List Trip)))
 | (n, v, v1, v2, v3, v4) =>
  if (decide (0 < v)) = true then
   (s_l1Cur_pick (⟨v1, v2, (⟨v3⟩ : IK .u64)⟩ : l1Cur) 3).bind fun r2 =>
   (s_l1Cur_pick r2.2 (r.1.Lines.length : Int)).bind fun r5 =>
   (s_l1Cur_pick r5.2 24).bind fun r6 =>
   (chk (v4.length + ([(⟨(w64 ((w64 (n + 1)) + r2.1)), r5.1, (w64 (360 + (w64 (5 * r6.1))))⟩ : Trip)] : List Trip).length ≤ 4294967296)).bind fun u1 =>
   some (.nx ((w64 ((w64 (n + 1)) + r2.1)), (w64 (v - 1)), r6.2.code_, r6.2.at_, r6.2.seed_.v, (v4 ++ ([(⟨(w64 ((w64 (n + 1)) + r2.1)), r5.1, (w64 (360 + (w64 (5 * r6.1))))⟩ : Trip)] : List Trip))))
  else
   some (.dn (v1, v2, v3, v4))
noncomputable def s_l1Cur_timetable (c : l1Cur) : Option (Timetable × l1Cur) :=
 (s_l1Cur_network c).bind fun r =>
 (s_l1Cur_pick r.2 8).bind fun r1 =>
 (iter (s_l1Cur_timetable_L1 r) ((0 : Int), r1.1, r1.2.code_, r1.2.at_, r1.2.seed_.v, ([] : List Trip))).bind fun ((v5, v6, v7, v8) : (List UInt8) × Int × Int × (List Trip)) =>
 some ((⟨(⟨r.1.Stops, r.1.Lines⟩ : Network), v8⟩ : Timetable), (⟨v5, v6, (⟨v7⟩ : IK .u64)⟩ : l1Cur))
noncomputable def s_l1Cur_among (c : l1Cur) (list : List Int) : Option (Int × l1Cur) :=
 (s_l1Cur_pick c (list.length : Int)).bind fun r =>
 (idx list r.1).bind fun e =>
 some (e, r.2)
noncomputable def s_l1Cur_of (c : l1Cur) (list : List ByteArray) : Option (ByteArray × l1Cur) :=
 (s_l1Cur_pick c (list.length : Int)).bind fun r =>
 (idx list r.1).bind fun e =>
 some (e, r.2)
noncomputable def s_l1Cur_of_w (c : l1Cur) (list : List ByteArray) : Option (ByteArray × l1Cur) :=
 (s_l1Cur_pick c (list.length : Int)).bind fun r =>
 (idx list r.1).bind fun e =>
 some (e, r.2)
noncomputable def s_l2Own_t_L1 (n : Network) : Int × (List Line) → Option (Lp (Int × (List Line)) ((List Line)))
 | (v, v1) =>
  if (decide (v < (n.Lines.length : Int))) = true then
   (idx n.Lines v).bind fun e3 =>
   (idx n.Lines v).bind fun e4 =>
   (s_l1Own e4.Stops).bind fun r2 =>
   (idx n.Lines v).bind fun e5 =>
   (s_l1Own e5.Runs).bind fun r3 =>
   (chk (v1.length + ([(⟨e3.Name, r2, r3⟩ : Line)] : List Line).length ≤ 4294967296)).bind fun u2 =>
   some (.nx ((w64 (v + 1)), (v1 ++ ([(⟨e3.Name, r2, r3⟩ : Line)] : List Line))))
  else
   some (.dn v1)
noncomputable def s_l2Own_t (n : Network) : Option (Network) :=
 (chk (([] : List ByteArray).length + n.Stops.length ≤ 4294967296)).bind fun u =>
 (iter (s_l2Own_t_L1 n) ((0 : Int), ([] : List Line))).bind fun (v2 : List Line) =>
 some (⟨(([] : List ByteArray) ++ n.Stops), v2⟩ : Network)
noncomputable def s_l1Cur_network_t_L1 (r : Int × l1Cur) : Int × (List UInt8) × Int × Int × (List Line) → Option (Lp (Int × (List UInt8) × Int × Int × (List Line)) ((List UInt8) × Int × Int × (List Line)))
 | (x, v, v1, v2, v3) =>
  if (decide (0 < x)) = true then
   (s_l1Num x).bind fun r4 =>
   (chk ((str [108]).size + r4.size ≤ 4294967296)).bind fun u3 =>
   (s_l1Cur_line_f (⟨v, v1, (⟨v2⟩ : IK .u64)⟩ : l1Cur) ((str [108]) ++ r4) (w64 (2 + r.1))).bind fun r5 =>
   (chk (v3.length + ([r5.1] : List Line).length ≤ 4294967296)).bind fun u4 =>
   some (.nx ((w64 (x - 1)), r5.2.code_, r5.2.at_, r5.2.seed_.v, (v3 ++ ([r5.1] : List Line))))
  else
   some (.dn (v, v1, v2, v3))
noncomputable def s_l1Cur_network_t (c : l1Cur) : Option (Network × l1Cur) :=
 (s_l1Cur_pick c 5).bind fun r =>
 (chk ((0 : Int) ≤ 0 ∧ 0 ≤ (w64 (2 + r.1)) ∧ (w64 (2 + r.1)) ≤ (([(str [112, 111, 114, 116]), (str [109, 105, 108, 108]), (str [112, 97, 114, 107]), (str [104, 97, 108, 108]), (str [100, 111, 99, 107]), (str [102, 97, 105, 114])] : List ByteArray).length : Int))).bind fun u =>
 (s_l1Cur_pick r.2 3).bind fun r1 =>
 (iter (s_l1Cur_network_t_L1 r) ((w64 (1 + r1.1)), r1.2.code_, r1.2.at_, r1.2.seed_.v, ([] : List Line))).bind fun ((v4, v5, v6, v7) : (List UInt8) × Int × Int × (List Line)) =>
 ((s_l1Cur_one (⟨v4, v5, (⟨v6⟩ : IK .u64)⟩ : l1Cur) 2).bind fun r6 =>
 if r6.1 = true then
  (idx v7 0).bind fun e =>
  (s_l2Back_f e.Stops).bind fun r9 =>
  (s_l2Back_f e.Runs).bind fun r10 =>
  (chk (v7.length + ([(⟨(str [114, 49]), r9, r10⟩ : Line)] : List Line).length ≤ 4294967296)).bind fun u6 =>
  some (r6.2.code_, r6.2.at_, r6.2.seed_.v, (v7 ++ ([(⟨(str [114, 49]), r9, r10⟩ : Line)] : List Line)))
 else
  some (r6.2.code_, r6.2.at_, r6.2.seed_.v, v7)).bind fun ((v8, v9, v10, v11) : (List UInt8) × Int × Int × (List Line)) =>
 (s_l2Own_t (⟨((([(str [112, 111, 114, 116]), (str [109, 105, 108, 108]), (str [112, 97, 114, 107]), (str [104, 97, 108, 108]), (str [100, 111, 99, 107]), (str [102, 97, 105, 114])] : List ByteArray).take (w64 (2 + r.1)).toNat).drop (0 : Int).toNat), v11⟩ : Network)).bind fun r11 =>
 some ((⟨r11.Stops, r11.Lines⟩ : Network), (⟨v8, v9, (⟨v10⟩ : IK .u64)⟩ : l1Cur))
noncomputable def s_l1Cur_among_w (c : l1Cur) (list : List Int) : Option (Int × l1Cur) :=
 (s_l1Cur_pick c (list.length : Int)).bind fun r =>
 (idx list r.1).bind fun e =>
 some (e, r.2)
noncomputable def s_l1Cur_anyNetwork_L1 (r : Network × l1Cur) : Int × (List UInt8) × Int × Int × (List Line) → Option (Lp (Int × (List UInt8) × Int × Int × (List Line)) ((List UInt8) × Int × Int × (List Line)))
 | (v7, v8, v9, v10, v11) =>
  (s_l1Cur_pick (⟨v8, v9, (⟨v10⟩ : IK .u64)⟩ : l1Cur) 2).bind fun r16 =>
  (if (decide ((v11.length : Int) < (w64 (5 + r16.1)))) = true then some (decide (v7 < 7)) else some false).bind fun (v12 : Bool) =>
  if v12 = true then
   (s_l1Num v7).bind fun r19 =>
   (chk ((str [120]).size + r19.size ≤ 4294967296)).bind fun u3 =>
   (s_l1Cur_line r16.2 ((str [120]) ++ r19) (r.1.Stops.length : Int)).bind fun r20 =>
   (chk (v11.length + ([(⟨r20.1.Name, r20.1.Stops, r20.1.Runs⟩ : Line)] : List Line).length ≤ 4294967296)).bind fun u4 =>
   some (.nx ((w64 (v7 + 1)), r20.2.code_, r20.2.at_, r20.2.seed_.v, (v11 ++ ([(⟨r20.1.Name, r20.1.Stops, r20.1.Runs⟩ : Line)] : List Line))))
  else
   some (.dn (r16.2.code_, r16.2.at_, r16.2.seed_.v, v11))
noncomputable def s_l1Cur_anyNetwork (c : l1Cur) : Option (Network × l1Cur) :=
 (s_l1Cur_network_t c).bind fun r =>
 (s_l1Cur_pick r.2 (r.1.Lines.length : Int)).bind fun r1 =>
 (idx r.1.Lines r1.1).bind fun e =>
 flb ((s_l1Cur_pick r1.2 24).bind fun r2 =>
 if (r2.1 == 0) = true then
  (s_l1Cur_of_w r2.2 ([(str [109, 105, 108, 108]), (str []), (str [65]), (str [97, 98, 99, 100, 101, 102, 103, 104]), (str [97, 98, 99, 100, 101, 102, 103, 104, 105])] : List ByteArray)).bind fun r4 =>
  (idx r.1.Stops 0).bind fun e2 =>
  some (.go (r4.2.code_, r4.2.at_, r4.2.seed_.v, e.Name, (r.1.Stops.set (0 : Int).toNat r4.1), r.1.Lines, e.Runs))
 else
  if (r2.1 == 1) = true then
   (s_l1Cur_of_w r2.2 ([(str [114, 49]), (str [108, 49]), (str []), (str [88])] : List ByteArray)).bind fun r5 =>
   some (.go (r5.2.code_, r5.2.at_, r5.2.seed_.v, r5.1, r.1.Stops, r.1.Lines, e.Runs))
  else
   if (r2.1 == 2) = true then
    (s_l1Cur_pick r2.2 (e.Stops.length : Int)).bind fun r8 =>
    (s_l1Cur_pick r8.2 10).bind fun r9 =>
    (idx e.Stops r8.1).bind fun e4 =>
    some (.go (r9.2.code_, r9.2.at_, r9.2.seed_.v, e.Name, r.1.Stops, (r.1.Lines.set r1.1.toNat (⟨e.Name, (e.Stops.set r8.1.toNat (w64 (r9.1 - 1))), e.Runs⟩ : Line)), ((⟨e.Name, (e.Stops.set r8.1.toNat (w64 (r9.1 - 1))), e.Runs⟩ : Line).Runs)))
   else
    if (r2.1 == 3) = true then
     (s_l1Cur_pick r2.2 (e.Runs.length : Int)).bind fun r12 =>
     (s_l1Cur_among_w r12.2 ([0, 60, 61, (-1)] : List Int)).bind fun r13 =>
     (idx e.Runs r12.1).bind fun e6 =>
     some (.go (r13.2.code_, r13.2.at_, r13.2.seed_.v, e.Name, r.1.Stops, (r.1.Lines.set r1.1.toNat (⟨e.Name, e.Stops, (e.Runs.set r12.1.toNat r13.1)⟩ : Line)), ((⟨e.Name, e.Stops, (e.Runs.set r12.1.toNat r13.1)⟩ : Line).Runs)))
    else
     if (r2.1 == 4) = true then
      (chk (e.Runs.length + ([3] : List Int).length ≤ 4294967296)).bind fun u =>
      some (.go (r2.2.code_, r2.2.at_, r2.2.seed_.v, e.Name, r.1.Stops, r.1.Lines, (e.Runs ++ ([3] : List Int))))
     else
      if (r2.1 == 5) = true then
       some (.ret ((⟨r.1.Stops, ([] : List Line)⟩ : Network), r2.2))
      else
       if (r2.1 == 6) = true then
        (iter (s_l1Cur_anyNetwork_L1 r) ((0 : Int), r2.2.code_, r2.2.at_, r2.2.seed_.v, r.1.Lines)).bind fun ((v13, v14, v15, v16) : (List UInt8) × Int × Int × (List Line)) =>
        some (.ret ((⟨r.1.Stops, v16⟩ : Network), (⟨v13, v14, (⟨v15⟩ : IK .u64)⟩ : l1Cur)))
       else
        some (.go (r2.2.code_, r2.2.at_, r2.2.seed_.v, e.Name, r.1.Stops, r.1.Lines, e.Runs))) fun ((v, v1, v2, v3, v4, v5, v6) : (List UInt8) × Int × Int × ByteArray × (List ByteArray) × (List Line) × (List Int)) =>
 (idx v5 r1.1).bind fun e9 =>
 some ((⟨v4, (v5.set r1.1.toNat (⟨v3, e9.Stops, v6⟩ : Line))⟩ : Network), (⟨v, v1, (⟨v2⟩ : IK .u64)⟩ : l1Cur))
noncomputable def s_l1Cur_anyTimetable_L1 : Int × (List UInt8) × Int × Int × (List Trip) → Option (Lp (Int × (List UInt8) × Int × Int × (List Trip)) ((List UInt8) × Int × Int × (List Trip)))
 | (v8, v9, v10, v11, v12) =>
  (s_l1Cur_pick (⟨v9, v10, (⟨v11⟩ : IK .u64)⟩ : l1Cur) 2).bind fun r8 =>
  (if (decide ((v12.length : Int) < (w64 (12 + r8.1)))) = true then some (decide (v8 < 14)) else some false).bind fun (v13 : Bool) =>
  if v13 = true then
   (chk (v12.length + ([(⟨(w64 (100 + v8)), 0, (w64 (400 + v8))⟩ : Trip)] : List Trip).length ≤ 4294967296)).bind fun u =>
   some (.nx ((w64 (v8 + 1)), r8.2.code_, r8.2.at_, r8.2.seed_.v, (v12 ++ ([(⟨(w64 (100 + v8)), 0, (w64 (400 + v8))⟩ : Trip)] : List Trip))))
  else
   some (.dn (r8.2.code_, r8.2.at_, r8.2.seed_.v, v12))
noncomputable def s_l1Cur_anyTimetable (c : l1Cur) : Option (Timetable × l1Cur) :=
 (s_l1Cur_timetable c).bind fun r =>
 if ((r.1.Trips.length : Int) == 0) = true then
  some ((⟨(⟨r.1.Network.Stops, r.1.Network.Lines⟩ : Network), r.1.Trips⟩ : Timetable), r.2)
 else
  (s_l1Cur_pick r.2 (r.1.Trips.length : Int)).bind fun r1 =>
  (idx r.1.Trips r1.1).bind fun e =>
  flb ((s_l1Cur_pick r1.2 24).bind fun r2 =>
  if (r2.1 == 0) = true then
   (s_l1Cur_among r2.2 ([0, 999, 1000, 2] : List Int)).bind fun r3 =>
   some (.go (r3.2.code_, r3.2.at_, r3.2.seed_.v, r.1.Network.Lines, r3.1, e.Line, e.Start, r.1.Network.Stops))
  else
   if (r2.1 == 1) = true then
    (s_l1Cur_pick r2.2 7).bind fun r4 =>
    some (.go (r4.2.code_, r4.2.at_, r4.2.seed_.v, r.1.Network.Lines, e.Id, (w64 (r4.1 - 1)), e.Start, r.1.Network.Stops))
   else
    if (r2.1 == 2) = true then
     (s_l1Cur_among r2.2 ([(-1), 0, 1799, 1798, 1800] : List Int)).bind fun r5 =>
     some (.go (r5.2.code_, r5.2.at_, r5.2.seed_.v, r.1.Network.Lines, e.Id, e.Line, r5.1, r.1.Network.Stops))
    else
     if (r2.1 == 3) = true then
      (s_l1Cur_anyNetwork r2.2).bind fun r6 =>
      some (.go (r6.2.code_, r6.2.at_, r6.2.seed_.v, r6.1.Lines, e.Id, e.Line, e.Start, r6.1.Stops))
     else
      if (r2.1 == 4) = true then
       (iter (s_l1Cur_anyTimetable_L1) ((0 : Int), r2.2.code_, r2.2.at_, r2.2.seed_.v, r.1.Trips)).bind fun ((v14, v15, v16, v17) : (List UInt8) × Int × Int × (List Trip)) =>
       some (.ret ((⟨(⟨r.1.Network.Stops, r.1.Network.Lines⟩ : Network), v17⟩ : Timetable), (⟨v14, v15, (⟨v16⟩ : IK .u64)⟩ : l1Cur)))
      else
       some (.go (r2.2.code_, r2.2.at_, r2.2.seed_.v, r.1.Network.Lines, e.Id, e.Line, e.Start, r.1.Network.Stops))) fun ((v, v1, v2, v3, v4, v5, v6, v7) : (List UInt8) × Int × Int × (List Line) × Int × Int × Int × (List ByteArray)) =>
  (idx r.1.Trips r1.1).bind fun e2 =>
  some ((⟨(⟨v7, v3⟩ : Network), (r.1.Trips.set r1.1.toNat (⟨v4, v5, v6⟩ : Trip))⟩ : Timetable), (⟨v, v1, (⟨v2⟩ : IK .u64)⟩ : l1Cur))
noncomputable def s_l1Cur_delays23_L1 (t : Timetable) : Int × (List UInt8) × Int × Int × (List TripDelay) → Option (Lp (Int × (List UInt8) × Int × Int × (List TripDelay)) ((List UInt8) × Int × Int × (List TripDelay)))
 | (v, v1, v2, v3, v4) =>
  if (decide (v < (t.Trips.length : Int))) = true then
   ((s_l1Cur_one (⟨v1, v2, (⟨v3⟩ : IK .u64)⟩ : l1Cur) 3).bind fun r =>
   if r.1 = true then
    (idx t.Trips v).bind fun e1 =>
    (s_l1Cur_among_w r.2 ([1, 2, 5, 10, 30, 0] : List Int)).bind fun r2 =>
    (chk (v4.length + ([(⟨e1.Id, r2.1⟩ : TripDelay)] : List TripDelay).length ≤ 4294967296)).bind fun u1 =>
    some (r2.2.code_, r2.2.at_, r2.2.seed_.v, (v4 ++ ([(⟨e1.Id, r2.1⟩ : TripDelay)] : List TripDelay)))
   else
    some (r.2.code_, r.2.at_, r.2.seed_.v, v4)).bind fun ((v5, v6, v7, v8) : (List UInt8) × Int × Int × (List TripDelay)) =>
   some (.nx ((w64 (v + 1)), v5, v6, v7, v8))
  else
   some (.dn (v1, v2, v3, v4))
noncomputable def s_l1Cur_delays23 (c : l1Cur) (t : Timetable) : Option ((List TripDelay) × l1Cur) :=
 (iter (s_l1Cur_delays23_L1 t) ((0 : Int), c.code_, c.at_, c.seed_.v, ([] : List TripDelay))).bind fun ((v9, v10, v11, v12) : (List UInt8) × Int × Int × (List TripDelay)) =>
 ((s_l1Cur_pick (⟨v9, v10, (⟨v11⟩ : IK .u64)⟩ : l1Cur) 40).bind fun r3 =>
 if (r3.1 == 0) = true then
  (s_l1Cur_among_w r3.2 ([0, 1, 999] : List Int)).bind fun r4 =>
  (chk (v12.length + ([(⟨r4.1, 5⟩ : TripDelay)] : List TripDelay).length ≤ 4294967296)).bind fun u2 =>
  some (r4.2.code_, r4.2.at_, r4.2.seed_.v, (v12 ++ ([(⟨r4.1, 5⟩ : TripDelay)] : List TripDelay)))
 else
  if (r3.1 == 1) = true then
   if (decide (0 < (v12.length : Int))) = true then
    (idx v12 (w64 ((v12.length : Int) - 1))).bind fun e4 =>
    (s_l1Cur_among_w r3.2 ([(-1), 600, 601] : List Int)).bind fun r6 =>
    (idx v12 (w64 ((v12.length : Int) - 1))).bind fun e5 =>
    some (r6.2.code_, r6.2.at_, r6.2.seed_.v, (v12.set (w64 ((v12.length : Int) - 1)).toNat (⟨e4.Id, r6.1⟩ : TripDelay)))
   else
    some (r3.2.code_, r3.2.at_, r3.2.seed_.v, v12)
  else
   some (r3.2.code_, r3.2.at_, r3.2.seed_.v, v12)).bind fun ((v13, v14, v15, v16) : (List UInt8) × Int × Int × (List TripDelay)) =>
 some (v16, (⟨v13, v14, (⟨v15⟩ : IK .u64)⟩ : l1Cur))
noncomputable def s_l1Cur_idOf (c : l1Cur) (t : Timetable) : Option (Int × l1Cur) :=
 (if ((t.Trips.length : Int) == 0) = true then some (true, c.code_, c.at_, c.seed_.v) else (s_l1Cur_one c 8).bind fun r =>
 some (r.1, r.2.code_, r.2.at_, r.2.seed_.v)).bind fun ((v, v1, v2, v3) : Bool × (List UInt8) × Int × Int) =>
 if v = true then
  (s_l1Cur_pick (⟨v1, v2, (⟨v3⟩ : IK .u64)⟩ : l1Cur) 30).bind fun r1 =>
  some (r1.1, r1.2)
 else
  (s_l1Cur_pick (⟨v1, v2, (⟨v3⟩ : IK .u64)⟩ : l1Cur) (t.Trips.length : Int)).bind fun r3 =>
  (idx t.Trips r3.1).bind fun e1 =>
  some (e1.Id, r3.2)
noncomputable def s_l23Delay_L1 (delays : List TripDelay) (id : Int) : Int → Option (Lp (Int) (Fl (Int) (Unit)))
 | v =>
  if (decide (v < (delays.length : Int))) = true then
   (idx delays v).bind fun e =>
   if (e.Id == id) = true then
    (idx delays v).bind fun e1 =>
    some (.dn (.ret e1.Minutes))
   else
    some (.nx (w64 (v + 1)))
  else
   some (.dn (.go ()))
noncomputable def s_l23Delay (delays : List TripDelay) (id : Int) : Option (Int) :=
 flb (iter (s_l23Delay_L1 delays id) (0 : Int)) fun (_ : Unit) =>
 some 0
noncomputable def s_DrawDelayTrip (code : List UInt8) : Option (Timetable × (List TripDelay) × Int × Int) :=
 (s_l1Cur_anyTimetable (⟨code, 0, (⟨0⟩ : IK .u64)⟩ : l1Cur)).bind fun r =>
 (s_l1Cur_delays23 r.2 r.1).bind fun r1 =>
 (s_l1Cur_idOf r1.2 r.1).bind fun r2 =>
 (s_l23Delay r1.1 r2.1).bind fun r5 =>
 (s_l1Cur_among_w r2.2 ([1, 5, 0, (w64 (0 - r5)), (-1), 600, 601, (-600)] : List Int)).bind fun r6 =>
 some (r.1, r1.1, r2.1, r6.1)
noncomputable def i_within (n : Int) (lo : Int) (hi : Int) : Option (Bool) :=
 (if (decide (lo ≤ n)) = true then some (decide (n ≤ hi)) else some false).bind fun (v : Bool) =>
 some v
noncomputable def i_isName_L1 (s : ByteArray) : Int → Option (Lp (Int) (Fl (Bool) (Unit)))
 | v1 =>
  if (decide (v1 < (s.size : Int))) = true then
   (chk ((0 : Int) ≤ v1 ∧ v1 < (s.size : Int))).bind fun u =>
   (if (decide (97 ≤ ((s.data.toList.getD v1.toNat 0).toNat : Int))) = true then (chk ((0 : Int) ≤ v1 ∧ v1 < (s.size : Int))).bind fun u1 =>
   some (decide (((s.data.toList.getD v1.toNat 0).toNat : Int) ≤ 122)) else some false).bind fun (v2 : Bool) =>
   (if (!v2) = true then if (v1 == 0) = true then some true else (chk ((0 : Int) ≤ v1 ∧ v1 < (s.size : Int))).bind fun u2 =>
   if (decide (((s.data.toList.getD v1.toNat 0).toNat : Int) < 48)) = true then some true else (chk ((0 : Int) ≤ v1 ∧ v1 < (s.size : Int))).bind fun u3 =>
   some (decide (57 < ((s.data.toList.getD v1.toNat 0).toNat : Int))) else some false).bind fun (v3 : Bool) =>
   if v3 = true then
    some (.dn (.ret false))
   else
    some (.nx (w64 (v1 + 1)))
  else
   some (.dn (.go ()))
noncomputable def i_isName (s : ByteArray) : Option (Bool) :=
 (if (decide ((s.size : Int) < 1)) = true then some true else some (decide (8 < (s.size : Int)))).bind fun (v : Bool) =>
 if v = true then
  some false
 else
  flb (iter (i_isName_L1 s) (0 : Int)) fun (_ : Unit) =>
  some true
noncomputable def slices_Index_string_L1 (s : List ByteArray) (v : ByteArray) : Int → Option (Lp (Int) (Fl (Int) (Unit)))
 | v1 =>
  if (decide (v1 < (s.length : Int))) = true then
   (idx s v1).bind fun e =>
   if (v.toList == e.toList) = true then
    some (.dn (.ret v1))
   else
    some (.nx (w64 (v1 + 1)))
  else
   some (.dn (.go ()))
noncomputable def slices_Index_string (s : List ByteArray) (v : ByteArray) : Option (Int) :=
 flb (iter (slices_Index_string_L1 s v) (0 : Int)) fun (_ : Unit) =>
 some (-1)
noncomputable def i_areNames_L1 (names : List ByteArray) : Int → Option (Lp (Int) (Fl (Bool) (Unit)))
 | v =>
  if (decide (v < (names.length : Int))) = true then
   (idx names v).bind fun e =>
   (i_isName e).bind fun r =>
   (if (!r) = true then some true else (slices_Index_string names e).bind fun r1 =>
   some (r1 != v)).bind fun (v1 : Bool) =>
   if v1 = true then
    some (.dn (.ret false))
   else
    some (.nx (w64 (v + 1)))
  else
   some (.dn (.go ()))
noncomputable def i_areNames (names : List ByteArray) : Option (Bool) :=
 flb (iter (i_areNames_L1 names) (0 : Int)) fun (_ : Unit) =>
 some true
noncomputable def i_lineNames_L1 (n : Network) : Int × (List ByteArray) → Option (Lp (Int × (List ByteArray)) ((List ByteArray)))
 | (v, i) =>
  if (decide (v < (n.Lines.length : Int))) = true then
   (idx n.Lines v).bind fun e =>
   (idx i v).bind fun e1 =>
   some (.nx ((w64 (v + 1)), (i.set v.toNat e.Name)))
  else
   some (.dn i)
noncomputable def i_lineNames (n : Network) : Option ((List ByteArray)) :=
 (chk ((0 : Int) ≤ (n.Lines.length : Int) ∧ ((n.Lines.length : Int) : Int) ≤ 4294967296)).bind fun u =>
 (iter (i_lineNames_L1 n) ((0 : Int), (List.replicate (n.Lines.length : Int).toNat (ByteArray.empty : ByteArray)))).bind fun (i1 : List ByteArray) =>
 some i1
noncomputable def i_isStop (n : Network) (stop : Int) : Option (Bool) :=
 (if (decide (0 ≤ stop)) = true then some (decide (stop < (n.Stops.length : Int))) else some false).bind fun (v : Bool) =>
 some v
noncomputable def slices_Index_int_L1 (s : List Int) (v : Int) : Int → Option (Lp (Int) (Fl (Int) (Unit)))
 | v1 =>
  if (decide (v1 < (s.length : Int))) = true then
   (idx s v1).bind fun e =>
   if (v == e) = true then
    some (.dn (.ret v1))
   else
    some (.nx (w64 (v1 + 1)))
  else
   some (.dn (.go ()))
noncomputable def slices_Index_int (s : List Int) (v : Int) : Option (Int) :=
 flb (iter (slices_Index_int_L1 s v) (0 : Int)) fun (_ : Unit) =>
 some (-1)
noncomputable def i_isValidLine_L1 (n : Network) (l : Line) : Int → Option (Lp (Int) (Fl (Bool) (Unit)))
 | v1 =>
  if (decide (v1 < (l.Stops.length : Int))) = true then
   (idx l.Stops v1).bind fun e =>
   (i_isStop n e).bind fun r1 =>
   (if (!r1) = true then some true else (slices_Index_int l.Stops e).bind fun r2 =>
   some (r2 != v1)).bind fun (v2 : Bool) =>
   if v2 = true then
    some (.dn (.ret false))
   else
    some (.nx (w64 (v1 + 1)))
  else
   some (.dn (.go ()))
noncomputable def i_isValidLine_L2 (l : Line) : Int → Option (Lp (Int) (Fl (Bool) (Unit)))
 | v3 =>
  if (decide (v3 < (l.Runs.length : Int))) = true then
   (idx l.Runs v3).bind fun e2 =>
   (i_within e2 1 60).bind fun r4 =>
   if (!r4) = true then
    some (.dn (.ret false))
   else
    some (.nx (w64 (v3 + 1)))
  else
   some (.dn (.go ()))
noncomputable def i_isValidLine (n : Network) (l : Line) : Option (Bool) :=
 (i_within (l.Stops.length : Int) 2 6).bind fun r =>
 (if (!r) = true then some true else some ((l.Runs.length : Int) != (w64 ((l.Stops.length : Int) - 1)))).bind fun (v : Bool) =>
 if v = true then
  some false
 else
  flb (iter (i_isValidLine_L1 n l) (0 : Int)) fun (_ : Unit) =>
  flb (iter (i_isValidLine_L2 l) (0 : Int)) fun (_ : Unit) =>
  some true
noncomputable def i_IsValidNetwork_L1 (n : Network) : Int → Option (Lp (Int) (Fl (Bool) (Unit)))
 | v1 =>
  if (decide (v1 < (n.Lines.length : Int))) = true then
   (idx n.Lines v1).bind fun e =>
   (i_isValidLine n e).bind fun r5 =>
   if (!r5) = true then
    some (.dn (.ret false))
   else
    some (.nx (w64 (v1 + 1)))
  else
   some (.dn (.go ()))
noncomputable def i_IsValidNetwork (n : Network) : Option (Bool) :=
 (i_within (n.Stops.length : Int) 2 8).bind fun r =>
 (if (!r) = true then some true else (i_within (n.Lines.length : Int) 1 5).bind fun r1 =>
 if (!r1) = true then some true else (i_areNames n.Stops).bind fun r2 =>
 if (!r2) = true then some true else (i_lineNames n).bind fun r3 =>
 (i_areNames r3).bind fun r4 =>
 some (!r4)).bind fun (v : Bool) =>
 if v = true then
  some false
 else
  flb (iter (i_IsValidNetwork_L1 n) (0 : Int)) fun (_ : Unit) =>
  some true
noncomputable def i_isLine (n : Network) (line : Int) : Option (Bool) :=
 (if (decide (0 ≤ line)) = true then some (decide (line < (n.Lines.length : Int))) else some false).bind fun (v : Bool) =>
 some v
noncomputable def i_IsValidTime (t : Int) : Option (Bool) :=
 (i_within t 0 1799).bind fun r =>
 some r
noncomputable def i_total_L1 (list : List Int) : Int × Int → Option (Lp (Int × Int) (Int))
 | (v, v1) =>
  if (decide (v1 < (list.length : Int))) = true then
   (idx list v1).bind fun e =>
   some (.nx ((w64 (v + e)), (w64 (v1 + 1))))
  else
   some (.dn v)
noncomputable def i_total (list : List Int) : Option (Int) :=
 (iter (i_total_L1 list) ((0 : Int), (0 : Int))).bind fun (v2 : Int) =>
 some v2
noncomputable def i_endOf (t : Timetable) (x : Trip) : Option (Int) :=
 (idx t.Network.Lines x.Line).bind fun e1 =>
 (i_total e1.Runs).bind fun r1 =>
 some (w64 (x.Start + r1))
noncomputable def i_areTrips_L1 (t : Timetable) : Int × Int → Option (Lp (Int × Int) (Fl (Bool) (Unit)))
 | (v, v1) =>
  if (decide (v1 < (t.Trips.length : Int))) = true then
   (idx t.Trips v1).bind fun e =>
   (if (decide (e.Id ≤ v)) = true then some true else if (decide (999 < e.Id)) = true then some true else (i_isLine t.Network e.Line).bind fun r =>
   if (!r) = true then some true else (i_IsValidTime e.Start).bind fun r1 =>
   if (!r1) = true then some true else (i_endOf t e).bind fun r2 =>
   (i_IsValidTime r2).bind fun r3 =>
   some (!r3)).bind fun (v2 : Bool) =>
   if v2 = true then
    some (.dn (.ret false))
   else
    some (.nx (e.Id, (w64 (v1 + 1))))
  else
   some (.dn (.go ()))
noncomputable def i_areTrips (t : Timetable) : Option (Bool) :=
 if (decide (12 < (t.Trips.length : Int))) = true then
  some false
 else
  flb (iter (i_areTrips_L1 t) ((0 : Int), (0 : Int))) fun (_ : Unit) =>
  some true
noncomputable def i_IsValidTimetable (t : Timetable) : Option (Bool) :=
 (i_IsValidNetwork t.Network).bind fun r =>
 (if r = true then (i_areTrips t).bind fun r1 =>
 some r1 else some false).bind fun (v : Bool) =>
 some v
noncomputable def i_tripIndex_1 (x : Trip) (c1 : Int) : Option (Bool) :=
 some (x.Id == c1)
noncomputable def slices_IndexFunc_Trip_L1 (s : List Trip) (f : Trip → Option (Bool)) : Int → Option (Lp (Int) (Fl (Int) (Unit)))
 | v =>
  if (decide (v < (s.length : Int))) = true then
   (idx s v).bind fun e =>
   (f e).bind fun r =>
   if r = true then
    some (.dn (.ret v))
   else
    some (.nx (w64 (v + 1)))
  else
   some (.dn (.go ()))
noncomputable def slices_IndexFunc_Trip (s : List Trip) (f : Trip → Option (Bool)) : Option (Int) :=
 flb (iter (slices_IndexFunc_Trip_L1 s f) (0 : Int)) fun (_ : Unit) =>
 some (-1)
noncomputable def slices_IndexFunc_Trip__i_tripIndex_1 (s : List Trip) (c1 : Int) : Option (Int) :=
 slices_IndexFunc_Trip s (fun (z0 : Trip) => i_tripIndex_1 z0 c1)
noncomputable def i_tripIndex (t : Timetable) (id : Int) : Option (Int) :=
 (slices_IndexFunc_Trip__i_tripIndex_1 t.Trips id).bind fun r =>
 some r
noncomputable def i_areTripDelays_L1 (t : Timetable) (delays : List TripDelay) : Int × Int → Option (Lp (Int × Int) (Fl (Bool) (Unit)))
 | (d, v) =>
  if (decide (v < (delays.length : Int))) = true then
   (idx delays v).bind fun e =>
   (if (decide (e.Id ≤ d)) = true then some true else (i_tripIndex t e.Id).bind fun r =>
   if (decide (r < 0)) = true then some true else (i_within e.Minutes 0 600).bind fun r1 =>
   some (!r1)).bind fun (v1 : Bool) =>
   if v1 = true then
    some (.dn (.ret false))
   else
    some (.nx (e.Id, (w64 (v + 1))))
  else
   some (.dn (.go ()))
noncomputable def i_areTripDelays (t : Timetable) (delays : List TripDelay) : Option (Bool) :=
 flb (iter (i_areTripDelays_L1 t delays) ((0 : Int), (0 : Int))) fun (_ : Unit) =>
 some true
noncomputable def i_IsValidTripDelays (t : Timetable) (delays : List TripDelay) : Option (Bool) :=
 (i_IsValidTimetable t).bind fun r =>
 (if r = true then (i_areTripDelays t delays).bind fun r1 =>
 some r1 else some false).bind fun (v : Bool) =>
 some v
noncomputable def i_delayOf_L1 (delays : List TripDelay) (id : Int) : Int → Option (Lp (Int) (Fl (Int) (Unit)))
 | v =>
  if (decide (v < (delays.length : Int))) = true then
   (idx delays v).bind fun e =>
   if (e.Id == id) = true then
    some (.dn (.ret e.Minutes))
   else
    some (.nx (w64 (v + 1)))
  else
   some (.dn (.go ()))
noncomputable def i_delayOf (delays : List TripDelay) (id : Int) : Option (Int) :=
 flb (iter (i_delayOf_L1 delays id) (0 : Int)) fun (_ : Unit) =>
 some 0
noncomputable def i_DelayTrip_L1 (delays : List TripDelay) (id : Int) : Int × (List TripDelay) → Option (Lp (Int × (List TripDelay)) ((List TripDelay)))
 | (v1, v2) =>
  if (decide (v1 < (delays.length : Int))) = true then
   ((idx delays v1).bind fun e =>
   if (decide (e.Id < id)) = true then
    (chk (v2.length + ([e] : List TripDelay).length ≤ 4294967296)).bind fun u =>
    some (v2 ++ ([e] : List TripDelay))
   else
    some v2).bind fun (v3 : List TripDelay) =>
   some (.nx ((w64 (v1 + 1)), v3))
  else
   some (.dn v2)
noncomputable def i_DelayTrip_L2 (delays : List TripDelay) (id : Int) : Int × (List TripDelay) → Option (Lp (Int × (List TripDelay)) ((List TripDelay)))
 | (v6, v7) =>
  if (decide (v6 < (delays.length : Int))) = true then
   ((idx delays v6).bind fun e1 =>
   if (decide (id < e1.Id)) = true then
    (chk (v7.length + ([e1] : List TripDelay).length ≤ 4294967296)).bind fun u2 =>
    some (v7 ++ ([e1] : List TripDelay))
   else
    some v7).bind fun (v8 : List TripDelay) =>
   some (.nx ((w64 (v6 + 1)), v8))
  else
   some (.dn v7)
noncomputable def i_DelayTrip (t : Timetable) (delays : List TripDelay) (id : Int) (minutes : Int) : Option ((List TripDelay) × Bool) :=
 (i_IsValidTripDelays t delays).bind fun r =>
 (if (!r) = true then some true else (i_tripIndex t id).bind fun r1 =>
 if (decide (r1 < 0)) = true then some true else (i_within minutes (-600) 600).bind fun r2 =>
 some (!r2)).bind fun (v : Bool) =>
 if v = true then
  some (([] : List TripDelay), false)
 else
  (i_delayOf delays id).bind fun r3 =>
  (iter (i_DelayTrip_L1 delays id) ((0 : Int), ([] : List TripDelay))).bind fun (v4 : List TripDelay) =>
  (if ((w64 (r3 + minutes)) != 0) = true then
   (chk (v4.length + ([(⟨id, (w64 (r3 + minutes))⟩ : TripDelay)] : List TripDelay).length ≤ 4294967296)).bind fun u1 =>
   some (v4 ++ ([(⟨id, (w64 (r3 + minutes))⟩ : TripDelay)] : List TripDelay))
  else
   some v4).bind fun (v5 : List TripDelay) =>
  (iter (i_DelayTrip_L2 delays id) ((0 : Int), v5)).bind fun (v9 : List TripDelay) =>
  (i_areTripDelays t v9).bind fun r4 =>
  if (!r4) = true then
   some (([] : List TripDelay), false)
  else
   some (v9, true)
noncomputable def s_l1In (x : Int) (a : Int) (b : Int) : Option (Bool) :=
 (if (decide (a ≤ x)) = true then some (decide (x ≤ b)) else some false).bind fun (v : Bool) =>
 some v
noncomputable def s_l2Name_L1 (s : ByteArray) : Int → Option (Lp (Int) (Fl (Bool) (Unit)))
 | v1 =>
  if (decide (v1 < (s.size : Int))) = true then
   (chk ((0 : Int) ≤ v1 ∧ v1 < (s.size : Int))).bind fun u2 =>
   (if (decide (((s.data.toList.getD v1.toNat 0).toNat : Int) < 97)) = true then (chk ((0 : Int) ≤ v1 ∧ v1 < (s.size : Int))).bind fun u3 =>
   if (decide (((s.data.toList.getD v1.toNat 0).toNat : Int) < 48)) = true then some true else (chk ((0 : Int) ≤ v1 ∧ v1 < (s.size : Int))).bind fun u4 =>
   some (decide (57 < ((s.data.toList.getD v1.toNat 0).toNat : Int))) else (chk ((0 : Int) ≤ v1 ∧ v1 < (s.size : Int))).bind fun u5 =>
   if (decide (122 < ((s.data.toList.getD v1.toNat 0).toNat : Int))) = true then (chk ((0 : Int) ≤ v1 ∧ v1 < (s.size : Int))).bind fun u6 =>
   if (decide (((s.data.toList.getD v1.toNat 0).toNat : Int) < 48)) = true then some true else (chk ((0 : Int) ≤ v1 ∧ v1 < (s.size : Int))).bind fun u7 =>
   some (decide (57 < ((s.data.toList.getD v1.toNat 0).toNat : Int))) else some false).bind fun (v2 : Bool) =>
   if v2 = true then
    some (.dn (.ret false))
   else
    some (.nx (w64 (v1 + 1)))
  else
   some (.dn (.go ()))
noncomputable def s_l2Name (s : ByteArray) : Option (Bool) :=
 (s_l1In (s.size : Int) 1 8).bind fun r =>
 (if (!r) = true then some true else (chk ((0 : Int) ≤ 0 ∧ 0 < (s.size : Int))).bind fun u =>
 if (decide (((s.data.toList.getD (0 : Int).toNat 0).toNat : Int) < 97)) = true then some true else (chk ((0 : Int) ≤ 0 ∧ 0 < (s.size : Int))).bind fun u1 =>
 some (decide (122 < ((s.data.toList.getD (0 : Int).toNat 0).toNat : Int)))).bind fun (v : Bool) =>
 if v = true then
  some false
 else
  flb (iter (s_l2Name_L1 s) (0 : Int)) fun (_ : Unit) =>
  some true
noncomputable def s_l2Find_L1 (list : List ByteArray) (name : ByteArray) : Int → Option (Lp (Int) (Fl (Int) (Unit)))
 | v =>
  if (decide (v < (list.length : Int))) = true then
   (idx list v).bind fun e =>
   if (e.toList == name.toList) = true then
    some (.dn (.ret v))
   else
    some (.nx (w64 (v + 1)))
  else
   some (.dn (.go ()))
noncomputable def s_l2Find (list : List ByteArray) (name : ByteArray) : Option (Int) :=
 flb (iter (s_l2Find_L1 list name) (0 : Int)) fun (_ : Unit) =>
 some (-1)
noncomputable def s_l2Line_L1 (x : Line) (stops : Int) : Int → Option (Lp (Int) (Fl (Bool) (Unit)))
 | v1 =>
  if (decide (v1 < (x.Stops.length : Int))) = true then
   (idx x.Stops v1).bind fun e2 =>
   (s_l1In e2 0 (w64 (stops - 1))).bind fun r4 =>
   (if (!r4) = true then some true else (idx x.Stops v1).bind fun e3 =>
   (s_l2Place x e3).bind fun r5 =>
   some (r5 != v1)).bind fun (v2 : Bool) =>
   if v2 = true then
    some (.dn (.ret false))
   else
    some (.nx (w64 (v1 + 1)))
  else
   some (.dn (.go ()))
noncomputable def s_l2Line_L2 (x : Line) : Int → Option (Lp (Int) (Fl (Bool) (Unit)))
 | v3 =>
  if (decide (v3 < (x.Runs.length : Int))) = true then
   (idx x.Runs v3).bind fun e5 =>
   (s_l1In e5 1 60).bind fun r7 =>
   if (!r7) = true then
    some (.dn (.ret false))
   else
    some (.nx (w64 (v3 + 1)))
  else
   some (.dn (.go ()))
noncomputable def s_l2Line (x : Line) (stops : Int) : Option (Bool) :=
 (s_l2Name x.Name).bind fun r =>
 (if (!r) = true then some true else (s_l1In (x.Stops.length : Int) 2 6).bind fun r1 =>
 if (!r1) = true then some true else some ((x.Runs.length : Int) != (w64 ((x.Stops.length : Int) - 1)))).bind fun (v : Bool) =>
 if v = true then
  some false
 else
  flb (iter (s_l2Line_L1 x stops) (0 : Int)) fun (_ : Unit) =>
  flb (iter (s_l2Line_L2 x) (0 : Int)) fun (_ : Unit) =>
  some true
noncomputable def s_l2LineNamed_L1 (n : Network) (name : ByteArray) : Int → Option (Lp (Int) (Fl (Int) (Unit)))
 | v =>
  if (decide (v < (n.Lines.length : Int))) = true then
   (idx n.Lines v).bind fun e =>
   if (e.Name.toList == name.toList) = true then
    some (.dn (.ret v))
   else
    some (.nx (w64 (v + 1)))
  else
   some (.dn (.go ()))
noncomputable def s_l2LineNamed (n : Network) (name : ByteArray) : Option (Int) :=
 flb (iter (s_l2LineNamed_L1 n name) (0 : Int)) fun (_ : Unit) =>
 some (-1)
noncomputable def s_l2Good_L1 (n : Network) : Int → Option (Lp (Int) (Fl (Bool) (Unit)))
 | i =>
  if (decide (i < (n.Stops.length : Int))) = true then
   (idx n.Stops i).bind fun e2 =>
   (s_l2Name e2).bind fun r4 =>
   (if (!r4) = true then some true else (idx n.Stops i).bind fun e3 =>
   (s_l2Find n.Stops e3).bind fun r5 =>
   some (r5 != i)).bind fun (v1 : Bool) =>
   if v1 = true then
    some (.dn (.ret false))
   else
    some (.nx (w64 (i + 1)))
  else
   some (.dn (.go ()))
noncomputable def s_l2Good_L2 (n : Network) : Int → Option (Lp (Int) (Fl (Bool) (Unit)))
 | v2 =>
  if (decide (v2 < (n.Lines.length : Int))) = true then
   (idx n.Lines v2).bind fun e7 =>
   (s_l2Line e7 (n.Stops.length : Int)).bind fun r9 =>
   (if (!r9) = true then some true else (idx n.Lines v2).bind fun e8 =>
   (s_l2LineNamed n e8.Name).bind fun r10 =>
   some (r10 != v2)).bind fun (v3 : Bool) =>
   if v3 = true then
    some (.dn (.ret false))
   else
    some (.nx (w64 (v2 + 1)))
  else
   some (.dn (.go ()))
noncomputable def s_l2Good (n : Network) : Option (Bool) :=
 (s_l1In (n.Stops.length : Int) 2 8).bind fun r =>
 (if (!r) = true then some true else (s_l1In (n.Lines.length : Int) 1 5).bind fun r1 =>
 some (!r1)).bind fun (v : Bool) =>
 if v = true then
  some false
 else
  flb (iter (s_l2Good_L1 n) (0 : Int)) fun (_ : Unit) =>
  flb (iter (s_l2Good_L2 n) (0 : Int)) fun (_ : Unit) =>
  some true
noncomputable def s_l4Time (t : Int) : Option (Bool) :=
 (s_l1In t 0 1799).bind fun r =>
 some r
noncomputable def s_l5Line (t : Timetable) (i : Int) : Option (Line) :=
 (idx t.Trips i).bind fun e2 =>
 (idx t.Network.Lines e2.Line).bind fun e3 =>
 some e3
noncomputable def s_l5Stops (t : Timetable) (i : Int) : Option ((List Int)) :=
 (s_l5Line t i).bind fun r =>
 some r.Stops
noncomputable def s_l2Run_L1 (x : Line) (to : Int) : Int × Int → Option (Lp (Int × Int) (Int))
 | (v, v1) =>
  if (decide (v1 < to)) = true then
   (idx x.Runs v1).bind fun e =>
   some (.nx ((w64 (v + e)), (w64 (v1 + 1))))
  else
   some (.dn v)
noncomputable def s_l2Run (x : Line) (from_ : Int) (to : Int) : Option (Int) :=
 (iter (s_l2Run_L1 x to) ((0 : Int), from_)).bind fun (v2 : Int) =>
 some v2
noncomputable def s_l5At (t : Timetable) (i : Int) (k : Int) : Option (Int) :=
 (idx t.Trips i).bind fun e1 =>
 (s_l5Line t i).bind fun r2 =>
 (s_l2Run r2 0 k).bind fun r3 =>
 some (w64 (e1.Start + r3))
noncomputable def s_l5End (t : Timetable) (i : Int) : Option (Int) :=
 (s_l5Stops t i).bind fun r2 =>
 (s_l5At t i (w64 ((r2.length : Int) - 1))).bind fun r3 =>
 some r3
noncomputable def s_l5Good_L1 (t : Timetable) : Int → Option (Lp (Int) (Fl (Bool) (Unit)))
 | x =>
  if (decide (x < (t.Trips.length : Int))) = true then
   (idx t.Trips x).bind fun e =>
   (s_l1In e.Id 1 999).bind fun r6 =>
   (if (!r6) = true then some true else (s_l1In e.Line 0 (w64 ((t.Network.Lines.length : Int) - 1))).bind fun r7 =>
   if (!r7) = true then some true else (s_l4Time e.Start).bind fun r8 =>
   if (!r8) = true then some true else (s_l5End t x).bind fun r9 =>
   (s_l4Time r9).bind fun r10 =>
   if (!r10) = true then some true else if (decide (0 < x)) = true then (idx t.Trips (w64 (x - 1))).bind fun e2 =>
   some (decide (e.Id ≤ e2.Id)) else some false).bind fun (v1 : Bool) =>
   if v1 = true then
    some (.dn (.ret false))
   else
    some (.nx (w64 (x + 1)))
  else
   some (.dn (.go ()))
noncomputable def s_l5Good (t : Timetable) : Option (Bool) :=
 (s_l2Good t.Network).bind fun r =>
 (if (!r) = true then some true else some (decide (12 < (t.Trips.length : Int)))).bind fun (v : Bool) =>
 if v = true then
  some false
 else
  flb (iter (s_l5Good_L1 t) (0 : Int)) fun (_ : Unit) =>
  some true
noncomputable def s_l5Find_L1 (t : Timetable) (id : Int) : Int → Option (Lp (Int) (Fl (Int) (Unit)))
 | v =>
  if (decide (v < (t.Trips.length : Int))) = true then
   (idx t.Trips v).bind fun e =>
   if (e.Id == id) = true then
    some (.dn (.ret v))
   else
    some (.nx (w64 (v + 1)))
  else
   some (.dn (.go ()))
noncomputable def s_l5Find (t : Timetable) (id : Int) : Option (Int) :=
 flb (iter (s_l5Find_L1 t id) (0 : Int)) fun (_ : Unit) =>
 some (-1)
noncomputable def s_l23Good_L1 (t : Timetable) (delays : List TripDelay) : Int → Option (Lp (Int) (Fl (Bool) (Unit)))
 | v =>
  if (decide (v < (delays.length : Int))) = true then
   (idx delays v).bind fun e4 =>
   (s_l5Find t e4.Id).bind fun r3 =>
   (if (decide (r3 < 0)) = true then some true else (idx delays v).bind fun e5 =>
   (s_l1In e5.Minutes 0 600).bind fun r4 =>
   if (!r4) = true then some true else if (decide (0 < v)) = true then (idx delays (w64 (v - 1))).bind fun e6 =>
   (idx delays v).bind fun e7 =>
   some (decide (e7.Id ≤ e6.Id)) else some false).bind fun (v1 : Bool) =>
   if v1 = true then
    some (.dn (.ret false))
   else
    some (.nx (w64 (v + 1)))
  else
   some (.dn (.go ()))
noncomputable def s_l23Good (t : Timetable) (delays : List TripDelay) : Option (Bool) :=
 (s_l5Good t).bind fun r =>
 if (!r) = true then
  some false
 else
  flb (iter (s_l23Good_L1 t delays) (0 : Int)) fun (_ : Unit) =>
  some true
noncomputable def s_DelayTrip_L1 (delays : List TripDelay) (id : Int) (minutes : Int) (r3 : Int) : Bool × Int × (List TripDelay) → Option (Lp (Bool × Int × (List TripDelay)) (Bool × (List TripDelay)))
 | (v1, v2, v3) =>
  if (decide (v2 < (delays.length : Int))) = true then
   (((if (!v1) = true then (idx delays v2).bind fun e =>
   some (decide (id < e.Id)) else some false).bind fun (v8 : Bool) =>
   if v8 = true then
    (chk (v3.length + ([(⟨id, (w64 (r3 + minutes))⟩ : TripDelay)] : List TripDelay).length ≤ 4294967296)).bind fun u =>
    some (true, (v3 ++ ([(⟨id, (w64 (r3 + minutes))⟩ : TripDelay)] : List TripDelay)))
   else
    some (v1, v3)).bind fun ((v6, v7) : Bool × (List TripDelay)) =>
   (idx delays v2).bind fun e1 =>
   if (e1.Id != id) = true then
    (idx delays v2).bind fun e2 =>
    (chk (v7.length + ([e2] : List TripDelay).length ≤ 4294967296)).bind fun u1 =>
    some (v6, (v7 ++ ([e2] : List TripDelay)))
   else
    some (v6, v7)).bind fun ((v4, v5) : Bool × (List TripDelay)) =>
   some (.nx (v4, (w64 (v2 + 1)), v5))
  else
   some (.dn (v1, v3))
noncomputable def s_DelayTrip (t : Timetable) (delays : List TripDelay) (id : Int) (minutes : Int) : Option ((List TripDelay) × Bool) :=
 (s_l23Good t delays).bind fun r =>
 (if (!r) = true then some true else (s_l5Find t id).bind fun r1 =>
 if (decide (r1 < 0)) = true then some true else (s_l1In minutes (-600) 600).bind fun r2 =>
 some (!r2)).bind fun (v : Bool) =>
 if v = true then
  some (([] : List TripDelay), false)
 else
  (s_l23Delay delays id).bind fun r3 =>
  (iter (s_DelayTrip_L1 delays id minutes r3) (((w64 (r3 + minutes)) == 0), (0 : Int), ([] : List TripDelay))).bind fun ((v9, v10) : Bool × (List TripDelay)) =>
  (if (!v9) = true then
   (chk (v10.length + ([(⟨id, (w64 (r3 + minutes))⟩ : TripDelay)] : List TripDelay).length ≤ 4294967296)).bind fun u2 =>
   some (v10 ++ ([(⟨id, (w64 (r3 + minutes))⟩ : TripDelay)] : List TripDelay))
  else
   some v10).bind fun (v11 : List TripDelay) =>
  (s_l23Good t v11).bind fun r4 =>
  if (!r4) = true then
   some (([] : List TripDelay), false)
  else
   some (v11, true)
noncomputable def s_l1Cur_stopOf (c : l1Cur) (t : Timetable) : Option (Int × l1Cur) :=
 (if (decide (0 < (t.Trips.length : Int))) = true then (s_l5Good t).bind fun r =>
 if r = true then (s_l1Cur_one c 6).bind fun r1 =>
 some ((!r1.1), r1.2.code_, r1.2.at_, r1.2.seed_.v) else some (false, c.code_, c.at_, c.seed_.v) else some (false, c.code_, c.at_, c.seed_.v)).bind fun ((v, v1, v2, v3) : Bool × (List UInt8) × Int × Int) =>
 if v = true then
  (s_l1Cur_pick (⟨v1, v2, (⟨v3⟩ : IK .u64)⟩ : l1Cur) (t.Trips.length : Int)).bind fun r4 =>
  (s_l5Stops t r4.1).bind fun r5 =>
  (s_l1Cur_pick r4.2 (r5.length : Int)).bind fun r6 =>
  (idx r5 r6.1).bind fun e =>
  some (e, r6.2)
 else
  (s_l1Cur_pick (⟨v1, v2, (⟨v3⟩ : IK .u64)⟩ : l1Cur) (w64 ((t.Network.Stops.length : Int) + 1))).bind fun r7 =>
  (s_l1Cur_pick r7.2 12).bind fun r8 =>
  (chk ((11 : Int) ≠ 0)).bind fun u =>
  some ((w64 (r7.1 - (w64 (r8.1.tdiv 11)))), r8.2)
noncomputable def s_l1Cur_time (c : l1Cur) : Option (Int × l1Cur) :=
 (s_l1Cur_one c 16).bind fun r =>
 if r.1 = true then
  (s_l1Cur_among r.2 ([0, 1799, 1800, (-1), 1440, 1439] : List Int)).bind fun r1 =>
  some (r1.1, r1.2)
 else
  (s_l1Cur_pick r.2 240).bind fun r2 =>
  some ((w64 (360 + r2.1)), r2.2)
noncomputable def s_l1Cur_now23 (c : l1Cur) (t : Timetable) : Option (Int × l1Cur) :=
 (if (decide (0 < (t.Trips.length : Int))) = true then (s_l1Cur_one c 6).bind fun r =>
 some ((!r.1), r.2.code_, r.2.at_, r.2.seed_.v) else some (false, c.code_, c.at_, c.seed_.v)).bind fun ((v, v1, v2, v3) : Bool × (List UInt8) × Int × Int) =>
 if v = true then
  (s_l1Cur_pick (⟨v1, v2, (⟨v3⟩ : IK .u64)⟩ : l1Cur) (t.Trips.length : Int)).bind fun r3 =>
  (idx t.Trips r3.1).bind fun e1 =>
  (s_l1Cur_pick r3.2 40).bind fun r4 =>
  some ((w64 ((w64 (e1.Start + r4.1)) - 10)), r4.2)
 else
  (s_l1Cur_time (⟨v1, v2, (⟨v3⟩ : IK .u64)⟩ : l1Cur)).bind fun r5 =>
  some (r5.1, r5.2)
noncomputable def s_DrawBoardRows (code : List UInt8) : Option (Timetable × (List TripDelay) × Int × Int × Int) :=
 (s_l1Cur_anyTimetable (⟨code, 0, (⟨0⟩ : IK .u64)⟩ : l1Cur)).bind fun r =>
 (s_l1Cur_delays23 r.2 r.1).bind fun r1 =>
 (s_l1Cur_stopOf r1.2 r.1).bind fun r2 =>
 (s_l1Cur_now23 r2.2 r.1).bind fun r3 =>
 (s_l1Cur_pick r3.2 24).bind fun r6 =>
 (chk ((11 : Int) ≠ 0)).bind fun u2 =>
 (chk ((0 : Int) ≤ 0 ∧ 0 ≤ (w64 (5 + (w64 (r6.1.tdiv 11)))) ∧ (w64 (5 + (w64 (r6.1.tdiv 11)))) ≤ (([1, 2, 3, 5, 10, 0, 11] : List Int).length : Int))).bind fun u3 =>
 (s_l1Cur_among_w r6.2 ((([1, 2, 3, 5, 10, 0, 11] : List Int).take (w64 (5 + (w64 (r6.1.tdiv 11)))).toNat).drop (0 : Int).toNat)).bind fun r7 =>
 some (r.1, r1.1, r2.1, r3.1, r7.1)
noncomputable def s_DrawOvertakings (code : List UInt8) : Option (Timetable × (List TripDelay) × Int) :=
 (s_DrawBoardRows code).bind fun r =>
 some (r.1, r.2.1, r.2.2.1)
noncomputable def i_isBoard (t : Timetable) (delays : List TripDelay) (stop : Int) (now : Int) : Option (Bool) :=
 (i_IsValidTripDelays t delays).bind fun r =>
 (if r = true then (i_isStop t.Network stop).bind fun r1 =>
 if r1 = true then (i_IsValidTime now).bind fun r2 =>
 some r2 else some false else some false).bind fun (v : Bool) =>
 some v
noncomputable def i_lineOf (t : Timetable) (x : Trip) : Option (Line) :=
 (idx t.Network.Lines x.Line).bind fun e =>
 some e
noncomputable def i_stopTimes_L1 (r : Line) : Int × (List Int) → Option (Lp (Int × (List Int)) ((List Int)))
 | (v, r1) =>
  if (decide (v < (r.Runs.length : Int))) = true then
   (idx r.Runs v).bind fun e =>
   (idx r1 v).bind fun e1 =>
   (chk (r1.length + ([(w64 (e1 + e))] : List Int).length ≤ 4294967296)).bind fun u =>
   some (.nx ((w64 (v + 1)), (r1 ++ ([(w64 (e1 + e))] : List Int))))
  else
   some (.dn r1)
noncomputable def i_stopTimes (t : Timetable) (x : Trip) : Option ((List Int)) :=
 (i_lineOf t x).bind fun r =>
 (iter (i_stopTimes_L1 r) ((0 : Int), ([x.Start] : List Int))).bind fun (r2 : List Int) =>
 some r2
noncomputable def i_departuresAt_L1 (t : Timetable) (delays : List TripDelay) (stop : Int) : Int × (List departure) → Option (Lp (Int × (List departure)) ((List departure)))
 | (v, stops) =>
  if (decide (v < (t.Trips.length : Int))) = true then
   ((idx t.Trips v).bind fun e =>
   (i_lineOf t e).bind fun r2 =>
   (i_stopTimes t e).bind fun r3 =>
   (slices_Index_int r2.Stops stop).bind fun r4 =>
   (if (decide (0 ≤ r4)) = true then some (decide (r4 < (w64 ((r2.Stops.length : Int) - 1)))) else some false).bind fun (v1 : Bool) =>
   if v1 = true then
    (idx r3 r4).bind fun e2 =>
    (i_delayOf delays e.Id).bind fun r6 =>
    (chk (stops.length + ([(⟨e, e2, r6⟩ : departure)] : List departure).length ≤ 4294967296)).bind fun u1 =>
    some (stops ++ ([(⟨e, e2, r6⟩ : departure)] : List departure))
   else
    some stops).bind fun (stops1 : List departure) =>
   some (.nx ((w64 (v + 1)), stops1))
  else
   some (.dn stops)
noncomputable def i_departuresAt (t : Timetable) (delays : List TripDelay) (stop : Int) : Option ((List departure)) :=
 (iter (i_departuresAt_L1 t delays stop) ((0 : Int), ([] : List departure))).bind fun (stops2 : List departure) =>
 some stops2
noncomputable def i_Overtakings_L1 (r1 : (List departure)) (e : departure) : Int × (List (List Int)) → Option (Lp (Int × (List (List Int))) ((List (List Int))))
 | (v2, v3) =>
  if (decide (v2 < (r1.length : Int))) = true then
   ((idx r1 v2).bind fun e1 =>
   (if (decide (e.time_ < e1.time_)) = true then some (decide ((w64 (e1.time_ + e1.delay_)) < (w64 (e.time_ + e.delay_)))) else some false).bind fun (v5 : Bool) =>
   if v5 = true then
    (chk (v3.length + ([([e.trip_.Id, e1.trip_.Id] : List Int)] : List (List Int)).length ≤ 4294967296)).bind fun u =>
    some (v3 ++ ([([e.trip_.Id, e1.trip_.Id] : List Int)] : List (List Int)))
   else
    some v3).bind fun (v4 : List (List Int)) =>
   some (.nx ((w64 (v2 + 1)), v4))
  else
   some (.dn v3)
noncomputable def i_Overtakings_L2 (r1 : (List departure)) : Int × (List (List Int)) → Option (Lp (Int × (List (List Int))) ((List (List Int))))
 | (v, v1) =>
  if (decide (v < (r1.length : Int))) = true then
   (idx r1 v).bind fun e =>
   (iter (i_Overtakings_L1 r1 e) ((0 : Int), v1)).bind fun (v6 : List (List Int)) =>
   some (.nx ((w64 (v + 1)), v6))
  else
   some (.dn v1)
noncomputable def i_Overtakings (t : Timetable) (delays : List TripDelay) (stop : Int) : Option ((List (List Int)) × Bool) :=
 (i_isBoard t delays stop 0).bind fun r =>
 if (!r) = true then
  some (([] : List (List Int)), false)
 else
  (i_departuresAt t delays stop).bind fun r1 =>
  (iter (i_Overtakings_L2 r1) ((0 : Int), ([] : List (List Int)))).bind fun (v7 : List (List Int)) =>
  some (v7, true)
noncomputable def s_l23Asked (t : Timetable) (delays : List TripDelay) (stop : Int) : Option (Bool) :=
 (s_l23Good t delays).bind fun r =>
 (if r = true then (s_l1In stop 0 (w64 ((t.Network.Stops.length : Int) - 1))).bind fun r1 =>
 some r1 else some false).bind fun (v : Bool) =>
 some v
noncomputable def s_l23Departure (t : Timetable) (i : Int) (stop : Int) : Option (Int) :=
 (s_l5Line t i).bind fun r =>
 (s_l2Place r stop).bind fun r1 =>
 (if (decide (r1 < 0)) = true then some true else (s_l5Stops t i).bind fun r2 =>
 some (r1 == (w64 ((r2.length : Int) - 1)))).bind fun (v : Bool) =>
 if v = true then
  some (-1)
 else
  (s_l5At t i r1).bind fun r3 =>
  some r3
noncomputable def s_Overtakings_L1 (t : Timetable) (delays : List TripDelay) (stop : Int) (b : Int) : Int × (List (List Int)) → Option (Lp (Int × (List (List Int))) ((List (List Int))))
 | (x, a1) =>
  if (decide (x < (t.Trips.length : Int))) = true then
   ((s_l23Departure t b stop).bind fun r3 =>
   (s_l23Departure t x stop).bind fun r4 =>
   (idx t.Trips b).bind fun e2 =>
   (s_l23Delay delays e2.Id).bind fun r7 =>
   (idx t.Trips x).bind fun e3 =>
   (s_l23Delay delays e3.Id).bind fun r8 =>
   (if (decide (0 ≤ r3)) = true then if (decide (0 ≤ r4)) = true then if (decide (r3 < r4)) = true then some (decide ((w64 (r4 + r8)) < (w64 (r3 + r7)))) else some false else some false else some false).bind fun (v : Bool) =>
   if v = true then
    (idx t.Trips b).bind fun e6 =>
    (idx t.Trips x).bind fun e7 =>
    (chk (a1.length + ([([e6.Id, e7.Id] : List Int)] : List (List Int)).length ≤ 4294967296)).bind fun u1 =>
    some (a1 ++ ([([e6.Id, e7.Id] : List Int)] : List (List Int)))
   else
    some a1).bind fun (a2 : List (List Int)) =>
   some (.nx ((w64 (x + 1)), a2))
  else
   some (.dn a1)
noncomputable def s_Overtakings_L2 (t : Timetable) (delays : List TripDelay) (stop : Int) : Int × (List (List Int)) → Option (Lp (Int × (List (List Int))) ((List (List Int))))
 | (b, a) =>
  if (decide (b < (t.Trips.length : Int))) = true then
   (iter (s_Overtakings_L1 t delays stop b) ((0 : Int), a)).bind fun (a3 : List (List Int)) =>
   some (.nx ((w64 (b + 1)), a3))
  else
   some (.dn a)
noncomputable def s_Overtakings (t : Timetable) (delays : List TripDelay) (stop : Int) : Option ((List (List Int)) × Bool) :=
 (s_l23Asked t delays stop).bind fun r =>
 if (!r) = true then
  some (([] : List (List Int)), false)
 else
  (iter (s_Overtakings_L2 t delays stop) ((0 : Int), ([] : List (List Int)))).bind fun (a4 : List (List Int)) =>
  some (a4, true)
noncomputable def v_rInts_L1 (a : List Int) (b : List Int) : Int → Option (Lp (Int) (Fl (Bool) (Unit)))
 | v =>
  if (decide (v < (a.length : Int))) = true then
   (idx a v).bind fun e2 =>
   (idx b v).bind fun e3 =>
   if (e2 != e3) = true then
    some (.dn (.ret false))
   else
    some (.nx (w64 (v + 1)))
  else
   some (.dn (.go ()))
noncomputable def v_rInts (a : List Int) (b : List Int) : Option (Bool) :=
 if ((a.length : Int) != (b.length : Int)) = true then
  some false
 else
  flb (iter (v_rInts_L1 a b) (0 : Int)) fun (_ : Unit) =>
  some true
noncomputable def v_rTable_L1 (a : List (List Int)) (b : List (List Int)) : Int → Option (Lp (Int) (Fl (Bool) (Unit)))
 | v =>
  if (decide (v < (a.length : Int))) = true then
   (idx a v).bind fun e2 =>
   (idx b v).bind fun e3 =>
   (v_rInts e2 e3).bind fun r1 =>
   if (!r1) = true then
    some (.dn (.ret false))
   else
    some (.nx (w64 (v + 1)))
  else
   some (.dn (.go ()))
noncomputable def v_rTable (a : List (List Int)) (b : List (List Int)) : Option (Bool) :=
 if ((a.length : Int) != (b.length : Int)) = true then
  some false
 else
  flb (iter (v_rTable_L1 a b) (0 : Int)) fun (_ : Unit) =>
  some true
noncomputable def s_DrawArrivalsAt (code : List UInt8) : Option (Timetable × (List TripDelay) × Int × Int × Int) :=
 (s_l1Cur_anyTimetable (⟨code, 0, (⟨0⟩ : IK .u64)⟩ : l1Cur)).bind fun r =>
 (s_l1Cur_delays23 r.2 r.1).bind fun r1 =>
 (s_l1Cur_stopOf r1.2 r.1).bind fun r2 =>
 (s_l1Cur_now23 r2.2 r.1).bind fun r3 =>
 (s_l1Cur_among_w r3.2 ([0, 10, 60, 300, (-1)] : List Int)).bind fun r5 =>
 some (r.1, r1.1, r2.1, r3.1, (w64 (r3.1 + r5.1)))
noncomputable def cmp_isNaN_int (x : Int) : Option (Bool) :=
 some (x != x)
noncomputable def cmp_Compare_int (x : Int) (y_ : Int) : Option (Int) :=
 (cmp_isNaN_int x).bind fun r =>
 (cmp_isNaN_int y_).bind fun r1 =>
 if r = true then
  if r1 = true then
   some 0
  else
   some (-1)
 else
  if r1 = true then
   some 1
  else
   if (decide (x < y_)) = true then
    some (-1)
   else
    if (decide (y_ < x)) = true then
     some 1
    else
     some 0
noncomputable def slices_Compare_int_L1 (s1 : List Int) (s2 : List Int) : Int → Option (Lp (Int) (Fl (Int) (Unit)))
 | v =>
  if (decide (v < (s1.length : Int))) = true then
   (idx s1 v).bind fun e =>
   if (decide ((s2.length : Int) ≤ v)) = true then
    some (.dn (.ret 1))
   else
    (idx s2 v).bind fun e2 =>
    (cmp_Compare_int e e2).bind fun r1 =>
    if (r1 != 0) = true then
     some (.dn (.ret r1))
    else
     some (.nx (w64 (v + 1)))
  else
   some (.dn (.go ()))
noncomputable def slices_Compare_int (s1 : List Int) (s2 : List Int) : Option (Int) :=
 flb (iter (slices_Compare_int_L1 s1 s2) (0 : Int)) fun (_ : Unit) =>
 if (decide ((s1.length : Int) < (s2.length : Int))) = true then
  some (-1)
 else
  some 0
noncomputable def i_ArrivalsAt_1 (a : A2_Int) (b : A2_Int) : Option (Int) :=
 (slices_Compare_int ([a.X0, a.X1] : List Int) ([b.X0, b.X1] : List Int)).bind fun r1 =>
 some r1
noncomputable def math_bits_Len64 (x : IK .u64) : Option (Int) :=
 (if (decide (4294967296 ≤ x.v)) = true then
  (chk ((0 : Int) ≤ 32)).bind fun u =>
  some ((x.v.fdiv (2 ^ (min (32 : Int).toNat (IntKind.u64).bits))), (32 : Int))
 else
  some (x.v, (0 : Int))).bind fun ((x1, v) : Int × Int) =>
 (if (decide (65536 ≤ x1)) = true then
  (chk ((0 : Int) ≤ 16)).bind fun u1 =>
  some ((x1.fdiv (2 ^ (min (16 : Int).toNat (IntKind.u64).bits))), (w64 (v + 16)))
 else
  some (x1, v)).bind fun ((x2, v1) : Int × Int) =>
 (if (decide (256 ≤ x2)) = true then
  (chk ((0 : Int) ≤ 8)).bind fun u2 =>
  some ((x2.fdiv (2 ^ (min (8 : Int).toNat (IntKind.u64).bits))), (w64 (v1 + 8)))
 else
  some (x2, v1)).bind fun ((x3, v2) : Int × Int) =>
 (chk ((0 : Int) ≤ (IntKind.u8.wrap (x3)) ∧ (IntKind.u8.wrap (x3)) < ((str [0, 1, 2, 2, 3, 3, 3, 3, 4, 4, 4, 4, 4, 4, 4, 4, 5, 5, 5, 5, 5, 5, 5, 5, 5, 5, 5, 5, 5, 5, 5, 5, 6, 6, 6, 6, 6, 6, 6, 6, 6, 6, 6, 6, 6, 6, 6, 6, 6, 6, 6, 6, 6, 6, 6, 6, 6, 6, 6, 6, 6, 6, 6, 6, 7, 7, 7, 7, 7, 7, 7, 7, 7, 7, 7, 7, 7, 7, 7, 7, 7, 7, 7, 7, 7, 7, 7, 7, 7, 7, 7, 7, 7, 7, 7, 7, 7, 7, 7, 7, 7, 7, 7, 7, 7, 7, 7, 7, 7, 7, 7, 7, 7, 7, 7, 7, 7, 7, 7, 7, 7, 7, 7, 7, 7, 7, 7, 7, 8, 8, 8, 8, 8, 8, 8, 8, 8, 8, 8, 8, 8, 8, 8, 8, 8, 8, 8, 8, 8, 8, 8, 8, 8, 8, 8, 8, 8, 8, 8, 8, 8, 8, 8, 8, 8, 8, 8, 8, 8, 8, 8, 8, 8, 8, 8, 8, 8, 8, 8, 8, 8, 8, 8, 8, 8, 8, 8, 8, 8, 8, 8, 8, 8, 8, 8, 8, 8, 8, 8, 8, 8, 8, 8, 8, 8, 8, 8, 8, 8, 8, 8, 8, 8, 8, 8, 8, 8, 8, 8, 8, 8, 8, 8, 8, 8, 8, 8, 8, 8, 8, 8, 8, 8, 8, 8, 8, 8, 8, 8, 8, 8, 8, 8, 8, 8, 8, 8, 8, 8, 8, 8, 8, 8, 8, 8, 8]).size : Int))).bind fun u3 =>
 some (w64 (v2 + (w64 ((((str [0, 1, 2, 2, 3, 3, 3, 3, 4, 4, 4, 4, 4, 4, 4, 4, 5, 5, 5, 5, 5, 5, 5, 5, 5, 5, 5, 5, 5, 5, 5, 5, 6, 6, 6, 6, 6, 6, 6, 6, 6, 6, 6, 6, 6, 6, 6, 6, 6, 6, 6, 6, 6, 6, 6, 6, 6, 6, 6, 6, 6, 6, 6, 6, 7, 7, 7, 7, 7, 7, 7, 7, 7, 7, 7, 7, 7, 7, 7, 7, 7, 7, 7, 7, 7, 7, 7, 7, 7, 7, 7, 7, 7, 7, 7, 7, 7, 7, 7, 7, 7, 7, 7, 7, 7, 7, 7, 7, 7, 7, 7, 7, 7, 7, 7, 7, 7, 7, 7, 7, 7, 7, 7, 7, 7, 7, 7, 7, 8, 8, 8, 8, 8, 8, 8, 8, 8, 8, 8, 8, 8, 8, 8, 8, 8, 8, 8, 8, 8, 8, 8, 8, 8, 8, 8, 8, 8, 8, 8, 8, 8, 8, 8, 8, 8, 8, 8, 8, 8, 8, 8, 8, 8, 8, 8, 8, 8, 8, 8, 8, 8, 8, 8, 8, 8, 8, 8, 8, 8, 8, 8, 8, 8, 8, 8, 8, 8, 8, 8, 8, 8, 8, 8, 8, 8, 8, 8, 8, 8, 8, 8, 8, 8, 8, 8, 8, 8, 8, 8, 8, 8, 8, 8, 8, 8, 8, 8, 8, 8, 8, 8, 8, 8, 8, 8, 8, 8, 8, 8, 8, 8, 8, 8, 8, 8, 8, 8, 8, 8, 8, 8, 8, 8, 8, 8, 8]).data.toList.getD (IntKind.u8.wrap (x3)).toNat 0).toNat : Int)))))
noncomputable def math_bits_Len (x : IK .u64) : Option (Int) :=
 (math_bits_Len64 x).bind fun r =>
 some r
noncomputable def slices_insertionSortCmpFunc__2_int_w_L1 (a : Int) (cmp : A2_Int → A2_Int → Option (Int)) : Int × (List A2_Int) → Option (Lp (Int × (List A2_Int)) ((List A2_Int)))
 | (v1, data2) =>
  (if (decide (a < v1)) = true then (idx data2 v1).bind fun e2 =>
  (idx data2 (w64 (v1 - 1))).bind fun e3 =>
  (cmp e2 e3).bind fun r1 =>
  some (decide (r1 < 0)) else some false).bind fun (v2 : Bool) =>
  if v2 = true then
   (idx data2 (w64 (v1 - 1))).bind fun e8 =>
   (idx data2 v1).bind fun e9 =>
   (idx data2 v1).bind fun e10 =>
   (idx (data2.set v1.toNat e8) (w64 (v1 - 1))).bind fun e11 =>
   some (.nx ((w64 (v1 - 1)), ((data2.set v1.toNat e8).set (w64 (v1 - 1)).toNat e9)))
  else
   some (.dn data2)
noncomputable def slices_insertionSortCmpFunc__2_int_w_L2 (a : Int) (b : Int) (cmp : A2_Int → A2_Int → Option (Int)) : Int × (List A2_Int) → Option (Lp (Int × (List A2_Int)) ((List A2_Int)))
 | (v, data1) =>
  if (decide (v < b)) = true then
   (iter (slices_insertionSortCmpFunc__2_int_w_L1 a cmp) (v, data1)).bind fun (data3 : List A2_Int) =>
   some (.nx ((w64 (v + 1)), data3))
  else
   some (.dn data1)
noncomputable def slices_insertionSortCmpFunc__2_int_w (data : List A2_Int) (a : Int) (b : Int) (cmp : A2_Int → A2_Int → Option (Int)) : Option ((List A2_Int)) :=
 iter (slices_insertionSortCmpFunc__2_int_w_L2 a b cmp) ((w64 (a + 1)), data)
noncomputable def slices_insertionSortCmpFunc__2_int_w__i_ArrivalsAt_1 (data : List A2_Int) (a : Int) (b : Int) : Option ((List A2_Int)) :=
 slices_insertionSortCmpFunc__2_int_w data a b (fun (z0 : A2_Int) (z1 : A2_Int) => i_ArrivalsAt_1 z0 z1)
noncomputable def slices_siftDownCmpFunc__2_int_w_L1 (hi : Int) (first : Int) (cmp : A2_Int → A2_Int → Option (Int)) : Int × (List A2_Int) → Option (Lp (Int × (List A2_Int)) ((List A2_Int)))
 | (v, data1) =>
  if (decide (hi ≤ (w64 ((w64 (2 * v)) + 1)))) = true then
   some (.dn data1)
  else
   ((if (decide ((w64 ((w64 ((w64 (2 * v)) + 1)) + 1)) < hi)) = true then (idx data1 (w64 (first + (w64 ((w64 (2 * v)) + 1))))).bind fun e3 =>
   (idx data1 (w64 ((w64 (first + (w64 ((w64 (2 * v)) + 1)))) + 1))).bind fun e4 =>
   (cmp e3 e4).bind fun r2 =>
   some (decide (r2 < 0)) else some false).bind fun (v2 : Bool) =>
   if v2 = true then
    some (w64 ((w64 ((w64 (2 * v)) + 1)) + 1))
   else
    some (w64 ((w64 (2 * v)) + 1))).bind fun (v1 : Int) =>
   (idx data1 (w64 (first + v))).bind fun e7 =>
   (idx data1 (w64 (first + v1))).bind fun e8 =>
   (cmp e7 e8).bind fun r4 =>
   if (!(decide (r4 < 0))) = true then
    some (.dn data1)
   else
    (idx data1 (w64 (first + v1))).bind fun e14 =>
    (idx data1 (w64 (first + v))).bind fun e15 =>
    (idx data1 (w64 (first + v))).bind fun e16 =>
    (idx (data1.set (w64 (first + v)).toNat e14) (w64 (first + v1))).bind fun e17 =>
    some (.nx (v1, ((data1.set (w64 (first + v)).toNat e14).set (w64 (first + v1)).toNat e15)))
noncomputable def slices_siftDownCmpFunc__2_int_w (data : List A2_Int) (lo : Int) (hi : Int) (first : Int) (cmp : A2_Int → A2_Int → Option (Int)) : Option ((List A2_Int)) :=
 iter (slices_siftDownCmpFunc__2_int_w_L1 hi first cmp) (lo, data)
noncomputable def slices_siftDownCmpFunc__2_int_w__i_ArrivalsAt_1 (data : List A2_Int) (lo : Int) (hi : Int) (first : Int) : Option ((List A2_Int)) :=
 slices_siftDownCmpFunc__2_int_w data lo hi first (fun (z0 : A2_Int) (z1 : A2_Int) => i_ArrivalsAt_1 z0 z1)
noncomputable def slices_heapSortCmpFunc__2_int_w_L1 (a : Int) (b : Int) (cmp : A2_Int → A2_Int → Option (Int)) : Int × (List A2_Int) → Option (Lp (Int × (List A2_Int)) ((List A2_Int)))
 | (v, data1) =>
  if (decide (0 ≤ v)) = true then
   (slices_siftDownCmpFunc__2_int_w data1 v (w64 (b - a)) a cmp).bind fun r =>
   some (.nx ((w64 (v - 1)), r))
  else
   some (.dn data1)
noncomputable def slices_heapSortCmpFunc__2_int_w_L2 (a : Int) (cmp : A2_Int → A2_Int → Option (Int)) : Int × (List A2_Int) → Option (Lp (Int × (List A2_Int)) ((List A2_Int)))
 | (v1, data3) =>
  if (decide (0 ≤ v1)) = true then
   (idx data3 (w64 (a + v1))).bind fun e4 =>
   (idx data3 a).bind fun e5 =>
   (idx data3 a).bind fun e6 =>
   (idx (data3.set a.toNat e4) (w64 (a + v1))).bind fun e7 =>
   (slices_siftDownCmpFunc__2_int_w ((data3.set a.toNat e4).set (w64 (a + v1)).toNat e5) 0 v1 a cmp).bind fun r1 =>
   some (.nx ((w64 (v1 - 1)), r1))
  else
   some (.dn data3)
noncomputable def slices_heapSortCmpFunc__2_int_w (data : List A2_Int) (a : Int) (b : Int) (cmp : A2_Int → A2_Int → Option (Int)) : Option ((List A2_Int)) :=
 (chk ((2 : Int) ≠ 0)).bind fun u =>
 (iter (slices_heapSortCmpFunc__2_int_w_L1 a b cmp) ((w64 ((w64 ((w64 (b - a)) - 1)).tdiv 2)), data)).bind fun (data2 : List A2_Int) =>
 iter (slices_heapSortCmpFunc__2_int_w_L2 a cmp) ((w64 ((w64 (b - a)) - 1)), data2)
noncomputable def slices_heapSortCmpFunc__2_int_w__i_ArrivalsAt_1 (data : List A2_Int) (a : Int) (b : Int) : Option ((List A2_Int)) :=
 slices_heapSortCmpFunc__2_int_w data a b (fun (z0 : A2_Int) (z1 : A2_Int) => i_ArrivalsAt_1 z0 z1)
noncomputable def slices_order2CmpFunc__2_int (data : List A2_Int) (a : Int) (b : Int) (swaps : Int) (cmp : A2_Int → A2_Int → Option (Int)) : Option (Int × Int × Int) :=
 (idx data b).bind fun e2 =>
 (idx data a).bind fun e3 =>
 (cmp e2 e3).bind fun r1 =>
 if (decide (r1 < 0)) = true then
  some (b, a, (w64 (swaps + 1)))
 else
  some (a, b, swaps)
noncomputable def slices_order2CmpFunc__2_int__i_ArrivalsAt_1 (data : List A2_Int) (a : Int) (b : Int) (swaps : Int) : Option (Int × Int × Int) :=
 slices_order2CmpFunc__2_int data a b swaps (fun (z0 : A2_Int) (z1 : A2_Int) => i_ArrivalsAt_1 z0 z1)
noncomputable def slices_medianCmpFunc__2_int (data : List A2_Int) (a : Int) (b : Int) (c : Int) (swaps : Int) (cmp : A2_Int → A2_Int → Option (Int)) : Option (Int × Int) :=
 (slices_order2CmpFunc__2_int data a b swaps cmp).bind fun r =>
 (slices_order2CmpFunc__2_int data r.2.1 c r.2.2 cmp).bind fun r1 =>
 (slices_order2CmpFunc__2_int data r.1 r1.1 r1.2.2 cmp).bind fun r2 =>
 some (r2.2.1, r2.2.2)
noncomputable def slices_medianCmpFunc__2_int__i_ArrivalsAt_1 (data : List A2_Int) (a : Int) (b : Int) (c : Int) (swaps : Int) : Option (Int × Int) :=
 slices_medianCmpFunc__2_int data a b c swaps (fun (z0 : A2_Int) (z1 : A2_Int) => i_ArrivalsAt_1 z0 z1)
noncomputable def slices_medianAdjacentCmpFunc__2_int (data : List A2_Int) (a : Int) (swaps : Int) (cmp : A2_Int → A2_Int → Option (Int)) : Option (Int × Int) :=
 (slices_medianCmpFunc__2_int data (w64 (a - 1)) a (w64 (a + 1)) swaps cmp).bind fun r =>
 some (r.1, r.2)
noncomputable def slices_medianAdjacentCmpFunc__2_int__i_ArrivalsAt_1 (data : List A2_Int) (a : Int) (swaps : Int) : Option (Int × Int) :=
 slices_medianAdjacentCmpFunc__2_int data a swaps (fun (z0 : A2_Int) (z1 : A2_Int) => i_ArrivalsAt_1 z0 z1)
noncomputable def slices_choosePivotCmpFunc__2_int (data : List A2_Int) (a : Int) (b : Int) (cmp : A2_Int → A2_Int → Option (Int)) : Option (Int × Int) :=
 (chk ((4 : Int) ≠ 0)).bind fun u =>
 (chk ((4 : Int) ≠ 0)).bind fun u1 =>
 (chk ((4 : Int) ≠ 0)).bind fun u2 =>
 (if (decide (8 ≤ (w64 (b - a)))) = true then
  (if (decide (50 ≤ (w64 (b - a)))) = true then
   (slices_medianAdjacentCmpFunc__2_int data (w64 (a + (w64 ((w64 ((w64 (b - a)).tdiv 4)) * 1)))) 0 cmp).bind fun r =>
   (slices_medianAdjacentCmpFunc__2_int data (w64 (a + (w64 ((w64 ((w64 (b - a)).tdiv 4)) * 2)))) r.2 cmp).bind fun r1 =>
   (slices_medianAdjacentCmpFunc__2_int data (w64 (a + (w64 ((w64 ((w64 (b - a)).tdiv 4)) * 3)))) r1.2 cmp).bind fun r2 =>
   some (r.1, r1.1, r2.1, r2.2)
  else
   some ((w64 (a + (w64 ((w64 ((w64 (b - a)).tdiv 4)) * 1)))), (w64 (a + (w64 ((w64 ((w64 (b - a)).tdiv 4)) * 2)))), (w64 (a + (w64 ((w64 ((w64 (b - a)).tdiv 4)) * 3)))), (0 : Int))).bind fun ((v2, v3, v4, v5) : Int × Int × Int × Int) =>
  (slices_medianCmpFunc__2_int data v2 v3 v4 v5 cmp).bind fun r3 =>
  some (r3.1, r3.2)
 else
  some ((w64 (a + (w64 ((w64 ((w64 (b - a)).tdiv 4)) * 2)))), (0 : Int))).bind fun ((v, v1) : Int × Int) =>
 if (v1 == 0) = true then
  some (v, 1)
 else
  if (v1 == 12) = true then
   some (v, 2)
  else
   some (v, 0)
noncomputable def slices_choosePivotCmpFunc__2_int__i_ArrivalsAt_1 (data : List A2_Int) (a : Int) (b : Int) : Option (Int × Int) :=
 slices_choosePivotCmpFunc__2_int data a b (fun (z0 : A2_Int) (z1 : A2_Int) => i_ArrivalsAt_1 z0 z1)
noncomputable def slices_reverseRangeCmpFunc__2_int_w_L1 : Int × Int × (List A2_Int) → Option (Lp (Int × Int × (List A2_Int)) ((List A2_Int)))
 | (v, v1, data1) =>
  if (decide (v < v1)) = true then
   (idx data1 v1).bind fun e4 =>
   (idx data1 v).bind fun e5 =>
   (idx data1 v).bind fun e6 =>
   (idx (data1.set v.toNat e4) v1).bind fun e7 =>
   some (.nx ((w64 (v + 1)), (w64 (v1 - 1)), ((data1.set v.toNat e4).set v1.toNat e5)))
  else
   some (.dn data1)
noncomputable def slices_reverseRangeCmpFunc__2_int_w (data : List A2_Int) (a : Int) (b : Int) (cmp : A2_Int → A2_Int → Option (Int)) : Option ((List A2_Int)) :=
 iter (slices_reverseRangeCmpFunc__2_int_w_L1) (a, (w64 (b - 1)), data)
noncomputable def slices_reverseRangeCmpFunc__2_int_w__i_ArrivalsAt_1 (data : List A2_Int) (a : Int) (b : Int) : Option ((List A2_Int)) :=
 slices_reverseRangeCmpFunc__2_int_w data a b (fun (z0 : A2_Int) (z1 : A2_Int) => i_ArrivalsAt_1 z0 z1)
noncomputable def slices_partialInsertionSortCmpFunc__2_int_w_L1 (b : Int) (cmp : A2_Int → A2_Int → Option (Int)) (data1 : List A2_Int) : Int → Option (Lp (Int) (Int))
 | v3 =>
  (if (decide (v3 < b)) = true then (idx data1 v3).bind fun e2 =>
  (idx data1 (w64 (v3 - 1))).bind fun e3 =>
  (cmp e2 e3).bind fun r1 =>
  some (!(decide (r1 < 0))) else some false).bind fun (v4 : Bool) =>
  if v4 = true then
   some (.nx (w64 (v3 + 1)))
  else
   some (.dn v3)
noncomputable def slices_partialInsertionSortCmpFunc__2_int_w_L2 (cmp : A2_Int → A2_Int → Option (Int)) : Int × (List A2_Int) → Option (Lp (Int × (List A2_Int)) ((List A2_Int)))
 | (v6, data4) =>
  if (decide (1 ≤ v6)) = true then
   (idx data4 v6).bind fun e18 =>
   (idx data4 (w64 (v6 - 1))).bind fun e19 =>
   (cmp e18 e19).bind fun r7 =>
   if (!(decide (r7 < 0))) = true then
    some (.dn data4)
   else
    (idx data4 (w64 (v6 - 1))).bind fun e24 =>
    (idx data4 v6).bind fun e25 =>
    (idx data4 v6).bind fun e26 =>
    (idx (data4.set v6.toNat e24) (w64 (v6 - 1))).bind fun e27 =>
    some (.nx ((w64 (v6 - 1)), ((data4.set v6.toNat e24).set (w64 (v6 - 1)).toNat e25)))
  else
   some (.dn data4)
noncomputable def slices_partialInsertionSortCmpFunc__2_int_w_L3 (b : Int) (cmp : A2_Int → A2_Int → Option (Int)) : Int × (List A2_Int) → Option (Lp (Int × (List A2_Int)) ((List A2_Int)))
 | (v7, data6) =>
  if (decide (v7 < b)) = true then
   (idx data6 v7).bind fun e30 =>
   (idx data6 (w64 (v7 - 1))).bind fun e31 =>
   (cmp e30 e31).bind fun r9 =>
   if (!(decide (r9 < 0))) = true then
    some (.dn data6)
   else
    (idx data6 (w64 (v7 - 1))).bind fun e36 =>
    (idx data6 v7).bind fun e37 =>
    (idx data6 v7).bind fun e38 =>
    (idx (data6.set v7.toNat e36) (w64 (v7 - 1))).bind fun e39 =>
    some (.nx ((w64 (v7 + 1)), ((data6.set v7.toNat e36).set (w64 (v7 - 1)).toNat e37)))
  else
   some (.dn data6)
noncomputable def slices_partialInsertionSortCmpFunc__2_int_w_L4 (a : Int) (b : Int) (cmp : A2_Int → A2_Int → Option (Int)) : Int × Int × (List A2_Int) → Option (Lp (Int × Int × (List A2_Int)) (Fl (Bool × (List A2_Int)) ((List A2_Int))))
 | (v, v1, data1) =>
  if (decide (v1 < 5)) = true then
   flb ((iter (slices_partialInsertionSortCmpFunc__2_int_w_L1 b cmp data1) v).bind fun (v5 : Int) =>
   if (v5 == b) = true then
    some (.ret (.dn (.ret (true, data1))))
   else
    if (decide ((w64 (b - a)) < 50)) = true then
     some (.ret (.dn (.ret (false, data1))))
    else
     (idx data1 (w64 (v5 - 1))).bind fun e12 =>
     (idx data1 v5).bind fun e13 =>
     (idx data1 v5).bind fun e14 =>
     (idx (data1.set v5.toNat e12) (w64 (v5 - 1))).bind fun e15 =>
     (if (decide (2 ≤ (w64 (v5 - a)))) = true then
      (iter (slices_partialInsertionSortCmpFunc__2_int_w_L2 cmp) ((w64 (v5 - 1)), ((data1.set v5.toNat e12).set (w64 (v5 - 1)).toNat e13))).bind fun (data5 : List A2_Int) =>
      some data5
     else
      some ((data1.set v5.toNat e12).set (w64 (v5 - 1)).toNat e13)).bind fun (data3 : List A2_Int) =>
     if (decide (2 ≤ (w64 (b - v5)))) = true then
      (iter (slices_partialInsertionSortCmpFunc__2_int_w_L3 b cmp) ((w64 (v5 + 1)), data3)).bind fun (data7 : List A2_Int) =>
      some (.go (v5, data7))
     else
      some (.go (v5, data3))) fun ((v2, data2) : Int × (List A2_Int)) =>
   some (.nx (v2, (w64 (v1 + 1)), data2))
  else
   some (.dn (.go data1))
noncomputable def slices_partialInsertionSortCmpFunc__2_int_w (data : List A2_Int) (a : Int) (b : Int) (cmp : A2_Int → A2_Int → Option (Int)) : Option (Bool × (List A2_Int)) :=
 flb (iter (slices_partialInsertionSortCmpFunc__2_int_w_L4 a b cmp) ((w64 (a + 1)), (0 : Int), data)) fun (data8 : List A2_Int) =>
 some (false, data8)
noncomputable def slices_partialInsertionSortCmpFunc__2_int_w__i_ArrivalsAt_1 (data : List A2_Int) (a : Int) (b : Int) : Option (Bool × (List A2_Int)) :=
 slices_partialInsertionSortCmpFunc__2_int_w data a b (fun (z0 : A2_Int) (z1 : A2_Int) => i_ArrivalsAt_1 z0 z1)
noncomputable def slices_partitionEqualCmpFunc__2_int_w_L1 (a : Int) (cmp : A2_Int → A2_Int → Option (Int)) (v1 : Int) (data1 : List A2_Int) : Int → Option (Lp (Int) (Int))
 | v2 =>
  (if (decide (v2 ≤ v1)) = true then (idx data1 a).bind fun e10 =>
  (idx data1 v2).bind fun e11 =>
  (cmp e10 e11).bind fun r1 =>
  some (!(decide (r1 < 0))) else some false).bind fun (v3 : Bool) =>
  if v3 = true then
   some (.nx (w64 (v2 + 1)))
  else
   some (.dn v2)
noncomputable def slices_partitionEqualCmpFunc__2_int_w_L2 (a : Int) (cmp : A2_Int → A2_Int → Option (Int)) (data1 : List A2_Int) (v4 : Int) : Int → Option (Lp (Int) (Int))
 | v5 =>
  (if (decide (v4 ≤ v5)) = true then (idx data1 a).bind fun e14 =>
  (idx data1 v5).bind fun e15 =>
  (cmp e14 e15).bind fun r3 =>
  some (decide (r3 < 0)) else some false).bind fun (v6 : Bool) =>
  if v6 = true then
   some (.nx (w64 (v5 - 1)))
  else
   some (.dn v5)
noncomputable def slices_partitionEqualCmpFunc__2_int_w_L3 (a : Int) (cmp : A2_Int → A2_Int → Option (Int)) : Int × Int × (List A2_Int) → Option (Lp (Int × Int × (List A2_Int)) (Int × (List A2_Int)))
 | (v, v1, data1) =>
  (iter (slices_partitionEqualCmpFunc__2_int_w_L1 a cmp v1 data1) v).bind fun (v4 : Int) =>
  (iter (slices_partitionEqualCmpFunc__2_int_w_L2 a cmp data1 v4) v1).bind fun (v7 : Int) =>
  if (decide (v7 < v4)) = true then
   some (.dn (v4, data1))
  else
   (idx data1 v7).bind fun e20 =>
   (idx data1 v4).bind fun e21 =>
   (idx data1 v4).bind fun e22 =>
   (idx (data1.set v4.toNat e20) v7).bind fun e23 =>
   some (.nx ((w64 (v4 + 1)), (w64 (v7 - 1)), ((data1.set v4.toNat e20).set v7.toNat e21)))
noncomputable def slices_partitionEqualCmpFunc__2_int_w (data : List A2_Int) (a : Int) (b : Int) (pivot : Int) (cmp : A2_Int → A2_Int → Option (Int)) : Option (Int × (List A2_Int)) :=
 (idx data pivot).bind fun e4 =>
 (idx data a).bind fun e5 =>
 (idx data a).bind fun e6 =>
 (idx (data.set a.toNat e4) pivot).bind fun e7 =>
 (iter (slices_partitionEqualCmpFunc__2_int_w_L3 a cmp) ((w64 (a + 1)), (w64 (b - 1)), ((data.set a.toNat e4).set pivot.toNat e5))).bind fun ((v8, data2) : Int × (List A2_Int)) =>
 some (v8, data2)
noncomputable def slices_partitionEqualCmpFunc__2_int_w__i_ArrivalsAt_1 (data : List A2_Int) (a : Int) (b : Int) (pivot : Int) : Option (Int × (List A2_Int)) :=
 slices_partitionEqualCmpFunc__2_int_w data a b pivot (fun (z0 : A2_Int) (z1 : A2_Int) => i_ArrivalsAt_1 z0 z1)
noncomputable def slices_partitionCmpFunc__2_int_w_L1 (data : List A2_Int) (a : Int) (b : Int) (pivot : Int) (cmp : A2_Int → A2_Int → Option (Int)) (e4 : A2_Int) (e5 : A2_Int) : Int → Option (Lp (Int) (Int))
 | v =>
  (if (decide (v ≤ (w64 (b - 1)))) = true then (idx ((data.set a.toNat e4).set pivot.toNat e5) v).bind fun e10 =>
  (idx ((data.set a.toNat e4).set pivot.toNat e5) a).bind fun e11 =>
  (cmp e10 e11).bind fun r1 =>
  some (decide (r1 < 0)) else some false).bind fun (v1 : Bool) =>
  if v1 = true then
   some (.nx (w64 (v + 1)))
  else
   some (.dn v)
noncomputable def slices_partitionCmpFunc__2_int_w_L2 (data : List A2_Int) (a : Int) (pivot : Int) (cmp : A2_Int → A2_Int → Option (Int)) (e4 : A2_Int) (e5 : A2_Int) (v2 : Int) : Int → Option (Lp (Int) (Int))
 | v3 =>
  (if (decide (v2 ≤ v3)) = true then (idx ((data.set a.toNat e4).set pivot.toNat e5) v3).bind fun e14 =>
  (idx ((data.set a.toNat e4).set pivot.toNat e5) a).bind fun e15 =>
  (cmp e14 e15).bind fun r3 =>
  some (!(decide (r3 < 0))) else some false).bind fun (v4 : Bool) =>
  if v4 = true then
   some (.nx (w64 (v3 - 1)))
  else
   some (.dn v3)
noncomputable def slices_partitionCmpFunc__2_int_w_L3 (a : Int) (cmp : A2_Int → A2_Int → Option (Int)) (v7 : Int) (data1 : List A2_Int) : Int → Option (Lp (Int) (Int))
 | v8 =>
  (if (decide (v8 ≤ v7)) = true then (idx data1 v8).bind fun e34 =>
  (idx data1 a).bind fun e35 =>
  (cmp e34 e35).bind fun r5 =>
  some (decide (r5 < 0)) else some false).bind fun (v9 : Bool) =>
  if v9 = true then
   some (.nx (w64 (v8 + 1)))
  else
   some (.dn v8)
noncomputable def slices_partitionCmpFunc__2_int_w_L4 (a : Int) (cmp : A2_Int → A2_Int → Option (Int)) (data1 : List A2_Int) (v10 : Int) : Int → Option (Lp (Int) (Int))
 | v11 =>
  (if (decide (v10 ≤ v11)) = true then (idx data1 v11).bind fun e38 =>
  (idx data1 a).bind fun e39 =>
  (cmp e38 e39).bind fun r7 =>
  some (!(decide (r7 < 0))) else some false).bind fun (v12 : Bool) =>
  if v12 = true then
   some (.nx (w64 (v11 - 1)))
  else
   some (.dn v11)
noncomputable def slices_partitionCmpFunc__2_int_w_L5 (a : Int) (cmp : A2_Int → A2_Int → Option (Int)) : Int × Int × (List A2_Int) → Option (Lp (Int × Int × (List A2_Int)) (Int × (List A2_Int)))
 | (v6, v7, data1) =>
  (iter (slices_partitionCmpFunc__2_int_w_L3 a cmp v7 data1) v6).bind fun (v10 : Int) =>
  (iter (slices_partitionCmpFunc__2_int_w_L4 a cmp data1 v10) v7).bind fun (v13 : Int) =>
  if (decide (v13 < v10)) = true then
   some (.dn (v13, data1))
  else
   (idx data1 v13).bind fun e44 =>
   (idx data1 v10).bind fun e45 =>
   (idx data1 v10).bind fun e46 =>
   (idx (data1.set v10.toNat e44) v13).bind fun e47 =>
   some (.nx ((w64 (v10 + 1)), (w64 (v13 - 1)), ((data1.set v10.toNat e44).set v13.toNat e45)))
noncomputable def slices_partitionCmpFunc__2_int_w (data : List A2_Int) (a : Int) (b : Int) (pivot : Int) (cmp : A2_Int → A2_Int → Option (Int)) : Option (Int × Bool × (List A2_Int)) :=
 (idx data pivot).bind fun e4 =>
 (idx data a).bind fun e5 =>
 (idx data a).bind fun e6 =>
 (idx (data.set a.toNat e4) pivot).bind fun e7 =>
 (iter (slices_partitionCmpFunc__2_int_w_L1 data a b pivot cmp e4 e5) (w64 (a + 1))).bind fun (v2 : Int) =>
 (iter (slices_partitionCmpFunc__2_int_w_L2 data a pivot cmp e4 e5 v2) (w64 (b - 1))).bind fun (v5 : Int) =>
 if (decide (v5 < v2)) = true then
  (idx ((data.set a.toNat e4).set pivot.toNat e5) a).bind fun e20 =>
  (idx ((data.set a.toNat e4).set pivot.toNat e5) v5).bind fun e21 =>
  (idx ((data.set a.toNat e4).set pivot.toNat e5) v5).bind fun e22 =>
  (idx (((data.set a.toNat e4).set pivot.toNat e5).set v5.toNat e20) a).bind fun e23 =>
  some (v5, true, ((((data.set a.toNat e4).set pivot.toNat e5).set v5.toNat e20).set a.toNat e21))
 else
  (idx ((data.set a.toNat e4).set pivot.toNat e5) v5).bind fun e28 =>
  (idx ((data.set a.toNat e4).set pivot.toNat e5) v2).bind fun e29 =>
  (idx ((data.set a.toNat e4).set pivot.toNat e5) v2).bind fun e30 =>
  (idx (((data.set a.toNat e4).set pivot.toNat e5).set v2.toNat e28) v5).bind fun e31 =>
  (iter (slices_partitionCmpFunc__2_int_w_L5 a cmp) ((w64 (v2 + 1)), (w64 (v5 - 1)), ((((data.set a.toNat e4).set pivot.toNat e5).set v2.toNat e28).set v5.toNat e29))).bind fun ((v14, data2) : Int × (List A2_Int)) =>
  (idx data2 a).bind fun e52 =>
  (idx data2 v14).bind fun e53 =>
  (idx data2 v14).bind fun e54 =>
  (idx (data2.set v14.toNat e52) a).bind fun e55 =>
  some (v14, false, ((data2.set v14.toNat e52).set a.toNat e53))
noncomputable def slices_partitionCmpFunc__2_int_w__i_ArrivalsAt_1 (data : List A2_Int) (a : Int) (b : Int) (pivot : Int) : Option (Int × Bool × (List A2_Int)) :=
 slices_partitionCmpFunc__2_int_w data a b pivot (fun (z0 : A2_Int) (z1 : A2_Int) => i_ArrivalsAt_1 z0 z1)
noncomputable def slices_nextPowerOfTwo (length : Int) : Option ((IK .u64)) :=
 (math_bits_Len (⟨(IntKind.u64.wrap (length))⟩ : IK .u64)).bind fun r =>
 (chk ((0 : Int) ≤ r)).bind fun u =>
 some (⟨(IntKind.u64.wrap (1 * 2 ^ (min (r : Int).toNat (IntKind.u64).bits)))⟩ : IK .u64)
noncomputable def slices_xorshift_Next (r : IK .u64) : Option ((IK .u64) × (IK .u64)) :=
 (chk ((0 : Int) ≤ 13)).bind fun u1 =>
 (chk ((0 : Int) ≤ 7)).bind fun u3 =>
 (chk ((0 : Int) ≤ 17)).bind fun u5 =>
 some ((⟨(IntKind.u64.wrap ((BitVec.ofInt (IntKind.u64).bits (IntKind.u64.wrap ((BitVec.ofInt (IntKind.u64).bits (IntKind.u64.wrap ((BitVec.ofInt (IntKind.u64).bits r.v ^^^ BitVec.ofInt (IntKind.u64).bits (IntKind.u64.wrap (r.v * 2 ^ (min (13 : Int).toNat (IntKind.u64).bits)))).toNat : Int)) ^^^ BitVec.ofInt (IntKind.u64).bits ((IntKind.u64.wrap ((BitVec.ofInt (IntKind.u64).bits r.v ^^^ BitVec.ofInt (IntKind.u64).bits (IntKind.u64.wrap (r.v * 2 ^ (min (13 : Int).toNat (IntKind.u64).bits)))).toNat : Int)).fdiv (2 ^ (min (7 : Int).toNat (IntKind.u64).bits)))).toNat : Int)) ^^^ BitVec.ofInt (IntKind.u64).bits (IntKind.u64.wrap ((IntKind.u64.wrap ((BitVec.ofInt (IntKind.u64).bits (IntKind.u64.wrap ((BitVec.ofInt (IntKind.u64).bits r.v ^^^ BitVec.ofInt (IntKind.u64).bits (IntKind.u64.wrap (r.v * 2 ^ (min (13 : Int).toNat (IntKind.u64).bits)))).toNat : Int)) ^^^ BitVec.ofInt (IntKind.u64).bits ((IntKind.u64.wrap ((BitVec.ofInt (IntKind.u64).bits r.v ^^^ BitVec.ofInt (IntKind.u64).bits (IntKind.u64.wrap (r.v * 2 ^ (min (13 : Int).toNat (IntKind.u64).bits)))).toNat : Int)).fdiv (2 ^ (min (7 : Int).toNat (IntKind.u64).bits)))).toNat : Int)) * 2 ^ (min (17 : Int).toNat (IntKind.u64).bits)))).toNat : Int))⟩ : IK .u64), (⟨(IntKind.u64.wrap ((BitVec.ofInt (IntKind.u64).bits (IntKind.u64.wrap ((BitVec.ofInt (IntKind.u64).bits (IntKind.u64.wrap ((BitVec.ofInt (IntKind.u64).bits r.v ^^^ BitVec.ofInt (IntKind.u64).bits (IntKind.u64.wrap (r.v * 2 ^ (min (13 : Int).toNat (IntKind.u64).bits)))).toNat : Int)) ^^^ BitVec.ofInt (IntKind.u64).bits ((IntKind.u64.wrap ((BitVec.ofInt (IntKind.u64).bits r.v ^^^ BitVec.ofInt (IntKind.u64).bits (IntKind.u64.wrap (r.v * 2 ^ (min (13 : Int).toNat (IntKind.u64).bits)))).toNat : Int)).fdiv (2 ^ (min (7 : Int).toNat (IntKind.u64).bits)))).toNat : Int)) ^^^ BitVec.ofInt (IntKind.u64).bits (IntKind.u64.wrap ((IntKind.u64.wrap ((BitVec.ofInt (IntKind.u64).bits (IntKind.u64.wrap ((BitVec.ofInt (IntKind.u64).bits r.v ^^^ BitVec.ofInt (IntKind.u64).bits (IntKind.u64.wrap (r.v * 2 ^ (min (13 : Int).toNat (IntKind.u64).bits)))).toNat : Int)) ^^^ BitVec.ofInt (IntKind.u64).bits ((IntKind.u64.wrap ((BitVec.ofInt (IntKind.u64).bits r.v ^^^ BitVec.ofInt (IntKind.u64).bits (IntKind.u64.wrap (r.v * 2 ^ (min (13 : Int).toNat (IntKind.u64).bits)))).toNat : Int)).fdiv (2 ^ (min (7 : Int).toNat (IntKind.u64).bits)))).toNat : Int)) * 2 ^ (min (17 : Int).toNat (IntKind.u64).bits)))).toNat : Int))⟩ : IK .u64))
noncomputable def slices_breakPatternsCmpFunc__2_int_w_L1 (a : Int) (b : Int) (r : (IK .u64)) : Int × (List A2_Int) × Int → Option (Lp (Int × (List A2_Int) × Int) ((List A2_Int)))
 | (v, data1, v1) =>
  (chk ((4 : Int) ≠ 0)).bind fun u1 =>
  if (decide (v ≤ (w64 ((w64 (a + (w64 ((w64 ((w64 (b - a)).tdiv 4)) * 2)))) + 1)))) = true then
   (slices_xorshift_Next (⟨v1⟩ : IK .u64)).bind fun r1 =>
   (if (decide ((w64 (b - a)) ≤ (w64 ((IntKind.u64.wrap ((BitVec.ofInt (IntKind.u64).bits r1.1.v &&& BitVec.ofInt (IntKind.u64).bits (IntKind.u64.wrap (r.v - 1))).toNat : Int)))))) = true then
    some (w64 ((w64 ((IntKind.u64.wrap ((BitVec.ofInt (IntKind.u64).bits r1.1.v &&& BitVec.ofInt (IntKind.u64).bits (IntKind.u64.wrap (r.v - 1))).toNat : Int)))) - (w64 (b - a))))
   else
    some (w64 ((IntKind.u64.wrap ((BitVec.ofInt (IntKind.u64).bits r1.1.v &&& BitVec.ofInt (IntKind.u64).bits (IntKind.u64.wrap (r.v - 1))).toNat : Int))))).bind fun (v2 : Int) =>
   (idx data1 (w64 (a + v2))).bind fun e4 =>
   (idx data1 v).bind fun e5 =>
   (idx data1 v).bind fun e6 =>
   (idx (data1.set v.toNat e4) (w64 (a + v2))).bind fun e7 =>
   some (.nx ((w64 (v + 1)), ((data1.set v.toNat e4).set (w64 (a + v2)).toNat e5), r1.2.v))
  else
   some (.dn data1)
noncomputable def slices_breakPatternsCmpFunc__2_int_w (data : List A2_Int) (a : Int) (b : Int) (cmp : A2_Int → A2_Int → Option (Int)) : Option ((List A2_Int)) :=
 if (decide (8 ≤ (w64 (b - a)))) = true then
  (slices_nextPowerOfTwo (w64 (b - a))).bind fun r =>
  (chk ((4 : Int) ≠ 0)).bind fun u =>
  iter (slices_breakPatternsCmpFunc__2_int_w_L1 a b r) ((w64 ((w64 (a + (w64 ((w64 ((w64 (b - a)).tdiv 4)) * 2)))) - 1)), data, (IntKind.u64.wrap ((w64 (b - a)))))
 else
  some data
noncomputable def slices_breakPatternsCmpFunc__2_int_w__i_ArrivalsAt_1 (data : List A2_Int) (a : Int) (b : Int) : Option ((List A2_Int)) :=
 slices_breakPatternsCmpFunc__2_int_w data a b (fun (z0 : A2_Int) (z1 : A2_Int) => i_ArrivalsAt_1 z0 z1)
noncomputable def slices_pdqsortCmpFunc__2_int_w__i_ArrivalsAt_1_L1 (rec_ : (List A2_Int) → Int → Int → Int → Option ((List A2_Int))) : Int × Int × Int × Bool × Bool × (List A2_Int) → Option (Lp (Int × Int × Int × Bool × Bool × (List A2_Int)) ((List A2_Int)))
 | (a1, b1, limit1, mid, mid1, data1) =>
  if (decide ((w64 (b1 - a1)) ≤ 12)) = true then
   (slices_insertionSortCmpFunc__2_int_w__i_ArrivalsAt_1 data1 a1 b1).bind fun r =>
   some (.dn r)
  else
   if (limit1 == 0) = true then
    (slices_heapSortCmpFunc__2_int_w__i_ArrivalsAt_1 data1 a1 b1).bind fun r2 =>
    some (.dn r2)
   else
    (if (!mid) = true then
     (slices_breakPatternsCmpFunc__2_int_w__i_ArrivalsAt_1 data1 a1 b1).bind fun r4 =>
     some ((w64 (limit1 - 1)), r4)
    else
     some (limit1, data1)).bind fun ((limit2, data2) : Int × (List A2_Int)) =>
    (slices_choosePivotCmpFunc__2_int__i_ArrivalsAt_1 data2 a1 b1).bind fun r5 =>
    (if (r5.2 == 2) = true then
     (slices_reverseRangeCmpFunc__2_int_w__i_ArrivalsAt_1 data2 a1 b1).bind fun r6 =>
     some ((w64 ((w64 (b1 - 1)) - (w64 (r5.1 - a1)))), (1 : Int), r6)
    else
     some (r5.1, r5.2, data2)).bind fun ((leftLen, rightLen, data3) : Int × Int × (List A2_Int)) =>
    flb ((if mid = true then if mid1 = true then some (rightLen == 1) else some false else some false).bind fun (v : Bool) =>
    if v = true then
     (slices_partialInsertionSortCmpFunc__2_int_w__i_ArrivalsAt_1 data3 a1 b1).bind fun r7 =>
     if r7.1 = true then
      some (.ret (.dn r7.2))
     else
      some (.go r7.2)
    else
     some (.go data3)) fun (data4 : List A2_Int) =>
    (if (decide (0 < a1)) = true then (idx data4 (w64 (a1 - 1))).bind fun e6 =>
    (idx data4 leftLen).bind fun e7 =>
    (i_ArrivalsAt_1 e6 e7).bind fun r11 =>
    some (!(decide (r11 < 0))) else some false).bind fun (v1 : Bool) =>
    if v1 = true then
     (slices_partitionEqualCmpFunc__2_int_w__i_ArrivalsAt_1 data4 a1 b1 leftLen).bind fun r12 =>
     some (.nx (r12.1, b1, limit2, mid, mid1, r12.2))
    else
     (slices_partitionCmpFunc__2_int_w__i_ArrivalsAt_1 data4 a1 b1 leftLen).bind fun r13 =>
     (chk ((8 : Int) ≠ 0)).bind fun u =>
     if (decide ((w64 (r13.1 - a1)) < (w64 (b1 - r13.1)))) = true then
      (rec_ r13.2.2 a1 r13.1 limit2).bind fun r14 =>
      some (.nx ((w64 (r13.1 + 1)), b1, limit2, (decide ((w64 ((w64 (b1 - a1)).tdiv 8)) ≤ (w64 (r13.1 - a1)))), r13.2.1, r14))
     else
      (rec_ r13.2.2 (w64 (r13.1 + 1)) b1 limit2).bind fun r15 =>
      some (.nx (a1, r13.1, limit2, (decide ((w64 ((w64 (b1 - a1)).tdiv 8)) ≤ (w64 (b1 - r13.1)))), r13.2.1, r15))
noncomputable def slices_pdqsortCmpFunc__2_int_w__i_ArrivalsAt_1_F (rec_ : (List A2_Int) → Int → Int → Int → Option ((List A2_Int))) (data : List A2_Int) (a : Int) (b : Int) (limit : Int) : Option ((List A2_Int)) :=
 iter (slices_pdqsortCmpFunc__2_int_w__i_ArrivalsAt_1_L1 rec_) (a, b, limit, true, true, data)
noncomputable def slices_pdqsortCmpFunc__2_int_w__i_ArrivalsAt_1_k : Nat → (List A2_Int) → Int → Int → Int → Option ((List A2_Int))
 | 0 => fun _ _ _ _ => none
 | n + 1 => slices_pdqsortCmpFunc__2_int_w__i_ArrivalsAt_1_F (slices_pdqsortCmpFunc__2_int_w__i_ArrivalsAt_1_k n)
noncomputable def slices_pdqsortCmpFunc__2_int_w__i_ArrivalsAt_1 (data : List A2_Int) (a : Int) (b : Int) (limit : Int) : Option ((List A2_Int)) := slices_pdqsortCmpFunc__2_int_w__i_ArrivalsAt_1_k 4294967296 data a b limit
noncomputable def slices_SortFunc__2_int_w__i_ArrivalsAt_1 (x : List A2_Int) : Option ((List A2_Int)) :=
 (math_bits_Len (⟨(IntKind.u64.wrap ((x.length : Int)))⟩ : IK .u64)).bind fun r =>
 (slices_pdqsortCmpFunc__2_int_w__i_ArrivalsAt_1 x 0 (x.length : Int) r).bind fun r1 =>
 some r1
noncomputable def i_ArrivalsAt_L1 (t : Timetable) (delays : List TripDelay) (stop : Int) (from_ : Int) (to : Int) : Int × (List A2_Int) → Option (Lp (Int × (List A2_Int)) ((List A2_Int)))
 | (v1, out) =>
  if (decide (v1 < (t.Trips.length : Int))) = true then
   ((idx t.Trips v1).bind fun e =>
   (i_lineOf t e).bind fun r2 =>
   (slices_Index_int r2.Stops stop).bind fun r3 =>
   if (decide (r3 ≤ 0)) = true then
    some out
   else
    (i_stopTimes t e).bind fun r6 =>
    (idx r6 r3).bind fun e2 =>
    (i_delayOf delays e.Id).bind fun r7 =>
    (i_within (w64 (e2 + r7)) from_ to).bind fun r8 =>
    if r8 = true then
     (chk (out.length + ([(⟨(w64 (e2 + r7)), e.Id⟩ : A2_Int)] : List A2_Int).length ≤ 4294967296)).bind fun u =>
     some (out ++ ([(⟨(w64 (e2 + r7)), e.Id⟩ : A2_Int)] : List A2_Int))
    else
     some out).bind fun (out1 : List A2_Int) =>
   some (.nx ((w64 (v1 + 1)), out1))
  else
   some (.dn out)
noncomputable def i_ArrivalsAt_L2 (r9 : (List A2_Int)) : Int × (List Int) → Option (Lp (Int × (List Int)) ((List Int)))
 | (v2, v3) =>
  if (decide (v2 < (r9.length : Int))) = true then
   (idx r9 v2).bind fun e3 =>
   (chk (v3.length + ([e3.X1] : List Int).length ≤ 4294967296)).bind fun u1 =>
   some (.nx ((w64 (v2 + 1)), (v3 ++ ([e3.X1] : List Int))))
  else
   some (.dn v3)
noncomputable def i_ArrivalsAt (t : Timetable) (delays : List TripDelay) (stop : Int) (from_ : Int) (to : Int) : Option ((List Int) × Bool) :=
 (i_isBoard t delays stop from_).bind fun r =>
 (if (!r) = true then some true else (i_IsValidTime to).bind fun r1 =>
 if (!r1) = true then some true else some (decide (to < from_))).bind fun (v : Bool) =>
 if v = true then
  some (([] : List Int), false)
 else
  (iter (i_ArrivalsAt_L1 t delays stop from_ to) ((0 : Int), ([] : List A2_Int))).bind fun (out2 : List A2_Int) =>
  (slices_SortFunc__2_int_w__i_ArrivalsAt_1 out2).bind fun r9 =>
  (iter (i_ArrivalsAt_L2 r9) ((0 : Int), ([] : List Int))).bind fun (v4 : List Int) =>
  some (v4, true)
noncomputable def s_ArrivalsAt_L1 (v2 : List Int) (r7 : Int) (r8 : Int) : Int → Option (Lp (Int) (Int))
 | v4 =>
  (if (decide (0 < v4)) = true then (idx v2 (w64 (v4 - 1))).bind fun e2 =>
  some (decide ((w64 (r7 + r8)) < e2)) else some false).bind fun (v5 : Bool) =>
  if v5 = true then
   some (.nx (w64 (v4 - 1)))
  else
   some (.dn v4)
noncomputable def s_ArrivalsAt_L2 (t : Timetable) (delays : List TripDelay) (stop : Int) (from_ : Int) (to : Int) : Int × (List Int) × (List Int) → Option (Lp (Int × (List Int) × (List Int)) ((List Int)))
 | (v1, m, v2) =>
  if (decide (v1 < (t.Trips.length : Int))) = true then
   ((s_l5Line t v1).bind fun r3 =>
   (s_l2Place r3 stop).bind fun r4 =>
   if (decide (r4 < 1)) = true then
    some (m, v2)
   else
    (s_l5At t v1 r4).bind fun r7 =>
    (idx t.Trips v1).bind fun e1 =>
    (s_l23Delay delays e1.Id).bind fun r8 =>
    (s_l1In (w64 (r7 + r8)) from_ to).bind fun r9 =>
    if (!r9) = true then
     some (m, v2)
    else
     (iter (s_ArrivalsAt_L1 v2 r7 r8) (m.length : Int)).bind fun (v6 : Int) =>
     (chk ((0 : Int) ≤ 0 ∧ 0 ≤ v6 ∧ v6 ≤ (m.length : Int))).bind fun u5 =>
     (chk (([] : List Int).length + ((m.take v6.toNat).drop (0 : Int).toNat).length ≤ 4294967296)).bind fun u6 =>
     (idx t.Trips v1).bind fun e4 =>
     (chk ((([] : List Int) ++ ((m.take v6.toNat).drop (0 : Int).toNat)).length + ([e4.Id] : List Int).length ≤ 4294967296)).bind fun u7 =>
     (chk ((0 : Int) ≤ v6 ∧ v6 ≤ (m.length : Int))).bind fun u8 =>
     (chk (((([] : List Int) ++ ((m.take v6.toNat).drop (0 : Int).toNat)) ++ ([e4.Id] : List Int)).length + (m.drop v6.toNat).length ≤ 4294967296)).bind fun u9 =>
     (chk ((0 : Int) ≤ 0 ∧ 0 ≤ v6 ∧ v6 ≤ (v2.length : Int))).bind fun u15 =>
     (chk (([] : List Int).length + ((v2.take v6.toNat).drop (0 : Int).toNat).length ≤ 4294967296)).bind fun u16 =>
     (chk ((([] : List Int) ++ ((v2.take v6.toNat).drop (0 : Int).toNat)).length + ([(w64 (r7 + r8))] : List Int).length ≤ 4294967296)).bind fun u17 =>
     (chk ((0 : Int) ≤ v6 ∧ v6 ≤ (v2.length : Int))).bind fun u18 =>
     (chk (((([] : List Int) ++ ((v2.take v6.toNat).drop (0 : Int).toNat)) ++ ([(w64 (r7 + r8))] : List Int)).length + (v2.drop v6.toNat).length ≤ 4294967296)).bind fun u19 =>
     some ((((([] : List Int) ++ ((m.take v6.toNat).drop (0 : Int).toNat)) ++ ([e4.Id] : List Int)) ++ (m.drop v6.toNat)), (((([] : List Int) ++ ((v2.take v6.toNat).drop (0 : Int).toNat)) ++ ([(w64 (r7 + r8))] : List Int)) ++ (v2.drop v6.toNat)))).bind fun ((m1, v3) : (List Int) × (List Int)) =>
   some (.nx ((w64 (v1 + 1)), m1, v3))
  else
   some (.dn m)
noncomputable def s_ArrivalsAt (t : Timetable) (delays : List TripDelay) (stop : Int) (from_ : Int) (to : Int) : Option ((List Int) × Bool) :=
 (s_l23Asked t delays stop).bind fun r =>
 (if (!r) = true then some true else (s_l4Time from_).bind fun r1 =>
 if (!r1) = true then some true else (s_l4Time to).bind fun r2 =>
 if (!r2) = true then some true else some (decide (to < from_))).bind fun (v : Bool) =>
 if v = true then
  some (([] : List Int), false)
 else
  (iter (s_ArrivalsAt_L2 t delays stop from_ to) ((0 : Int), ([] : List Int), ([] : List Int))).bind fun (m2 : List Int) =>
  some (m2, true)
noncomputable def v_FnTripDelays_L1 (r2 : (List TripDelay) × Bool) (r3 : (List TripDelay) × Bool) : Int → Option (Lp (Int) (Fl (Bool) (Unit)))
 | back =>
  if (decide (back < (r2.1.length : Int))) = true then
   (idx r2.1 back).bind fun e2 =>
   (idx r3.1 back).bind fun e3 =>
   if (!((e2.Id == e3.Id) && ((e2.Minutes == e3.Minutes) && true))) = true then
    some (.dn (.ret false))
   else
    some (.nx (w64 (back + 1)))
  else
   some (.dn (.go ()))
noncomputable def v_FnTripDelays_L2 (r5 : (List TripDelay) × Bool) (r6 : (List TripDelay) × Bool) : Int → Option (Lp (Int) (Fl (Fl (Bool) (Unit)) (Unit)))
 | u =>
  if (decide (u < (r5.1.length : Int))) = true then
   (idx r5.1 u).bind fun e8 =>
   (idx r6.1 u).bind fun e9 =>
   if (!((e8.Id == e9.Id) && ((e8.Minutes == e9.Minutes) && true))) = true then
    some (.dn (.ret (.ret false)))
   else
    some (.nx (w64 (u + 1)))
  else
   some (.dn (.go ()))
noncomputable def v_FnTripDelays (code : List UInt8) : Option (Bool) :=
 (v_rBig code).bind fun r =>
 if r = true then
  some true
 else
  (s_DrawDelayTrip code).bind fun r1 =>
  (i_DelayTrip r1.1 r1.2.1 r1.2.2.1 r1.2.2.2).bind fun r2 =>
  (s_DelayTrip r1.1 r1.2.1 r1.2.2.1 r1.2.2.2).bind fun r3 =>
  (if (!(r2.2 == r3.2)) = true then some true else some ((r2.1.length : Int) != (r3.1.length : Int))).bind fun (v : Bool) =>
  if v = true then
   some false
  else
   flb (iter (v_FnTripDelays_L1 r2 r3) (0 : Int)) fun (_ : Unit) =>
   flb (if r2.2 = true then
    (i_DelayTrip r1.1 r2.1 r1.2.2.1 (w64 (0 - r1.2.2.2))).bind fun r5 =>
    (i_DelayTrip r1.1 r1.2.1 r1.2.2.1 0).bind fun r6 =>
    (if (!r5.2) = true then some true else if (!r6.2) = true then some true else some ((r5.1.length : Int) != (r6.1.length : Int))).bind fun (v1 : Bool) =>
    if v1 = true then
     some (.ret false)
    else
     flb (iter (v_FnTripDelays_L2 r5 r6) (0 : Int)) fun (_ : Unit) =>
     some (.go ())
   else
    some (.go ())) fun (_ : Unit) =>
   (s_DrawOvertakings code).bind fun r10 =>
   (i_Overtakings r10.1 r10.2.1 r10.2.2).bind fun r11 =>
   (s_Overtakings r10.1 r10.2.1 r10.2.2).bind fun r12 =>
   (if (!(r11.2 == r12.2)) = true then some true else (v_rTable r11.1 r12.1).bind fun r13 =>
   some (!r13)).bind fun (v3 : Bool) =>
   if v3 = true then
    some false
   else
    (i_Overtakings r10.1 ([] : List TripDelay) r10.2.2).bind fun r14 =>
    (if r14.2 = true then some ((r14.1.length : Int) != 0) else some false).bind fun (v4 : Bool) =>
    if v4 = true then
     some false
    else
     (s_DrawArrivalsAt code).bind fun r15 =>
     (i_ArrivalsAt r15.1 r15.2.1 r15.2.2.1 r15.2.2.2.1 r15.2.2.2.2).bind fun r16 =>
     (s_ArrivalsAt r15.1 r15.2.1 r15.2.2.1 r15.2.2.2.1 r15.2.2.2.2).bind fun r17 =>
     (if (r16.2 == r17.2) = true then (v_rInts r16.1 r17.1).bind fun r18 =>
     some r18 else some false).bind fun (t : Bool) =>
     some t
end Go.Proofs.Ytjljkjbdkjjdcaa
