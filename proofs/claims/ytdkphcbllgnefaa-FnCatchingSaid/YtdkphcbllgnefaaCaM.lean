/- Models of the functions that the law reaches: plain Lean; none where the function would panic or not end. Made by program (dec.py). -/
import Derived.Test.YtdkphcbllgnefaaAbC0
namespace Go.Proofs.Ytdkphcbllgnefaa
open Go Go.Ab
set_option maxRecDepth 100000
set_option maxHeartbeats 4000000
set_option linter.unusedVariables false
set_option linter.unusedSimpArgs false
structure l1Cur where
 code_ : List UInt8
 at_ : Int
 seed_ : IK .u64
instance enc_l1Cur : Enc l1Cur := ⟨3, fun x => .agg [Enc.e x.code_, .sc (.int .i64 x.at_), .sc (.int .u64 x.seed_.v)], fun a b h => by
 simp only [D.agg.injEq, List.cons.injEq, and_true] at h
 obtain ⟨a1, a2, a3⟩ := a
 obtain ⟨b1, b2, b3⟩ := b
 obtain ⟨h1, h2, h3⟩ := h
 have q1 := Enc.inj (α := List UInt8) a1 b1 h1
 have q2 := Enc.inj (α := Int) a2 b2 h2
 have q3 := Enc.inj (α := IK .u64) a3 b3 h3
 subst q1; subst q2; subst q3; rfl⟩
structure Line where
 Name : ByteArray
 Stops : List Int
 Runs : List Int
instance enc_Line : Enc Line := ⟨3, fun x => .agg [.sc (.string x.Name), Enc.e x.Stops, Enc.e x.Runs], fun a b h => by
 simp only [D.agg.injEq, List.cons.injEq, and_true] at h
 obtain ⟨a1, a2, a3⟩ := a
 obtain ⟨b1, b2, b3⟩ := b
 obtain ⟨h1, h2, h3⟩ := h
 have q1 := Enc.inj (α := ByteArray) a1 b1 h1
 have q2 := Enc.inj (α := List Int) a2 b2 h2
 have q3 := Enc.inj (α := List Int) a3 b3 h3
 subst q1; subst q2; subst q3; rfl⟩
structure Network where
 Stops : List ByteArray
 Lines : List Line
instance enc_Network : Enc Network := ⟨2, fun x => .agg [Enc.e x.Stops, Enc.e x.Lines], fun a b h => by
 simp only [D.agg.injEq, List.cons.injEq, and_true] at h
 obtain ⟨a1, a2⟩ := a
 obtain ⟨b1, b2⟩ := b
 obtain ⟨h1, h2⟩ := h
 have q1 := Enc.inj (α := List ByteArray) a1 b1 h1
 have q2 := Enc.inj (α := List Line) a2 b2 h2
 subst q1; subst q2; rfl⟩
structure Trip where
 Id : Int
 Line : Int
 Start : Int
instance enc_Trip : Enc Trip := ⟨3, fun x => .agg [.sc (.int .i64 x.Id), .sc (.int .i64 x.Line), .sc (.int .i64 x.Start)], fun a b h => by
 simp only [D.agg.injEq, List.cons.injEq, and_true] at h
 obtain ⟨a1, a2, a3⟩ := a
 obtain ⟨b1, b2, b3⟩ := b
 obtain ⟨h1, h2, h3⟩ := h
 have q1 := Enc.inj (α := Int) a1 b1 h1
 have q2 := Enc.inj (α := Int) a2 b2 h2
 have q3 := Enc.inj (α := Int) a3 b3 h3
 subst q1; subst q2; subst q3; rfl⟩
structure Timetable where
 Network : Network
 Trips : List Trip
instance enc_Timetable : Enc Timetable := ⟨3, fun x => .agg [Enc.e x.Network.Stops, Enc.e x.Network.Lines, Enc.e x.Trips], fun a b h => by
 simp only [D.agg.injEq, List.cons.injEq, and_true] at h
 obtain ⟨⟨a1, a2⟩, a3⟩ := a
 obtain ⟨⟨b1, b2⟩, b3⟩ := b
 obtain ⟨h1, h2, h3⟩ := h
 have q1 := Enc.inj (α := List ByteArray) a1 b1 h1
 have q2 := Enc.inj (α := List Line) a2 b2 h2
 have q3 := Enc.inj (α := List Trip) a3 b3 h3
 subst q1; subst q2; subst q3; rfl⟩
structure Walk where
 A : Int
 B : Int
 Minutes : Int
instance enc_Walk : Enc Walk := ⟨3, fun x => .agg [.sc (.int .i64 x.A), .sc (.int .i64 x.B), .sc (.int .i64 x.Minutes)], fun a b h => by
 simp only [D.agg.injEq, List.cons.injEq, and_true] at h
 obtain ⟨a1, a2, a3⟩ := a
 obtain ⟨b1, b2, b3⟩ := b
 obtain ⟨h1, h2, h3⟩ := h
 have q1 := Enc.inj (α := Int) a1 b1 h1
 have q2 := Enc.inj (α := Int) a2 b2 h2
 have q3 := Enc.inj (α := Int) a3 b3 h3
 subst q1; subst q2; subst q3; rfl⟩
structure Connection where
 Id : Int
 Stop : Int
 Place : Int
 Time : Int
instance enc_Connection : Enc Connection := ⟨4, fun x => .agg [.sc (.int .i64 x.Id), .sc (.int .i64 x.Stop), .sc (.int .i64 x.Place), .sc (.int .i64 x.Time)], fun a b h => by
 simp only [D.agg.injEq, List.cons.injEq, and_true] at h
 obtain ⟨a1, a2, a3, a4⟩ := a
 obtain ⟨b1, b2, b3, b4⟩ := b
 obtain ⟨h1, h2, h3, h4⟩ := h
 have q1 := Enc.inj (α := Int) a1 b1 h1
 have q2 := Enc.inj (α := Int) a2 b2 h2
 have q3 := Enc.inj (α := Int) a3 b3 h3
 have q4 := Enc.inj (α := Int) a4 b4 h4
 subst q1; subst q2; subst q3; subst q4; rfl⟩
instance : BxE l1Cur := ⟨fun x y h => Enc.inj x y (congrArg D.agg h)⟩
instance : BxE Line := ⟨fun x y h => Enc.inj x y (congrArg D.agg h)⟩
instance : BxE Network := ⟨fun x y h => Enc.inj x y (congrArg D.agg h)⟩
instance : BxE Trip := ⟨fun x y h => Enc.inj x y (congrArg D.agg h)⟩
instance : BxE Timetable := ⟨fun x y h => Enc.inj x y (congrArg D.agg h)⟩
instance : BxE Walk := ⟨fun x y h => Enc.inj x y (congrArg D.agg h)⟩
instance : BxE Connection := ⟨fun x y h => Enc.inj x y (congrArg D.agg h)⟩
instance : FlatEnc Trip := ⟨fun _ => flatDB_ok rfl⟩
instance : FlatEnc Walk := ⟨fun _ => flatDB_ok rfl⟩
instance : FlatEnc Connection := ⟨fun _ => flatDB_ok rfl⟩
noncomputable def v_rBig (code : List UInt8) : Option (Bool) :=
 some (decide (65536 < (code.length : Int)))
noncomputable def s_l1Cur_next (c : l1Cur) : Option (Int × l1Cur) :=
 (if (decide (c.at_ < (c.code_.length : Int))) = true then
  (idx c.code_ c.at_).bind fun e1 =>
  some (w64 ((e1.toNat : Int)))
 else
  some (0 : Int)).bind fun (v : Int) =>
 if (decide ((w64 (c.at_ + 1)) ≤ (c.code_.length : Int))) = true then
  some (v, (⟨c.code_, (w64 (c.at_ + 1)), (⟨(IntKind.u64.wrap ((IntKind.u64.wrap ((IntKind.u64.wrap (c.seed_.v * 6364136223846793005)) + (IntKind.u64.wrap (v)))) + 900900))⟩ : IK .u64)⟩ : l1Cur))
 else
  (chk ((0 : Int) ≤ 40)).bind fun u =>
  some ((w64 ((IntKind.u64.wrap ((BitVec.ofInt (IntKind.u64).bits ((IntKind.u64.wrap ((IntKind.u64.wrap ((IntKind.u64.wrap (c.seed_.v * 6364136223846793005)) + (IntKind.u64.wrap (v)))) + 900900)).fdiv (2 ^ (min (40 : Int).toNat (IntKind.u64).bits))) &&& BitVec.ofInt (IntKind.u64).bits 255).toNat : Int)))), (⟨c.code_, (w64 (c.at_ + 1)), (⟨(IntKind.u64.wrap ((IntKind.u64.wrap ((IntKind.u64.wrap (c.seed_.v * 6364136223846793005)) + (IntKind.u64.wrap (v)))) + 900900))⟩ : IK .u64)⟩ : l1Cur))
noncomputable def s_l1Cur_pick (c : l1Cur) (n : Int) : Option (Int × l1Cur) :=
 if (decide (n ≤ 1)) = true then
  some (0, c)
 else
  (s_l1Cur_next c).bind fun r =>
  (if (decide (200 < n)) = true then
   (s_l1Cur_next r.2).bind fun r1 =>
   some ((w64 ((w64 (r.1 * 256)) + r1.1)), r1.2.code_, r1.2.at_, r1.2.seed_.v)
  else
   some (r.1, r.2.code_, r.2.at_, r.2.seed_.v)).bind fun ((v, v1, v2, v3) : Int × (List UInt8) × Int × Int) =>
  (chk ((n : Int) ≠ 0)).bind fun u =>
  some ((v.tmod n), (⟨v1, v2, (⟨v3⟩ : IK .u64)⟩ : l1Cur))
noncomputable def s_l1Num_F (rec_ : Int → Option (ByteArray)) (n : Int) : Option (ByteArray) :=
 if (decide (n < 0)) = true then
  (rec_ (w64 (0 - n))).bind fun r =>
  (chk ((str [45]).size + r.size ≤ 4294967296)).bind fun u =>
  some ((str [45]) ++ r)
 else
  if (decide (n < 10)) = true then
   (chk ((0 : Int) ≤ n ∧ n ≤ (w64 (n + 1)) ∧ (w64 (n + 1)) ≤ ((str [48, 49, 50, 51, 52, 53, 54, 55, 56, 57]).size : Int))).bind fun u1 =>
   some ((str [48, 49, 50, 51, 52, 53, 54, 55, 56, 57]).extract n.toNat (w64 (n + 1)).toNat)
  else
   (chk ((10 : Int) ≠ 0)).bind fun u7 =>
   (rec_ (w64 (n.tdiv 10))).bind fun r2 =>
   (chk ((10 : Int) ≠ 0)).bind fun u8 =>
   (chk ((10 : Int) ≠ 0)).bind fun u9 =>
   (chk ((0 : Int) ≤ (n.tmod 10) ∧ (n.tmod 10) ≤ (w64 ((n.tmod 10) + 1)) ∧ (w64 ((n.tmod 10) + 1)) ≤ ((str [48, 49, 50, 51, 52, 53, 54, 55, 56, 57]).size : Int))).bind fun u10 =>
   (chk (r2.size + ((str [48, 49, 50, 51, 52, 53, 54, 55, 56, 57]).extract (n.tmod 10).toNat (w64 ((n.tmod 10) + 1)).toNat).size ≤ 4294967296)).bind fun u11 =>
   some (r2 ++ ((str [48, 49, 50, 51, 52, 53, 54, 55, 56, 57]).extract (n.tmod 10).toNat (w64 ((n.tmod 10) + 1)).toNat))
noncomputable def s_l1Num_k : Nat → Int → Option (ByteArray)
 | 0 => fun _ => none
 | n + 1 => s_l1Num_F (s_l1Num_k n)
noncomputable def s_l1Num (n : Int) : Option (ByteArray) := s_l1Num_k 4294967296 n
noncomputable def s_l2Place_L1 (x : Line) (stop : Int) : Int → Option (Lp (Int) (Fl (Int) (Unit)))
 | v =>
  if (decide (v < (x.Stops.length : Int))) = true then
   (idx x.Stops v).bind fun e =>
   if (e == stop) = true then
    some (.dn (.ret v))
   else
    some (.nx (w64 (v + 1)))
  else
   some (.dn (.go ()))
noncomputable def s_l2Place (x : Line) (stop : Int) : Option (Int) :=
 flb (iter (s_l2Place_L1 x stop) (0 : Int)) fun (_ : Unit) =>
 some (-1)
noncomputable def s_l1Cur_line_L1 (name : ByteArray) (stops : Int) : Int × Int × (List UInt8) × Int × Int × (List Int) → Option (Lp (Int × Int × (List UInt8) × Int × Int × (List Int)) ((List UInt8) × Int × Int × (List Int)))
 | (v, v1, v2, v3, v4, v5) =>
  if (decide (0 < v1)) = true then
   ((s_l2Place (⟨name, v5, ([] : List Int)⟩ : Line) v).bind fun r2 =>
   if (decide (r2 < 0)) = true then
    (chk (v5.length + ([v] : List Int).length ≤ 4294967296)).bind fun u =>
    some (v5 ++ ([v] : List Int))
   else
    some v5).bind fun (v6 : List Int) =>
   (s_l1Cur_pick (⟨v2, v3, (⟨v4⟩ : IK .u64)⟩ : l1Cur) 2).bind fun r3 =>
   (chk ((stops : Int) ≠ 0)).bind fun u1 =>
   some (.nx (((w64 ((w64 (v + 1)) + r3.1)).tmod stops), (w64 (v1 - 1)), r3.2.code_, r3.2.at_, r3.2.seed_.v, v6))
  else
   some (.dn (v2, v3, v4, v5))
noncomputable def s_l1Cur_line_L2 (v11 : List Int) : Int × (List UInt8) × Int × Int × (List Int) → Option (Lp (Int × (List UInt8) × Int × Int × (List Int)) ((List UInt8) × Int × Int × (List Int)))
 | (v12, v13, v14, v15, v16) =>
  if (decide (v12 < (v11.length : Int))) = true then
   (s_l1Cur_pick (⟨v13, v14, (⟨v15⟩ : IK .u64)⟩ : l1Cur) 12).bind fun r5 =>
   (chk (v16.length + ([(w64 (3 + r5.1))] : List Int).length ≤ 4294967296)).bind fun u7 =>
   some (.nx ((w64 (v12 + 1)), r5.2.code_, r5.2.at_, r5.2.seed_.v, (v16 ++ ([(w64 (3 + r5.1))] : List Int))))
  else
   some (.dn (v13, v14, v15, v16))
noncomputable def s_l1Cur_line (c : l1Cur) (name : ByteArray) (stops : Int) : Option (Line × l1Cur) :=
 (s_l1Cur_pick c stops).bind fun r =>
 (s_l1Cur_pick r.2 3).bind fun r1 =>
 (iter (s_l1Cur_line_L1 name stops) (r.1, (w64 (2 + r1.1)), r1.2.code_, r1.2.at_, r1.2.seed_.v, ([] : List Int))).bind fun ((v7, v8, v9, v10) : (List UInt8) × Int × Int × (List Int)) =>
 (if (decide ((v10.length : Int) < 2)) = true then
  (idx v10 0).bind fun e1 =>
  (chk ((stops : Int) ≠ 0)).bind fun u4 =>
  (chk (v10.length + ([((w64 (e1 + 1)).tmod stops)] : List Int).length ≤ 4294967296)).bind fun u5 =>
  some (v10 ++ ([((w64 (e1 + 1)).tmod stops)] : List Int))
 else
  some v10).bind fun (v11 : List Int) =>
 (iter (s_l1Cur_line_L2 v11) ((1 : Int), v7, v8, v9, ([] : List Int))).bind fun ((v17, v18, v19, v20) : (List UInt8) × Int × Int × (List Int)) =>
 some ((⟨name, v11, v20⟩ : Line), (⟨v17, v18, (⟨v19⟩ : IK .u64)⟩ : l1Cur))
noncomputable def s_l1Cur_line_f_L1 (name : ByteArray) (stops : Int) : Int × Int × (List UInt8) × Int × Int × (List Int) → Option (Lp (Int × Int × (List UInt8) × Int × Int × (List Int)) ((List UInt8) × Int × Int × (List Int)))
 | (v, v1, v2, v3, v4, v5) =>
  if (decide (0 < v1)) = true then
   ((s_l2Place (⟨name, v5, ([] : List Int)⟩ : Line) v).bind fun r2 =>
   if (decide (r2 < 0)) = true then
    (chk (v5.length + ([v] : List Int).length ≤ 4294967296)).bind fun u =>
    some (v5 ++ ([v] : List Int))
   else
    some v5).bind fun (v6 : List Int) =>
   (s_l1Cur_pick (⟨v2, v3, (⟨v4⟩ : IK .u64)⟩ : l1Cur) 2).bind fun r3 =>
   (chk ((stops : Int) ≠ 0)).bind fun u1 =>
   some (.nx (((w64 ((w64 (v + 1)) + r3.1)).tmod stops), (w64 (v1 - 1)), r3.2.code_, r3.2.at_, r3.2.seed_.v, v6))
  else
   some (.dn (v2, v3, v4, v5))
noncomputable def s_l1Cur_line_f_L2 (v11 : List Int) : Int × (List UInt8) × Int × Int × (List Int) → Option (Lp (Int × (List UInt8) × Int × Int × (List Int)) ((List UInt8) × Int × Int × (List Int)))
 | (v12, v13, v14, v15, v16) =>
  if (decide (v12 < (v11.length : Int))) = true then
   (s_l1Cur_pick (⟨v13, v14, (⟨v15⟩ : IK .u64)⟩ : l1Cur) 12).bind fun r5 =>
   (chk (v16.length + ([(w64 (3 + r5.1))] : List Int).length ≤ 4294967296)).bind fun u7 =>
   some (.nx ((w64 (v12 + 1)), r5.2.code_, r5.2.at_, r5.2.seed_.v, (v16 ++ ([(w64 (3 + r5.1))] : List Int))))
  else
   some (.dn (v13, v14, v15, v16))
noncomputable def s_l1Cur_line_f (c : l1Cur) (name : ByteArray) (stops : Int) : Option (Line × l1Cur) :=
 (s_l1Cur_pick c stops).bind fun r =>
 (s_l1Cur_pick r.2 3).bind fun r1 =>
 (iter (s_l1Cur_line_f_L1 name stops) (r.1, (w64 (2 + r1.1)), r1.2.code_, r1.2.at_, r1.2.seed_.v, ([] : List Int))).bind fun ((v7, v8, v9, v10) : (List UInt8) × Int × Int × (List Int)) =>
 (if (decide ((v10.length : Int) < 2)) = true then
  (idx v10 0).bind fun e1 =>
  (chk ((stops : Int) ≠ 0)).bind fun u4 =>
  (chk (v10.length + ([((w64 (e1 + 1)).tmod stops)] : List Int).length ≤ 4294967296)).bind fun u5 =>
  some (v10 ++ ([((w64 (e1 + 1)).tmod stops)] : List Int))
 else
  some v10).bind fun (v11 : List Int) =>
 (iter (s_l1Cur_line_f_L2 v11) ((1 : Int), v7, v8, v9, ([] : List Int))).bind fun ((v17, v18, v19, v20) : (List UInt8) × Int × Int × (List Int)) =>
 some ((⟨name, v11, v20⟩ : Line), (⟨v17, v18, (⟨v19⟩ : IK .u64)⟩ : l1Cur))
noncomputable def s_l1Cur_one (c : l1Cur) (n : Int) : Option (Bool × l1Cur) :=
 (s_l1Cur_pick c n).bind fun r =>
 some ((r.1 == 0), r.2)
noncomputable def s_l2Back_L1 (list : List Int) : Int × (List Int) → Option (Lp (Int × (List Int)) ((List Int)))
 | (v, i) =>
  if (decide (0 ≤ v)) = true then
   (idx list v).bind fun e =>
   (chk (i.length + ([e] : List Int).length ≤ 4294967296)).bind fun u =>
   some (.nx ((w64 (v - 1)), (i ++ ([e] : List Int))))
  else
   some (.dn i)
noncomputable def s_l2Back (list : List Int) : Option ((List Int)) :=
 (iter (s_l2Back_L1 list) ((w64 ((list.length : Int) - 1)), ([] : List Int))).bind fun (i1 : List Int) =>
 some i1
noncomputable def s_l2Back_f_L1 (list : List Int) : Int × (List Int) → Option (Lp (Int × (List Int)) ((List Int)))
 | (v, i) =>
  if (decide (0 ≤ v)) = true then
   (idx list v).bind fun e =>
   (chk (i.length + ([e] : List Int).length ≤ 4294967296)).bind fun u =>
   some (.nx ((w64 (v - 1)), (i ++ ([e] : List Int))))
  else
   some (.dn i)
noncomputable def s_l2Back_f (list : List Int) : Option ((List Int)) :=
 (iter (s_l2Back_f_L1 list) ((w64 ((list.length : Int) - 1)), ([] : List Int))).bind fun (i1 : List Int) =>
 some i1
noncomputable def s_l1Own (l : List Int) : Option ((List Int)) :=
 (chk (([] : List Int).length + l.length ≤ 4294967296)).bind fun u =>
 some (([] : List Int) ++ l)
noncomputable def s_l1Own_f (l : List Int) : Option ((List Int)) :=
 (chk (([] : List Int).length + l.length ≤ 4294967296)).bind fun u =>
 some (([] : List Int) ++ l)
noncomputable def s_l2Own_L1 (n : Network) : Int × (List Line) → Option (Lp (Int × (List Line)) ((List Line)))
 | (v, v1) =>
  if (decide (v < (n.Lines.length : Int))) = true then
   (idx n.Lines v).bind fun e3 =>
   (idx n.Lines v).bind fun e4 =>
   (s_l1Own_f e4.Stops).bind fun r2 =>
   (idx n.Lines v).bind fun e5 =>
   (s_l1Own_f e5.Runs).bind fun r3 =>
   (chk (v1.length + ([(⟨e3.Name, r2, r3⟩ : Line)] : List Line).length ≤ 4294967296)).bind fun u2 =>
   some (.nx ((w64 (v + 1)), (v1 ++ ([(⟨e3.Name, r2, r3⟩ : Line)] : List Line))))
  else
   some (.dn v1)
noncomputable def s_l2Own (n : Network) : Option (Network) :=
 (chk (([] : List ByteArray).length + n.Stops.length ≤ 4294967296)).bind fun u =>
 (iter (s_l2Own_L1 n) ((0 : Int), ([] : List Line))).bind fun (v2 : List Line) =>
 some (⟨(([] : List ByteArray) ++ n.Stops), v2⟩ : Network)
noncomputable def s_l1Cur_network_L1 (r : Int × l1Cur) : Int × (List UInt8) × Int × Int × (List Line) → Option (Lp (Int × (List UInt8) × Int × Int × (List Line)) ((List UInt8) × Int × Int × (List Line)))
 | (x, v, v1, v2, v3) =>
  if (decide (0 < x)) = true then
   (s_l1Num x).bind fun r4 =>
   (chk ((str [108]).size + r4.size ≤ 4294967296)).bind fun u3 =>
   (s_l1Cur_line_f (⟨v, v1, (⟨v2⟩ : IK .u64)⟩ : l1Cur) ((str [108]) ++ r4) (w64 (2 + r.1))).bind fun r5 =>
   (chk (v3.length + ([r5.1] : List Line).length ≤ 4294967296)).bind fun u4 =>
   some (.nx ((w64 (x - 1)), r5.2.code_, r5.2.at_, r5.2.seed_.v, (v3 ++ ([r5.1] : List Line))))
  else
   some (.dn (v, v1, v2, v3))
noncomputable def s_l1Cur_network (c : l1Cur) : Option (Network × l1Cur) :=
 (s_l1Cur_pick c 5).bind fun r =>
 (chk ((0 : Int) ≤ 0 ∧ 0 ≤ (w64 (2 + r.1)) ∧ (w64 (2 + r.1)) ≤ (([(str [112, 111, 114, 116]), (str [109, 105, 108, 108]), (str [112, 97, 114, 107]), (str [104, 97, 108, 108]), (str [100, 111, 99, 107]), (str [102, 97, 105, 114])] : List ByteArray).length : Int))).bind fun u =>
 (s_l1Cur_pick r.2 3).bind fun r1 =>
 (iter (s_l1Cur_network_L1 r) ((w64 (1 + r1.1)), r1.2.code_, r1.2.at_, r1.2.seed_.v, ([] : List Line))).bind fun ((v4, v5, v6, v7) : (List UInt8) × Int × Int × (List Line)) =>
 ((s_l1Cur_one (⟨v4, v5, (⟨v6⟩ : IK .u64)⟩ : l1Cur) 2).bind fun r6 =>
 if r6.1 = true then
  (idx v7 0).bind fun e =>
  (s_l2Back_f e.Stops).bind fun r9 =>
  (s_l2Back_f e.Runs).bind fun r10 =>
  (chk (v7.length + ([(⟨(str [114, 49]), r9, r10⟩ : Line)] : List Line).length ≤ 4294967296)).bind fun u6 =>
  some (r6.2.code_, r6.2.at_, r6.2.seed_.v, (v7 ++ ([(⟨(str [114, 49]), r9, r10⟩ : Line)] : List Line)))
 else
  some (r6.2.code_, r6.2.at_, r6.2.seed_.v, v7)).bind fun ((v8, v9, v10, v11) : (List UInt8) × Int × Int × (List Line)) =>
 (s_l2Own (⟨((([(str [112, 111, 114, 116]), (str [109, 105, 108, 108]), (str [112, 97, 114, 107]), (str [104, 97, 108, 108]), (str [100, 111, 99, 107]), (str [102, 97, 105, 114])] : List ByteArray).take (w64 (2 + r.1)).toNat).drop (0 : Int).toNat), v11⟩ : Network)).bind fun r11 =>
 some ((⟨r11.Stops, r11.Lines⟩ : Network), (⟨v8, v9, (⟨v10⟩ : IK .u64)⟩ : l1Cur))
noncomputable def s_l1Cur_timetable_L1 (r : Network × l1Cur) : Int × Int × (List UInt8) × Int × Int × (List Trip) → Option (Lp (Int × Int × (List UInt8) × Int × Int × (List Trip)) ((List UInt8) × Int × Int × (List Trip)))
 | (n, v, v1, v2, v3, v4) =>
  if (decide (0 < v)) = true then
   (s_l1Cur_pick (⟨v1, v2, (⟨v3⟩ : IK .u64)⟩ : l1Cur) 3).bind fun r2 =>
   (s_l1Cur_pick r2.2 (r.1.Lines.length : Int)).bind fun r5 =>
   (s_l1Cur_pick r5.2 24).bind fun r6 =>
   (chk (v4.length + ([(⟨(w64 ((w64 (n + 1)) + r2.1)), r5.1, (w64 (360 + (w64 (5 * r6.1))))⟩ : Trip)] : List Trip).length ≤ 4294967296)).bind fun u1 =>
   some (.nx ((w64 ((w64 (n + 1)) + r2.1)), (w64 (v - 1)), r6.2.code_, r6.2.at_, r6.2.seed_.v, (v4 ++ ([(⟨(w64 ((w64 (n + 1)) + r2.1)), r5.1, (w64 (360 + (w64 (5 * r6.1))))⟩ : Trip)] : List Trip))))
  else
   some (.dn (v1, v2, v3, v4))
noncomputable def s_l1Cur_timetable (c : l1Cur) : Option (Timetable × l1Cur) :=
 (s_l1Cur_network c).bind fun r =>
 (s_l1Cur_pick r.2 8).bind fun r1 =>
 (iter (s_l1Cur_timetable_L1 r) ((0 : Int), r1.1, r1.2.code_, r1.2.at_, r1.2.seed_.v, ([] : List Trip))).bind fun ((v5, v6, v7, v8) : (List UInt8) × Int × Int × (List Trip)) =>
 some ((⟨(⟨r.1.Stops, r.1.Lines⟩ : Network), v8⟩ : Timetable), (⟨v5, v6, (⟨v7⟩ : IK .u64)⟩ : l1Cur))
noncomputable def s_l1Cur_among (c : l1Cur) (list : List Int) : Option (Int × l1Cur) :=
 (s_l1Cur_pick c (list.length : Int)).bind fun r =>
 (idx list r.1).bind fun e =>
 some (e, r.2)
noncomputable def s_l1Cur_of (c : l1Cur) (list : List ByteArray) : Option (ByteArray × l1Cur) :=
 (s_l1Cur_pick c (list.length : Int)).bind fun r =>
 (idx list r.1).bind fun e =>
 some (e, r.2)
noncomputable def s_l1Cur_of_w (c : l1Cur) (list : List ByteArray) : Option (ByteArray × l1Cur) :=
 (s_l1Cur_pick c (list.length : Int)).bind fun r =>
 (idx list r.1).bind fun e =>
 some (e, r.2)
noncomputable def s_l2Own_t_L1 (n : Network) : Int × (List Line) → Option (Lp (Int × (List Line)) ((List Line)))
 | (v, v1) =>
  if (decide (v < (n.Lines.length : Int))) = true then
   (idx n.Lines v).bind fun e3 =>
   (idx n.Lines v).bind fun e4 =>
   (s_l1Own e4.Stops).bind fun r2 =>
   (idx n.Lines v).bind fun e5 =>
   (s_l1Own e5.Runs).bind fun r3 =>
   (chk (v1.length + ([(⟨e3.Name, r2, r3⟩ : Line)] : List Line).length ≤ 4294967296)).bind fun u2 =>
   some (.nx ((w64 (v + 1)), (v1 ++ ([(⟨e3.Name, r2, r3⟩ : Line)] : List Line))))
  else
   some (.dn v1)
noncomputable def s_l2Own_t (n : Network) : Option (Network) :=
 (chk (([] : List ByteArray).length + n.Stops.length ≤ 4294967296)).bind fun u =>
 (iter (s_l2Own_t_L1 n) ((0 : Int), ([] : List Line))).bind fun (v2 : List Line) =>
 some (⟨(([] : List ByteArray) ++ n.Stops), v2⟩ : Network)
noncomputable def s_l1Cur_network_t_L1 (r : Int × l1Cur) : Int × (List UInt8) × Int × Int × (List Line) → Option (Lp (Int × (List UInt8) × Int × Int × (List Line)) ((List UInt8) × Int × Int × (List Line)))
 | (x, v, v1, v2, v3) =>
  if (decide (0 < x)) = true then
   (s_l1Num x).bind fun r4 =>
   (chk ((str [108]).size + r4.size ≤ 4294967296)).bind fun u3 =>
   (s_l1Cur_line_f (⟨v, v1, (⟨v2⟩ : IK .u64)⟩ : l1Cur) ((str [108]) ++ r4) (w64 (2 + r.1))).bind fun r5 =>
   (chk (v3.length + ([r5.1] : List Line).length ≤ 4294967296)).bind fun u4 =>
   some (.nx ((w64 (x - 1)), r5.2.code_, r5.2.at_, r5.2.seed_.v, (v3 ++ ([r5.1] : List Line))))
  else
   some (.dn (v, v1, v2, v3))
noncomputable def s_l1Cur_network_t (c : l1Cur) : Option (Network × l1Cur) :=
 (s_l1Cur_pick c 5).bind fun r =>
 (chk ((0 : Int) ≤ 0 ∧ 0 ≤ (w64 (2 + r.1)) ∧ (w64 (2 + r.1)) ≤ (([(str [112, 111, 114, 116]), (str [109, 105, 108, 108]), (str [112, 97, 114, 107]), (str [104, 97, 108, 108]), (str [100, 111, 99, 107]), (str [102, 97, 105, 114])] : List ByteArray).length : Int))).bind fun u =>
 (s_l1Cur_pick r.2 3).bind fun r1 =>
 (iter (s_l1Cur_network_t_L1 r) ((w64 (1 + r1.1)), r1.2.code_, r1.2.at_, r1.2.seed_.v, ([] : List Line))).bind fun ((v4, v5, v6, v7) : (List UInt8) × Int × Int × (List Line)) =>
 ((s_l1Cur_one (⟨v4, v5, (⟨v6⟩ : IK .u64)⟩ : l1Cur) 2).bind fun r6 =>
 if r6.1 = true then
  (idx v7 0).bind fun e =>
  (s_l2Back_f e.Stops).bind fun r9 =>
  (s_l2Back_f e.Runs).bind fun r10 =>
  (chk (v7.length + ([(⟨(str [114, 49]), r9, r10⟩ : Line)] : List Line).length ≤ 4294967296)).bind fun u6 =>
  some (r6.2.code_, r6.2.at_, r6.2.seed_.v, (v7 ++ ([(⟨(str [114, 49]), r9, r10⟩ : Line)] : List Line)))
 else
  some (r6.2.code_, r6.2.at_, r6.2.seed_.v, v7)).bind fun ((v8, v9, v10, v11) : (List UInt8) × Int × Int × (List Line)) =>
 (s_l2Own_t (⟨((([(str [112, 111, 114, 116]), (str [109, 105, 108, 108]), (str [112, 97, 114, 107]), (str [104, 97, 108, 108]), (str [100, 111, 99, 107]), (str [102, 97, 105, 114])] : List ByteArray).take (w64 (2 + r.1)).toNat).drop (0 : Int).toNat), v11⟩ : Network)).bind fun r11 =>
 some ((⟨r11.Stops, r11.Lines⟩ : Network), (⟨v8, v9, (⟨v10⟩ : IK .u64)⟩ : l1Cur))
noncomputable def s_l1Cur_among_w (c : l1Cur) (list : List Int) : Option (Int × l1Cur) :=
 (s_l1Cur_pick c (list.length : Int)).bind fun r =>
 (idx list r.1).bind fun e =>
 some (e, r.2)
noncomputable def s_l1Cur_anyNetwork_L1 (r : Network × l1Cur) : Int × (List UInt8) × Int × Int × (List Line) → Option (Lp (Int × (List UInt8) × Int × Int × (List Line)) ((List UInt8) × Int × Int × (List Line)))
 | (v7, v8, v9, v10, v11) =>
  (s_l1Cur_pick (⟨v8, v9, (⟨v10⟩ : IK .u64)⟩ : l1Cur) 2).bind fun r16 =>
  (if (decide ((v11.length : Int) < (w64 (5 + r16.1)))) = true then some (decide (v7 < 7)) else some false).bind fun (v12 : Bool) =>
  if v12 = true then
   (s_l1Num v7).bind fun r19 =>
   (chk ((str [120]).size + r19.size ≤ 4294967296)).bind fun u3 =>
   (s_l1Cur_line r16.2 ((str [120]) ++ r19) (r.1.Stops.length : Int)).bind fun r20 =>
   (chk (v11.length + ([(⟨r20.1.Name, r20.1.Stops, r20.1.Runs⟩ : Line)] : List Line).length ≤ 4294967296)).bind fun u4 =>
   some (.nx ((w64 (v7 + 1)), r20.2.code_, r20.2.at_, r20.2.seed_.v, (v11 ++ ([(⟨r20.1.Name, r20.1.Stops, r20.1.Runs⟩ : Line)] : List Line))))
  else
   some (.dn (r16.2.code_, r16.2.at_, r16.2.seed_.v, v11))
noncomputable def s_l1Cur_anyNetwork (c : l1Cur) : Option (Network × l1Cur) :=
 (s_l1Cur_network_t c).bind fun r =>
 (s_l1Cur_pick r.2 (r.1.Lines.length : Int)).bind fun r1 =>
 (idx r.1.Lines r1.1).bind fun e =>
 flb ((s_l1Cur_pick r1.2 24).bind fun r2 =>
 if (r2.1 == 0) = true then
  (s_l1Cur_of_w r2.2 ([(str [109, 105, 108, 108]), (str []), (str [65]), (str [97, 98, 99, 100, 101, 102, 103, 104]), (str [97, 98, 99, 100, 101, 102, 103, 104, 105])] : List ByteArray)).bind fun r4 =>
  (idx r.1.Stops 0).bind fun e2 =>
  some (.go (r4.2.code_, r4.2.at_, r4.2.seed_.v, e.Name, (r.1.Stops.set (0 : Int).toNat r4.1), r.1.Lines, e.Runs))
 else
  if (r2.1 == 1) = true then
   (s_l1Cur_of_w r2.2 ([(str [114, 49]), (str [108, 49]), (str []), (str [88])] : List ByteArray)).bind fun r5 =>
   some (.go (r5.2.code_, r5.2.at_, r5.2.seed_.v, r5.1, r.1.Stops, r.1.Lines, e.Runs))
  else
   if (r2.1 == 2) = true then
    (s_l1Cur_pick r2.2 (e.Stops.length : Int)).bind fun r8 =>
    (s_l1Cur_pick r8.2 10).bind fun r9 =>
    (idx e.Stops r8.1).bind fun e4 =>
    some (.go (r9.2.code_, r9.2.at_, r9.2.seed_.v, e.Name, r.1.Stops, (r.1.Lines.set r1.1.toNat (⟨e.Name, (e.Stops.set r8.1.toNat (w64 (r9.1 - 1))), e.Runs⟩ : Line)), ((⟨e.Name, (e.Stops.set r8.1.toNat (w64 (r9.1 - 1))), e.Runs⟩ : Line).Runs)))
   else
    if (r2.1 == 3) = true then
     (s_l1Cur_pick r2.2 (e.Runs.length : Int)).bind fun r12 =>
     (s_l1Cur_among_w r12.2 ([0, 60, 61, (-1)] : List Int)).bind fun r13 =>
     (idx e.Runs r12.1).bind fun e6 =>
     some (.go (r13.2.code_, r13.2.at_, r13.2.seed_.v, e.Name, r.1.Stops, (r.1.Lines.set r1.1.toNat (⟨e.Name, e.Stops, (e.Runs.set r12.1.toNat r13.1)⟩ : Line)), ((⟨e.Name, e.Stops, (e.Runs.set r12.1.toNat r13.1)⟩ : Line).Runs)))
    else
     if (r2.1 == 4) = true then
      (chk (e.Runs.length + ([3] : List Int).length ≤ 4294967296)).bind fun u =>
      some (.go (r2.2.code_, r2.2.at_, r2.2.seed_.v, e.Name, r.1.Stops, r.1.Lines, (e.Runs ++ ([3] : List Int))))
     else
      if (r2.1 == 5) = true then
       some (.ret ((⟨r.1.Stops, ([] : List Line)⟩ : Network), r2.2))
      else
       if (r2.1 == 6) = true then
        (iter (s_l1Cur_anyNetwork_L1 r) ((0 : Int), r2.2.code_, r2.2.at_, r2.2.seed_.v, r.1.Lines)).bind fun ((v13, v14, v15, v16) : (List UInt8) × Int × Int × (List Line)) =>
        some (.ret ((⟨r.1.Stops, v16⟩ : Network), (⟨v13, v14, (⟨v15⟩ : IK .u64)⟩ : l1Cur)))
       else
        some (.go (r2.2.code_, r2.2.at_, r2.2.seed_.v, e.Name, r.1.Stops, r.1.Lines, e.Runs))) fun ((v, v1, v2, v3, v4, v5, v6) : (List UInt8) × Int × Int × ByteArray × (List ByteArray) × (List Line) × (List Int)) =>
 (idx v5 r1.1).bind fun e9 =>
 some ((⟨v4, (v5.set r1.1.toNat (⟨v3, e9.Stops, v6⟩ : Line))⟩ : Network), (⟨v, v1, (⟨v2⟩ : IK .u64)⟩ : l1Cur))
noncomputable def s_l1Cur_anyTimetable_L1 : Int × (List UInt8) × Int × Int × (List Trip) → Option (Lp (Int × (List UInt8) × Int × Int × (List Trip)) ((List UInt8) × Int × Int × (List Trip)))
 | (v8, v9, v10, v11, v12) =>
  (s_l1Cur_pick (⟨v9, v10, (⟨v11⟩ : IK .u64)⟩ : l1Cur) 2).bind fun r8 =>
  (if (decide ((v12.length : Int) < (w64 (12 + r8.1)))) = true then some (decide (v8 < 14)) else some false).bind fun (v13 : Bool) =>
  if v13 = true then
   (chk (v12.length + ([(⟨(w64 (100 + v8)), 0, (w64 (400 + v8))⟩ : Trip)] : List Trip).length ≤ 4294967296)).bind fun u =>
   some (.nx ((w64 (v8 + 1)), r8.2.code_, r8.2.at_, r8.2.seed_.v, (v12 ++ ([(⟨(w64 (100 + v8)), 0, (w64 (400 + v8))⟩ : Trip)] : List Trip))))
  else
   some (.dn (r8.2.code_, r8.2.at_, r8.2.seed_.v, v12))
noncomputable def s_l1Cur_anyTimetable (c : l1Cur) : Option (Timetable × l1Cur) :=
 (s_l1Cur_timetable c).bind fun r =>
 if ((r.1.Trips.length : Int) == 0) = true then
  some ((⟨(⟨r.1.Network.Stops, r.1.Network.Lines⟩ : Network), r.1.Trips⟩ : Timetable), r.2)
 else
  (s_l1Cur_pick r.2 (r.1.Trips.length : Int)).bind fun r1 =>
  (idx r.1.Trips r1.1).bind fun e =>
  flb ((s_l1Cur_pick r1.2 24).bind fun r2 =>
  if (r2.1 == 0) = true then
   (s_l1Cur_among r2.2 ([0, 999, 1000, 2] : List Int)).bind fun r3 =>
   some (.go (r3.2.code_, r3.2.at_, r3.2.seed_.v, r.1.Network.Lines, r3.1, e.Line, e.Start, r.1.Network.Stops))
  else
   if (r2.1 == 1) = true then
    (s_l1Cur_pick r2.2 7).bind fun r4 =>
    some (.go (r4.2.code_, r4.2.at_, r4.2.seed_.v, r.1.Network.Lines, e.Id, (w64 (r4.1 - 1)), e.Start, r.1.Network.Stops))
   else
    if (r2.1 == 2) = true then
     (s_l1Cur_among r2.2 ([(-1), 0, 1799, 1798, 1800] : List Int)).bind fun r5 =>
     some (.go (r5.2.code_, r5.2.at_, r5.2.seed_.v, r.1.Network.Lines, e.Id, e.Line, r5.1, r.1.Network.Stops))
    else
     if (r2.1 == 3) = true then
      (s_l1Cur_anyNetwork r2.2).bind fun r6 =>
      some (.go (r6.2.code_, r6.2.at_, r6.2.seed_.v, r6.1.Lines, e.Id, e.Line, e.Start, r6.1.Stops))
     else
      if (r2.1 == 4) = true then
       (iter (s_l1Cur_anyTimetable_L1) ((0 : Int), r2.2.code_, r2.2.at_, r2.2.seed_.v, r.1.Trips)).bind fun ((v14, v15, v16, v17) : (List UInt8) × Int × Int × (List Trip)) =>
       some (.ret ((⟨(⟨r.1.Network.Stops, r.1.Network.Lines⟩ : Network), v17⟩ : Timetable), (⟨v14, v15, (⟨v16⟩ : IK .u64)⟩ : l1Cur)))
      else
       some (.go (r2.2.code_, r2.2.at_, r2.2.seed_.v, r.1.Network.Lines, e.Id, e.Line, e.Start, r.1.Network.Stops))) fun ((v, v1, v2, v3, v4, v5, v6, v7) : (List UInt8) × Int × Int × (List Line) × Int × Int × Int × (List ByteArray)) =>
  (idx r.1.Trips r1.1).bind fun e2 =>
  some ((⟨(⟨v7, v3⟩ : Network), (r.1.Trips.set r1.1.toNat (⟨v4, v5, v6⟩ : Trip))⟩ : Timetable), (⟨v, v1, (⟨v2⟩ : IK .u64)⟩ : l1Cur))
noncomputable def s_l1Cur_walks_L1 (n : Network) (v : Int) : Int × (List UInt8) × Int × Int × (List Walk) → Option (Lp (Int × (List UInt8) × Int × Int × (List Walk)) ((List UInt8) × Int × Int × (List Walk)))
 | (v4, v5, v6, v7, b1) =>
  if (decide (v4 < (n.Stops.length : Int))) = true then
   ((s_l1Cur_one (⟨v5, v6, (⟨v7⟩ : IK .u64)⟩ : l1Cur) 3).bind fun r =>
   (if r.1 = true then some (decide ((b1.length : Int) < 12)) else some false).bind fun (v11 : Bool) =>
   if v11 = true then
    (s_l1Cur_among_w r.2 ([1, 2, 3, 5, 8, 20] : List Int)).bind fun r1 =>
    (chk (b1.length + ([(⟨v, v4, r1.1⟩ : Walk)] : List Walk).length ≤ 4294967296)).bind fun u =>
    some (r1.2.code_, r1.2.at_, r1.2.seed_.v, (b1 ++ ([(⟨v, v4, r1.1⟩ : Walk)] : List Walk)))
   else
    some (r.2.code_, r.2.at_, r.2.seed_.v, b1)).bind fun ((v8, v9, v10, b2) : (List UInt8) × Int × Int × (List Walk)) =>
   some (.nx ((w64 (v4 + 1)), v8, v9, v10, b2))
  else
   some (.dn (v5, v6, v7, b1))
noncomputable def s_l1Cur_walks_L2 (n : Network) : Int × (List UInt8) × Int × Int × (List Walk) → Option (Lp (Int × (List UInt8) × Int × Int × (List Walk)) ((List UInt8) × Int × Int × (List Walk)))
 | (v, v1, v2, v3, b) =>
  if (decide (v < (n.Stops.length : Int))) = true then
   (iter (s_l1Cur_walks_L1 n v) ((w64 (v + 1)), v1, v2, v3, b)).bind fun ((v12, v13, v14, b3) : (List UInt8) × Int × Int × (List Walk)) =>
   some (.nx ((w64 (v + 1)), v12, v13, v14, b3))
  else
   some (.dn (v1, v2, v3, b))
noncomputable def s_l1Cur_walks (c : l1Cur) (n : Network) : Option ((List Walk) × l1Cur) :=
 (iter (s_l1Cur_walks_L2 n) ((0 : Int), c.code_, c.at_, c.seed_.v, ([] : List Walk))).bind fun ((v15, v16, v17, b4) : (List UInt8) × Int × Int × (List Walk)) =>
 ((s_l1Cur_pick (⟨v15, v16, (⟨v17⟩ : IK .u64)⟩ : l1Cur) 40).bind fun r2 =>
 if (r2.1 == 0) = true then
  (s_l1Cur_among_w r2.2 ([0, 1, 8] : List Int)).bind fun r3 =>
  (chk (b4.length + ([(⟨0, r3.1, 5⟩ : Walk)] : List Walk).length ≤ 4294967296)).bind fun u1 =>
  some (r3.2.code_, r3.2.at_, r3.2.seed_.v, (b4 ++ ([(⟨0, r3.1, 5⟩ : Walk)] : List Walk)))
 else
  if (r2.1 == 1) = true then
   (s_l1Cur_among_w r2.2 ([0, 120, 121] : List Int)).bind fun r5 =>
   (chk (b4.length + ([(⟨(w64 ((n.Stops.length : Int) - 2)), (w64 ((n.Stops.length : Int) - 1)), r5.1⟩ : Walk)] : List Walk).length ≤ 4294967296)).bind fun u3 =>
   some (r5.2.code_, r5.2.at_, r5.2.seed_.v, (b4 ++ ([(⟨(w64 ((n.Stops.length : Int) - 2)), (w64 ((n.Stops.length : Int) - 1)), r5.1⟩ : Walk)] : List Walk)))
  else
   some (r2.2.code_, r2.2.at_, r2.2.seed_.v, b4)).bind fun ((v18, v19, v20, b5) : (List UInt8) × Int × Int × (List Walk)) =>
 some (b5, (⟨v18, v19, (⟨v20⟩ : IK .u64)⟩ : l1Cur))
noncomputable def s_l1Cur_time (c : l1Cur) : Option (Int × l1Cur) :=
 (s_l1Cur_one c 16).bind fun r =>
 if r.1 = true then
  (s_l1Cur_among r.2 ([0, 1799, 1800, (-1), 1440, 1439] : List Int)).bind fun r1 =>
  some (r1.1, r1.2)
 else
  (s_l1Cur_pick r.2 240).bind fun r2 =>
  some ((w64 (360 + r2.1)), r2.2)
noncomputable def s_DrawCatchTrips (code : List UInt8) : Option (Timetable × (List Walk) × Int × Int) :=
 (s_l1Cur_anyTimetable (⟨code, 0, (⟨0⟩ : IK .u64)⟩ : l1Cur)).bind fun r =>
 (s_l1Cur_walks r.2 r.1.Network).bind fun r1 =>
 (s_l1Cur_time r1.2).bind fun r2 =>
 ((if (decide (0 < (r.1.Trips.length : Int))) = true then (s_l1Cur_one r2.2 4).bind fun r3 =>
 some ((!r3.1), r3.2.code_, r3.2.at_, r3.2.seed_.v) else some (false, r2.2.code_, r2.2.at_, r2.2.seed_.v)).bind fun ((v4, v5, v6, v7) : Bool × (List UInt8) × Int × Int) =>
 if v4 = true then
  (s_l1Cur_pick (⟨v5, v6, (⟨v7⟩ : IK .u64)⟩ : l1Cur) (r.1.Trips.length : Int)).bind fun r6 =>
  (idx r.1.Trips r6.1).bind fun e1 =>
  (s_l1Cur_pick r6.2 20).bind fun r7 =>
  some ((w64 ((w64 (e1.Start + r7.1)) - 5)), r7.2.code_, r7.2.at_, r7.2.seed_.v)
 else
  some (r2.1, v5, v6, v7)).bind fun ((v, v1, v2, v3) : Int × (List UInt8) × Int × Int) =>
 (s_l1Cur_pick (⟨v1, v2, (⟨v3⟩ : IK .u64)⟩ : l1Cur) (w64 ((r.1.Network.Stops.length : Int) + 1))).bind fun r10 =>
 (s_l1Cur_pick r10.2 12).bind fun r11 =>
 (chk ((11 : Int) ≠ 0)).bind fun u1 =>
 some ((⟨r.1.Network, r.1.Trips⟩ : Timetable), r1.1, (w64 (r10.1 - (w64 (r11.1.tdiv 11)))), v)
noncomputable def i_within (n : Int) (lo : Int) (hi : Int) : Option (Bool) :=
 (if (decide (lo ≤ n)) = true then some (decide (n ≤ hi)) else some false).bind fun (v : Bool) =>
 some v
noncomputable def i_isName_L1 (s : ByteArray) : Int → Option (Lp (Int) (Fl (Bool) (Unit)))
 | v1 =>
  if (decide (v1 < (s.size : Int))) = true then
   (chk ((0 : Int) ≤ v1 ∧ v1 < (s.size : Int))).bind fun u =>
   (if (decide (97 ≤ ((s.data.toList.getD v1.toNat 0).toNat : Int))) = true then (chk ((0 : Int) ≤ v1 ∧ v1 < (s.size : Int))).bind fun u1 =>
   some (decide (((s.data.toList.getD v1.toNat 0).toNat : Int) ≤ 122)) else some false).bind fun (v2 : Bool) =>
   (if (!v2) = true then if (v1 == 0) = true then some true else (chk ((0 : Int) ≤ v1 ∧ v1 < (s.size : Int))).bind fun u2 =>
   if (decide (((s.data.toList.getD v1.toNat 0).toNat : Int) < 48)) = true then some true else (chk ((0 : Int) ≤ v1 ∧ v1 < (s.size : Int))).bind fun u3 =>
   some (decide (57 < ((s.data.toList.getD v1.toNat 0).toNat : Int))) else some false).bind fun (v3 : Bool) =>
   if v3 = true then
    some (.dn (.ret false))
   else
    some (.nx (w64 (v1 + 1)))
  else
   some (.dn (.go ()))
noncomputable def i_isName (s : ByteArray) : Option (Bool) :=
 (if (decide ((s.size : Int) < 1)) = true then some true else some (decide (8 < (s.size : Int)))).bind fun (v : Bool) =>
 if v = true then
  some false
 else
  flb (iter (i_isName_L1 s) (0 : Int)) fun (_ : Unit) =>
  some true
noncomputable def slices_Index_string_L1 (s : List ByteArray) (v : ByteArray) : Int → Option (Lp (Int) (Fl (Int) (Unit)))
 | v1 =>
  if (decide (v1 < (s.length : Int))) = true then
   (idx s v1).bind fun e =>
   if (v.toList == e.toList) = true then
    some (.dn (.ret v1))
   else
    some (.nx (w64 (v1 + 1)))
  else
   some (.dn (.go ()))
noncomputable def slices_Index_string (s : List ByteArray) (v : ByteArray) : Option (Int) :=
 flb (iter (slices_Index_string_L1 s v) (0 : Int)) fun (_ : Unit) =>
 some (-1)
noncomputable def i_areNames_L1 (names : List ByteArray) : Int → Option (Lp (Int) (Fl (Bool) (Unit)))
 | v =>
  if (decide (v < (names.length : Int))) = true then
   (idx names v).bind fun e =>
   (i_isName e).bind fun r =>
   (if (!r) = true then some true else (slices_Index_string names e).bind fun r1 =>
   some (r1 != v)).bind fun (v1 : Bool) =>
   if v1 = true then
    some (.dn (.ret false))
   else
    some (.nx (w64 (v + 1)))
  else
   some (.dn (.go ()))
noncomputable def i_areNames (names : List ByteArray) : Option (Bool) :=
 flb (iter (i_areNames_L1 names) (0 : Int)) fun (_ : Unit) =>
 some true
noncomputable def i_lineNames_L1 (n : Network) : Int × (List ByteArray) → Option (Lp (Int × (List ByteArray)) ((List ByteArray)))
 | (v, i) =>
  if (decide (v < (n.Lines.length : Int))) = true then
   (idx n.Lines v).bind fun e =>
   (idx i v).bind fun e1 =>
   some (.nx ((w64 (v + 1)), (i.set v.toNat e.Name)))
  else
   some (.dn i)
noncomputable def i_lineNames (n : Network) : Option ((List ByteArray)) :=
 (chk ((0 : Int) ≤ (n.Lines.length : Int) ∧ ((n.Lines.length : Int) : Int) ≤ 4294967296)).bind fun u =>
 (iter (i_lineNames_L1 n) ((0 : Int), (List.replicate (n.Lines.length : Int).toNat (ByteArray.empty : ByteArray)))).bind fun (i1 : List ByteArray) =>
 some i1
noncomputable def i_isStop (n : Network) (stop : Int) : Option (Bool) :=
 (if (decide (0 ≤ stop)) = true then some (decide (stop < (n.Stops.length : Int))) else some false).bind fun (v : Bool) =>
 some v
noncomputable def slices_Index_int_L1 (s : List Int) (v : Int) : Int → Option (Lp (Int) (Fl (Int) (Unit)))
 | v1 =>
  if (decide (v1 < (s.length : Int))) = true then
   (idx s v1).bind fun e =>
   if (v == e) = true then
    some (.dn (.ret v1))
   else
    some (.nx (w64 (v1 + 1)))
  else
   some (.dn (.go ()))
noncomputable def slices_Index_int (s : List Int) (v : Int) : Option (Int) :=
 flb (iter (slices_Index_int_L1 s v) (0 : Int)) fun (_ : Unit) =>
 some (-1)
noncomputable def i_isValidLine_L1 (n : Network) (l : Line) : Int → Option (Lp (Int) (Fl (Bool) (Unit)))
 | v1 =>
  if (decide (v1 < (l.Stops.length : Int))) = true then
   (idx l.Stops v1).bind fun e =>
   (i_isStop n e).bind fun r1 =>
   (if (!r1) = true then some true else (slices_Index_int l.Stops e).bind fun r2 =>
   some (r2 != v1)).bind fun (v2 : Bool) =>
   if v2 = true then
    some (.dn (.ret false))
   else
    some (.nx (w64 (v1 + 1)))
  else
   some (.dn (.go ()))
noncomputable def i_isValidLine_L2 (l : Line) : Int → Option (Lp (Int) (Fl (Bool) (Unit)))
 | v3 =>
  if (decide (v3 < (l.Runs.length : Int))) = true then
   (idx l.Runs v3).bind fun e2 =>
   (i_within e2 1 60).bind fun r4 =>
   if (!r4) = true then
    some (.dn (.ret false))
   else
    some (.nx (w64 (v3 + 1)))
  else
   some (.dn (.go ()))
noncomputable def i_isValidLine (n : Network) (l : Line) : Option (Bool) :=
 (i_within (l.Stops.length : Int) 2 6).bind fun r =>
 (if (!r) = true then some true else some ((l.Runs.length : Int) != (w64 ((l.Stops.length : Int) - 1)))).bind fun (v : Bool) =>
 if v = true then
  some false
 else
  flb (iter (i_isValidLine_L1 n l) (0 : Int)) fun (_ : Unit) =>
  flb (iter (i_isValidLine_L2 l) (0 : Int)) fun (_ : Unit) =>
  some true
noncomputable def i_IsValidNetwork_L1 (n : Network) : Int → Option (Lp (Int) (Fl (Bool) (Unit)))
 | v1 =>
  if (decide (v1 < (n.Lines.length : Int))) = true then
   (idx n.Lines v1).bind fun e =>
   (i_isValidLine n e).bind fun r5 =>
   if (!r5) = true then
    some (.dn (.ret false))
   else
    some (.nx (w64 (v1 + 1)))
  else
   some (.dn (.go ()))
noncomputable def i_IsValidNetwork (n : Network) : Option (Bool) :=
 (i_within (n.Stops.length : Int) 2 8).bind fun r =>
 (if (!r) = true then some true else (i_within (n.Lines.length : Int) 1 5).bind fun r1 =>
 if (!r1) = true then some true else (i_areNames n.Stops).bind fun r2 =>
 if (!r2) = true then some true else (i_lineNames n).bind fun r3 =>
 (i_areNames r3).bind fun r4 =>
 some (!r4)).bind fun (v : Bool) =>
 if v = true then
  some false
 else
  flb (iter (i_IsValidNetwork_L1 n) (0 : Int)) fun (_ : Unit) =>
  some true
noncomputable def i_isLine (n : Network) (line : Int) : Option (Bool) :=
 (if (decide (0 ≤ line)) = true then some (decide (line < (n.Lines.length : Int))) else some false).bind fun (v : Bool) =>
 some v
noncomputable def i_IsValidTime (t : Int) : Option (Bool) :=
 (i_within t 0 1799).bind fun r =>
 some r
noncomputable def i_total_L1 (list : List Int) : Int × Int → Option (Lp (Int × Int) (Int))
 | (v, v1) =>
  if (decide (v1 < (list.length : Int))) = true then
   (idx list v1).bind fun e =>
   some (.nx ((w64 (v + e)), (w64 (v1 + 1))))
  else
   some (.dn v)
noncomputable def i_total (list : List Int) : Option (Int) :=
 (iter (i_total_L1 list) ((0 : Int), (0 : Int))).bind fun (v2 : Int) =>
 some v2
noncomputable def i_endOf (t : Timetable) (x : Trip) : Option (Int) :=
 (idx t.Network.Lines x.Line).bind fun e1 =>
 (i_total e1.Runs).bind fun r1 =>
 some (w64 (x.Start + r1))
noncomputable def i_areTrips_L1 (t : Timetable) : Int × Int → Option (Lp (Int × Int) (Fl (Bool) (Unit)))
 | (v, v1) =>
  if (decide (v1 < (t.Trips.length : Int))) = true then
   (idx t.Trips v1).bind fun e =>
   (if (decide (e.Id ≤ v)) = true then some true else if (decide (999 < e.Id)) = true then some true else (i_isLine t.Network e.Line).bind fun r =>
   if (!r) = true then some true else (i_IsValidTime e.Start).bind fun r1 =>
   if (!r1) = true then some true else (i_endOf t e).bind fun r2 =>
   (i_IsValidTime r2).bind fun r3 =>
   some (!r3)).bind fun (v2 : Bool) =>
   if v2 = true then
    some (.dn (.ret false))
   else
    some (.nx (e.Id, (w64 (v1 + 1))))
  else
   some (.dn (.go ()))
noncomputable def i_areTrips (t : Timetable) : Option (Bool) :=
 if (decide (12 < (t.Trips.length : Int))) = true then
  some false
 else
  flb (iter (i_areTrips_L1 t) ((0 : Int), (0 : Int))) fun (_ : Unit) =>
  some true
noncomputable def i_IsValidTimetable (t : Timetable) : Option (Bool) :=
 (i_IsValidNetwork t.Network).bind fun r =>
 (if r = true then (i_areTrips t).bind fun r1 =>
 some r1 else some false).bind fun (v : Bool) =>
 some v
noncomputable def cmp_isNaN_int (x : Int) : Option (Bool) :=
 some (x != x)
noncomputable def cmp_Compare_int (x : Int) (y_ : Int) : Option (Int) :=
 (cmp_isNaN_int x).bind fun r =>
 (cmp_isNaN_int y_).bind fun r1 =>
 if r = true then
  if r1 = true then
   some 0
  else
   some (-1)
 else
  if r1 = true then
   some 1
  else
   if (decide (x < y_)) = true then
    some (-1)
   else
    if (decide (y_ < x)) = true then
     some 1
    else
     some 0
noncomputable def cmp_Or_int_L1 (vals : List Int) : Int → Option (Lp (Int) (Fl (Int) (Unit)))
 | v =>
  if (decide (v < (vals.length : Int))) = true then
   (idx vals v).bind fun e =>
   if (e != 0) = true then
    some (.dn (.ret e))
   else
    some (.nx (w64 (v + 1)))
  else
   some (.dn (.go ()))
noncomputable def cmp_Or_int (vals : List Int) : Option (Int) :=
 flb (iter (cmp_Or_int_L1 vals) (0 : Int)) fun (_ : Unit) =>
 some 0
noncomputable def i_areWalks_L1 (n : Network) (list : List Walk) : Int → Option (Lp (Int) (Fl (Bool) (Unit)))
 | v =>
  if (decide (v < (list.length : Int))) = true then
   (idx list v).bind fun e =>
   (i_isStop n e.A).bind fun r =>
   (if (!r) = true then some true else (i_isStop n e.B).bind fun r1 =>
   if (!r1) = true then some true else if (decide (e.B ≤ e.A)) = true then some true else (i_within e.Minutes 1 120).bind fun r2 =>
   some (!r2)).bind fun (v1 : Bool) =>
   if v1 = true then
    some (.dn (.ret false))
   else
    (if (decide (0 < v)) = true then (idx list (w64 (v - 1))).bind fun e4 =>
    (cmp_Compare_int e4.A e.A).bind fun r7 =>
    (idx list (w64 (v - 1))).bind fun e5 =>
    (cmp_Compare_int e5.B e.B).bind fun r8 =>
    (cmp_Or_int ([r7, r8] : List Int)).bind fun r9 =>
    some (decide (0 ≤ r9)) else some false).bind fun (v2 : Bool) =>
    if v2 = true then
     some (.dn (.ret false))
    else
     some (.nx (w64 (v + 1)))
  else
   some (.dn (.go ()))
noncomputable def i_areWalks (n : Network) (list : List Walk) : Option (Bool) :=
 if (decide (12 < (list.length : Int))) = true then
  some false
 else
  flb (iter (i_areWalks_L1 n list) (0 : Int)) fun (_ : Unit) =>
  some true
noncomputable def i_walkTable_L1 (n : Network) (v : Int) : Int × (List (List Int)) → Option (Lp (Int × (List (List Int))) ((List (List Int))))
 | (v1, j1) =>
  if (decide (v1 < ((List.replicate (n.Stops.length : Int).toNat (0 : Int)).length : Int))) = true then
   (if (v != v1) = true then
    (idx j1 v).bind fun e2 =>
    (idx e2 v1).bind fun e3 =>
    some (j1.set v.toNat (e2.set v1.toNat (-1)))
   else
    some j1).bind fun (j2 : List (List Int)) =>
   some (.nx ((w64 (v1 + 1)), j2))
  else
   some (.dn j1)
noncomputable def i_walkTable_L2 (n : Network) : Int × (List (List Int)) → Option (Lp (Int × (List (List Int))) ((List (List Int))))
 | (v, j) =>
  if (decide (v < ((List.replicate (n.Stops.length : Int).toNat (([] : List Int) : List Int)).length : Int))) = true then
   (chk ((0 : Int) ≤ (n.Stops.length : Int) ∧ ((n.Stops.length : Int) : Int) ≤ 4294967296)).bind fun u1 =>
   (idx j v).bind fun e =>
   (idx (j.set v.toNat (List.replicate (n.Stops.length : Int).toNat (0 : Int))) v).bind fun e1 =>
   (iter (i_walkTable_L1 n v) ((0 : Int), (j.set v.toNat (List.replicate (n.Stops.length : Int).toNat (0 : Int))))).bind fun (j3 : List (List Int)) =>
   some (.nx ((w64 (v + 1)), j3))
  else
   some (.dn j)
noncomputable def i_walkTable_L3 (list : List Walk) : Int × (List (List Int)) → Option (Lp (Int × (List (List Int))) ((List (List Int))))
 | (v2, j5) =>
  if (decide (v2 < (list.length : Int))) = true then
   (idx list v2).bind fun e4 =>
   (idx j5 e4.A).bind fun e10 =>
   (idx j5 e4.B).bind fun e11 =>
   (idx e10 e4.B).bind fun e12 =>
   (idx (j5.set e4.A.toNat (e10.set e4.B.toNat e4.Minutes)) e4.B).bind fun e13 =>
   (idx e13 e4.A).bind fun e14 =>
   some (.nx ((w64 (v2 + 1)), ((j5.set e4.A.toNat (e10.set e4.B.toNat e4.Minutes)).set e4.B.toNat (e13.set e4.A.toNat e4.Minutes))))
  else
   some (.dn j5)
noncomputable def i_walkTable_L4 (n : Network) (v3 : Int) (v4 : Int) : Int × (List (List Int)) → Option (Lp (Int × (List (List Int))) ((List (List Int))))
 | (v5, j9) =>
  if (decide (v5 < (n.Stops.length : Int))) = true then
   ((idx j9 v4).bind fun e15 =>
   (idx e15 v3).bind fun e16 =>
   (if (decide (e16 < 0)) = true then some true else (idx j9 v3).bind fun e17 =>
   (idx e17 v5).bind fun e18 =>
   some (decide (e18 < 0))).bind fun (v6 : Bool) =>
   if v6 = true then
    some j9
   else
    (idx j9 v4).bind fun e23 =>
    (idx e23 v3).bind fun e24 =>
    (idx j9 v3).bind fun e25 =>
    (idx e25 v5).bind fun e26 =>
    (idx j9 v4).bind fun e27 =>
    (idx e23 v5).bind fun e28 =>
    (if (decide (e28 < 0)) = true then some true else (idx j9 v4).bind fun e29 =>
    (idx e23 v5).bind fun e30 =>
    some (decide ((w64 (e24 + e26)) < e30))).bind fun (v7 : Bool) =>
    if v7 = true then
     (idx j9 v4).bind fun e31 =>
     (idx e31 v5).bind fun e32 =>
     some (j9.set v4.toNat (e31.set v5.toNat (w64 (e24 + e26))))
    else
     some j9).bind fun (j10 : List (List Int)) =>
   some (.nx ((w64 (v5 + 1)), j10))
  else
   some (.dn j9)
noncomputable def i_walkTable_L5 (n : Network) (v3 : Int) : Int × (List (List Int)) → Option (Lp (Int × (List (List Int))) ((List (List Int))))
 | (v4, j8) =>
  if (decide (v4 < (n.Stops.length : Int))) = true then
   (iter (i_walkTable_L4 n v3 v4) ((0 : Int), j8)).bind fun (j11 : List (List Int)) =>
   some (.nx ((w64 (v4 + 1)), j11))
  else
   some (.dn j8)
noncomputable def i_walkTable_L6 (n : Network) : Int × (List (List Int)) → Option (Lp (Int × (List (List Int))) ((List (List Int))))
 | (v3, j7) =>
  if (decide (v3 < (n.Stops.length : Int))) = true then
   (iter (i_walkTable_L5 n v3) ((0 : Int), j7)).bind fun (j12 : List (List Int)) =>
   some (.nx ((w64 (v3 + 1)), j12))
  else
   some (.dn j7)
noncomputable def i_walkTable (n : Network) (list : List Walk) : Option ((List (List Int))) :=
 (chk ((0 : Int) ≤ (n.Stops.length : Int) ∧ ((n.Stops.length : Int) : Int) ≤ 4294967296)).bind fun u =>
 (iter (i_walkTable_L2 n) ((0 : Int), (List.replicate (n.Stops.length : Int).toNat (([] : List Int) : List Int)))).bind fun (j4 : List (List Int)) =>
 (iter (i_walkTable_L3 list) ((0 : Int), j4)).bind fun (j6 : List (List Int)) =>
 (iter (i_walkTable_L6 n) ((0 : Int), j6)).bind fun (j13 : List (List Int)) =>
 some j13
noncomputable def i_lineOf (t : Timetable) (x : Trip) : Option (Line) :=
 (idx t.Network.Lines x.Line).bind fun e =>
 some e
noncomputable def i_stopTimes_L1 (r : Line) : Int × (List Int) → Option (Lp (Int × (List Int)) ((List Int)))
 | (v, r1) =>
  if (decide (v < (r.Runs.length : Int))) = true then
   (idx r.Runs v).bind fun e =>
   (idx r1 v).bind fun e1 =>
   (chk (r1.length + ([(w64 (e1 + e))] : List Int).length ≤ 4294967296)).bind fun u =>
   some (.nx ((w64 (v + 1)), (r1 ++ ([(w64 (e1 + e))] : List Int))))
  else
   some (.dn r1)
noncomputable def i_stopTimes (t : Timetable) (x : Trip) : Option ((List Int)) :=
 (i_lineOf t x).bind fun r =>
 (iter (i_stopTimes_L1 r) ((0 : Int), ([x.Start] : List Int))).bind fun (r2 : List Int) =>
 some r2
noncomputable def i_CatchTrips_1 (a : Connection) (b : Connection) : Option (Int) :=
 (cmp_Compare_int a.Time b.Time).bind fun r =>
 some r
noncomputable def slices_insertionSortCmpFunc_Connection_w_L1 (a : Int) (cmp : Connection → Connection → Option (Int)) : Int × (List Connection) → Option (Lp (Int × (List Connection)) ((List Connection)))
 | (v1, data2) =>
  (if (decide (a < v1)) = true then (idx data2 v1).bind fun e2 =>
  (idx data2 (w64 (v1 - 1))).bind fun e3 =>
  (cmp e2 e3).bind fun r1 =>
  some (decide (r1 < 0)) else some false).bind fun (v2 : Bool) =>
  if v2 = true then
   (idx data2 (w64 (v1 - 1))).bind fun e8 =>
   (idx data2 v1).bind fun e9 =>
   (idx data2 v1).bind fun e10 =>
   (idx (data2.set v1.toNat e8) (w64 (v1 - 1))).bind fun e11 =>
   some (.nx ((w64 (v1 - 1)), ((data2.set v1.toNat e8).set (w64 (v1 - 1)).toNat e9)))
  else
   some (.dn data2)
noncomputable def slices_insertionSortCmpFunc_Connection_w_L2 (a : Int) (b : Int) (cmp : Connection → Connection → Option (Int)) : Int × (List Connection) → Option (Lp (Int × (List Connection)) ((List Connection)))
 | (v, data1) =>
  if (decide (v < b)) = true then
   (iter (slices_insertionSortCmpFunc_Connection_w_L1 a cmp) (v, data1)).bind fun (data3 : List Connection) =>
   some (.nx ((w64 (v + 1)), data3))
  else
   some (.dn data1)
noncomputable def slices_insertionSortCmpFunc_Connection_w (data : List Connection) (a : Int) (b : Int) (cmp : Connection → Connection → Option (Int)) : Option ((List Connection)) :=
 iter (slices_insertionSortCmpFunc_Connection_w_L2 a b cmp) ((w64 (a + 1)), data)
noncomputable def slices_insertionSortCmpFunc_Connection_w__i_CatchTrips_1 (data : List Connection) (a : Int) (b : Int) : Option ((List Connection)) :=
 slices_insertionSortCmpFunc_Connection_w data a b (fun (z0 : Connection) (z1 : Connection) => i_CatchTrips_1 z0 z1)
noncomputable def slices_swapRangeCmpFunc_Connection_w_L1 (a : Int) (b : Int) (n : Int) : Int × (List Connection) → Option (Lp (Int × (List Connection)) ((List Connection)))
 | (v, data1) =>
  if (decide (v < n)) = true then
   (idx data1 (w64 (b + v))).bind fun e4 =>
   (idx data1 (w64 (a + v))).bind fun e5 =>
   (idx data1 (w64 (a + v))).bind fun e6 =>
   (idx (data1.set (w64 (a + v)).toNat e4) (w64 (b + v))).bind fun e7 =>
   some (.nx ((w64 (v + 1)), ((data1.set (w64 (a + v)).toNat e4).set (w64 (b + v)).toNat e5)))
  else
   some (.dn data1)
noncomputable def slices_swapRangeCmpFunc_Connection_w (data : List Connection) (a : Int) (b : Int) (n : Int) (cmp : Connection → Connection → Option (Int)) : Option ((List Connection)) :=
 iter (slices_swapRangeCmpFunc_Connection_w_L1 a b n) ((0 : Int), data)
noncomputable def slices_swapRangeCmpFunc_Connection_w__i_CatchTrips_1 (data : List Connection) (a : Int) (b : Int) (n : Int) : Option ((List Connection)) :=
 slices_swapRangeCmpFunc_Connection_w data a b n (fun (z0 : Connection) (z1 : Connection) => i_CatchTrips_1 z0 z1)
noncomputable def slices_rotateCmpFunc_Connection_w_L1 (m : Int) (cmp : Connection → Connection → Option (Int)) : Int × Int × (List Connection) → Option (Lp (Int × Int × (List Connection)) (Int × (List Connection)))
 | (v, v1, data1) =>
  if (v != v1) = true then
   if (decide (v1 < v)) = true then
    (slices_swapRangeCmpFunc_Connection_w data1 (w64 (m - v)) m v1 cmp).bind fun r =>
    some (.nx ((w64 (v - v1)), v1, r))
   else
    (slices_swapRangeCmpFunc_Connection_w data1 (w64 (m - v)) (w64 ((w64 (m + v1)) - v)) v cmp).bind fun r1 =>
    some (.nx (v, (w64 (v1 - v)), r1))
  else
   some (.dn (v, data1))
noncomputable def slices_rotateCmpFunc_Connection_w (data : List Connection) (a : Int) (m : Int) (b : Int) (cmp : Connection → Connection → Option (Int)) : Option ((List Connection)) :=
 (iter (slices_rotateCmpFunc_Connection_w_L1 m cmp) ((w64 (m - a)), (w64 (b - m)), data)).bind fun ((v2, data2) : Int × (List Connection)) =>
 (slices_swapRangeCmpFunc_Connection_w data2 (w64 (m - v2)) m v2 cmp).bind fun r2 =>
 some r2
noncomputable def slices_rotateCmpFunc_Connection_w__i_CatchTrips_1 (data : List Connection) (a : Int) (m : Int) (b : Int) : Option ((List Connection)) :=
 slices_rotateCmpFunc_Connection_w data a m b (fun (z0 : Connection) (z1 : Connection) => i_CatchTrips_1 z0 z1)
noncomputable def slices_symMergeCmpFunc_Connection_w__i_CatchTrips_1_L1 (data : List Connection) (a : Int) : Int × Int → Option (Lp (Int × Int) (Int))
 | (j, h) =>
  if (decide (j < h)) = true then
   (chk ((0 : Int) ≤ 1)).bind fun u =>
   (idx data (w64 (((IntKind.u64.wrap ((w64 (j + h)))).fdiv (2 ^ (min (1 : Int).toNat (IntKind.u64).bits)))))).bind fun e2 =>
   (idx data a).bind fun e3 =>
   (i_CatchTrips_1 e2 e3).bind fun r1 =>
   if (decide (r1 < 0)) = true then
    some (.nx ((w64 ((w64 (((IntKind.u64.wrap ((w64 (j + h)))).fdiv (2 ^ (min (1 : Int).toNat (IntKind.u64).bits))))) + 1)), h))
   else
    some (.nx (j, (w64 (((IntKind.u64.wrap ((w64 (j + h)))).fdiv (2 ^ (min (1 : Int).toNat (IntKind.u64).bits)))))))
  else
   some (.dn j)
noncomputable def slices_symMergeCmpFunc_Connection_w__i_CatchTrips_1_L2 (j1 : Int) : Int × (List Connection) → Option (Lp (Int × (List Connection)) ((List Connection)))
 | (mid, data1) =>
  if (decide (mid < (w64 (j1 - 1)))) = true then
   (idx data1 (w64 (mid + 1))).bind fun e8 =>
   (idx data1 mid).bind fun e9 =>
   (idx data1 mid).bind fun e10 =>
   (idx (data1.set mid.toNat e8) (w64 (mid + 1))).bind fun e11 =>
   some (.nx ((w64 (mid + 1)), ((data1.set mid.toNat e8).set (w64 (mid + 1)).toNat e9)))
  else
   some (.dn data1)
noncomputable def slices_symMergeCmpFunc_Connection_w__i_CatchTrips_1_L3 (data : List Connection) (m : Int) : Int × Int → Option (Lp (Int × Int) (Int))
 | (n, start) =>
  if (decide (n < start)) = true then
   (chk ((0 : Int) ≤ 1)).bind fun u1 =>
   (idx data m).bind fun e14 =>
   (idx data (w64 (((IntKind.u64.wrap ((w64 (n + start)))).fdiv (2 ^ (min (1 : Int).toNat (IntKind.u64).bits)))))).bind fun e15 =>
   (i_CatchTrips_1 e14 e15).bind fun r3 =>
   if (!(decide (r3 < 0))) = true then
    some (.nx ((w64 ((w64 (((IntKind.u64.wrap ((w64 (n + start)))).fdiv (2 ^ (min (1 : Int).toNat (IntKind.u64).bits))))) + 1)), start))
   else
    some (.nx (n, (w64 (((IntKind.u64.wrap ((w64 (n + start)))).fdiv (2 ^ (min (1 : Int).toNat (IntKind.u64).bits)))))))
  else
   some (.dn n)
noncomputable def slices_symMergeCmpFunc_Connection_w__i_CatchTrips_1_L4 (n1 : Int) : Int × (List Connection) → Option (Lp (Int × (List Connection)) ((List Connection)))
 | (p, data3) =>
  if (decide (n1 < p)) = true then
   (idx data3 (w64 (p - 1))).bind fun e20 =>
   (idx data3 p).bind fun e21 =>
   (idx data3 p).bind fun e22 =>
   (idx (data3.set p.toNat e20) (w64 (p - 1))).bind fun e23 =>
   some (.nx ((w64 (p - 1)), ((data3.set p.toNat e20).set (w64 (p - 1)).toNat e21)))
  else
   some (.dn data3)
noncomputable def slices_symMergeCmpFunc_Connection_w__i_CatchTrips_1_L5 (data : List Connection) (a : Int) (m : Int) (b : Int) : Int × Int → Option (Lp (Int × Int) (Int))
 | (v2, v3) =>
  if (decide (v2 < v3)) = true then
   (chk ((0 : Int) ≤ 1)).bind fun u3 =>
   (idx data (w64 ((w64 ((w64 ((w64 (((IntKind.u64.wrap ((w64 (a + b)))).fdiv (2 ^ (min (1 : Int).toNat (IntKind.u64).bits))))) + m)) - 1)) - (w64 (((IntKind.u64.wrap ((w64 (v2 + v3)))).fdiv (2 ^ (min (1 : Int).toNat (IntKind.u64).bits)))))))).bind fun e26 =>
   (idx data (w64 (((IntKind.u64.wrap ((w64 (v2 + v3)))).fdiv (2 ^ (min (1 : Int).toNat (IntKind.u64).bits)))))).bind fun e27 =>
   (i_CatchTrips_1 e26 e27).bind fun r5 =>
   if (!(decide (r5 < 0))) = true then
    some (.nx ((w64 ((w64 (((IntKind.u64.wrap ((w64 (v2 + v3)))).fdiv (2 ^ (min (1 : Int).toNat (IntKind.u64).bits))))) + 1)), v3))
   else
    some (.nx (v2, (w64 (((IntKind.u64.wrap ((w64 (v2 + v3)))).fdiv (2 ^ (min (1 : Int).toNat (IntKind.u64).bits)))))))
  else
   some (.dn v2)
noncomputable def slices_symMergeCmpFunc_Connection_w__i_CatchTrips_1_F (rec_ : (List Connection) → Int → Int → Int → Option ((List Connection))) (data : List Connection) (a : Int) (m : Int) (b : Int) : Option ((List Connection)) :=
 if ((w64 (m - a)) == 1) = true then
  (iter (slices_symMergeCmpFunc_Connection_w__i_CatchTrips_1_L1 data a) (m, b)).bind fun (j1 : Int) =>
  (iter (slices_symMergeCmpFunc_Connection_w__i_CatchTrips_1_L2 j1) (a, data)).bind fun (data2 : List Connection) =>
  some data2
 else
  if ((w64 (b - m)) == 1) = true then
   (iter (slices_symMergeCmpFunc_Connection_w__i_CatchTrips_1_L3 data m) (a, m)).bind fun (n1 : Int) =>
   (iter (slices_symMergeCmpFunc_Connection_w__i_CatchTrips_1_L4 n1) (m, data)).bind fun (data4 : List Connection) =>
   some data4
  else
   (chk ((0 : Int) ≤ 1)).bind fun u2 =>
   (if (decide ((w64 (((IntKind.u64.wrap ((w64 (a + b)))).fdiv (2 ^ (min (1 : Int).toNat (IntKind.u64).bits))))) < m)) = true then
    some ((w64 ((w64 ((w64 (((IntKind.u64.wrap ((w64 (a + b)))).fdiv (2 ^ (min (1 : Int).toNat (IntKind.u64).bits))))) + m)) - b)), (w64 (((IntKind.u64.wrap ((w64 (a + b)))).fdiv (2 ^ (min (1 : Int).toNat (IntKind.u64).bits))))))
   else
    some (a, m)).bind fun ((v, v1) : Int × Int) =>
   (iter (slices_symMergeCmpFunc_Connection_w__i_CatchTrips_1_L5 data a m b) (v, v1)).bind fun (v4 : Int) =>
   ((if (decide (v4 < m)) = true then some (decide (m < (w64 ((w64 ((w64 (((IntKind.u64.wrap ((w64 (a + b)))).fdiv (2 ^ (min (1 : Int).toNat (IntKind.u64).bits))))) + m)) - v4)))) else some false).bind fun (v5 : Bool) =>
   if v5 = true then
    (slices_rotateCmpFunc_Connection_w__i_CatchTrips_1 data v4 m (w64 ((w64 ((w64 (((IntKind.u64.wrap ((w64 (a + b)))).fdiv (2 ^ (min (1 : Int).toNat (IntKind.u64).bits))))) + m)) - v4))).bind fun r6 =>
    some r6
   else
    some data).bind fun (data5 : List Connection) =>
   ((if (decide (a < v4)) = true then some (decide (v4 < (w64 (((IntKind.u64.wrap ((w64 (a + b)))).fdiv (2 ^ (min (1 : Int).toNat (IntKind.u64).bits))))))) else some false).bind fun (v6 : Bool) =>
   if v6 = true then
    (rec_ data5 a v4 (w64 (((IntKind.u64.wrap ((w64 (a + b)))).fdiv (2 ^ (min (1 : Int).toNat (IntKind.u64).bits)))))).bind fun r7 =>
    some r7
   else
    some data5).bind fun (data6 : List Connection) =>
   (if (decide ((w64 (((IntKind.u64.wrap ((w64 (a + b)))).fdiv (2 ^ (min (1 : Int).toNat (IntKind.u64).bits))))) < (w64 ((w64 ((w64 (((IntKind.u64.wrap ((w64 (a + b)))).fdiv (2 ^ (min (1 : Int).toNat (IntKind.u64).bits))))) + m)) - v4)))) = true then some (decide ((w64 ((w64 ((w64 (((IntKind.u64.wrap ((w64 (a + b)))).fdiv (2 ^ (min (1 : Int).toNat (IntKind.u64).bits))))) + m)) - v4)) < b)) else some false).bind fun (v7 : Bool) =>
   if v7 = true then
    (rec_ data6 (w64 (((IntKind.u64.wrap ((w64 (a + b)))).fdiv (2 ^ (min (1 : Int).toNat (IntKind.u64).bits))))) (w64 ((w64 ((w64 (((IntKind.u64.wrap ((w64 (a + b)))).fdiv (2 ^ (min (1 : Int).toNat (IntKind.u64).bits))))) + m)) - v4)) b).bind fun r8 =>
    some r8
   else
    some data6
noncomputable def slices_symMergeCmpFunc_Connection_w__i_CatchTrips_1_k : Nat → (List Connection) → Int → Int → Int → Option ((List Connection))
 | 0 => fun _ _ _ _ => none
 | n + 1 => slices_symMergeCmpFunc_Connection_w__i_CatchTrips_1_F (slices_symMergeCmpFunc_Connection_w__i_CatchTrips_1_k n)
noncomputable def slices_symMergeCmpFunc_Connection_w__i_CatchTrips_1 (data : List Connection) (a : Int) (m : Int) (b : Int) : Option ((List Connection)) := slices_symMergeCmpFunc_Connection_w__i_CatchTrips_1_k 4294967296 data a m b
noncomputable def slices_stableCmpFunc_Connection_w__i_CatchTrips_1_L1 (n : Int) : Int × Int × (List Connection) → Option (Lp (Int × Int × (List Connection)) (Int × (List Connection)))
 | (v, v1, data1) =>
  if (decide (v1 ≤ n)) = true then
   (slices_insertionSortCmpFunc_Connection_w__i_CatchTrips_1 data1 v v1).bind fun r =>
   some (.nx (v1, (w64 (v1 + 20)), r))
  else
   some (.dn (v, data1))
noncomputable def slices_stableCmpFunc_Connection_w__i_CatchTrips_1_L2 (n : Int) (m : Int) : Int × Int × (List Connection) → Option (Lp (Int × Int × (List Connection)) (Int × (List Connection)))
 | (v3, v4, data4) =>
  if (decide (v4 ≤ n)) = true then
   (slices_symMergeCmpFunc_Connection_w__i_CatchTrips_1 data4 v3 (w64 (v3 + m)) v4).bind fun r2 =>
   some (.nx (v4, (w64 (v4 + (w64 (2 * m)))), r2))
  else
   some (.dn (v3, data4))
noncomputable def slices_stableCmpFunc_Connection_w__i_CatchTrips_1_L3 (n : Int) : Int × (List Connection) → Option (Lp (Int × (List Connection)) ((List Connection)))
 | (m, data3) =>
  if (decide (m < n)) = true then
   (iter (slices_stableCmpFunc_Connection_w__i_CatchTrips_1_L2 n m) ((0 : Int), (w64 (2 * m)), data3)).bind fun ((v5, data5) : Int × (List Connection)) =>
   (if (decide ((w64 (v5 + m)) < n)) = true then
    (slices_symMergeCmpFunc_Connection_w__i_CatchTrips_1 data5 v5 (w64 (v5 + m)) n).bind fun r3 =>
    some r3
   else
    some data5).bind fun (data6 : List Connection) =>
   some (.nx ((w64 (m * 2)), data6))
  else
   some (.dn data3)
noncomputable def slices_stableCmpFunc_Connection_w__i_CatchTrips_1 (data : List Connection) (n : Int) : Option ((List Connection)) :=
 (iter (slices_stableCmpFunc_Connection_w__i_CatchTrips_1_L1 n) ((0 : Int), (20 : Int), data)).bind fun ((v2, data2) : Int × (List Connection)) =>
 (slices_insertionSortCmpFunc_Connection_w__i_CatchTrips_1 data2 v2 n).bind fun r1 =>
 iter (slices_stableCmpFunc_Connection_w__i_CatchTrips_1_L3 n) ((20 : Int), r1)
noncomputable def slices_SortStableFunc_Connection_w__i_CatchTrips_1 (x : List Connection) : Option ((List Connection)) :=
 (slices_stableCmpFunc_Connection_w__i_CatchTrips_1 x (x.length : Int)).bind fun r =>
 some r
noncomputable def i_CatchTrips_L1 (stop : Int) (time : Int) (r4 : (List (List Int))) (times : List Connection) (e1 : Trip) (r7 : Line) (r8 : (List Int)) : Int → Option (Lp (Int) ((List Connection)))
 | v2 =>
  if (decide (v2 < (w64 ((r7.Stops.length : Int) - 1)))) = true then
   (idx r7.Stops v2).bind fun e2 =>
   (idx r4 stop).bind fun e7 =>
   (idx e7 e2).bind fun e8 =>
   (if (decide (0 ≤ e8)) = true then (idx r8 v2).bind fun e9 =>
   (idx e7 e2).bind fun e10 =>
   some (decide ((w64 (time + e10)) ≤ e9)) else some false).bind fun (v3 : Bool) =>
   if v3 = true then
    (idx r8 v2).bind fun e12 =>
    (chk (times.length + ([(⟨e1.Id, e2, v2, e12⟩ : Connection)] : List Connection).length ≤ 4294967296)).bind fun u1 =>
    some (.dn (times ++ ([(⟨e1.Id, e2, v2, e12⟩ : Connection)] : List Connection)))
   else
    some (.nx (w64 (v2 + 1)))
  else
   some (.dn times)
noncomputable def i_CatchTrips_L2 (t : Timetable) (stop : Int) (time : Int) (r4 : (List (List Int))) : Int × (List Connection) → Option (Lp (Int × (List Connection)) ((List Connection)))
 | (v1, times) =>
  if (decide (v1 < (t.Trips.length : Int))) = true then
   ((idx t.Trips v1).bind fun e1 =>
   (i_lineOf t e1).bind fun r7 =>
   (i_stopTimes t e1).bind fun r8 =>
   (iter (i_CatchTrips_L1 stop time r4 times e1 r7 r8) (0 : Int)).bind fun (times2 : List Connection) =>
   some times2).bind fun (times1 : List Connection) =>
   some (.nx ((w64 (v1 + 1)), times1))
  else
   some (.dn times)
noncomputable def i_CatchTrips (t : Timetable) (list : List Walk) (stop : Int) (time : Int) : Option ((List Connection) × Bool) :=
 (i_IsValidTimetable t).bind fun r =>
 (if (!r) = true then some true else (i_areWalks t.Network list).bind fun r1 =>
 if (!r1) = true then some true else (i_isStop t.Network stop).bind fun r2 =>
 if (!r2) = true then some true else (i_IsValidTime time).bind fun r3 =>
 some (!r3)).bind fun (v : Bool) =>
 if v = true then
  some (([] : List Connection), false)
 else
  (i_walkTable t.Network list).bind fun r4 =>
  (idx r4 stop).bind fun e =>
  (iter (i_CatchTrips_L2 t stop time r4) ((0 : Int), ([] : List Connection))).bind fun (times3 : List Connection) =>
  (slices_SortStableFunc_Connection_w__i_CatchTrips_1 times3).bind fun r9 =>
  some (r9, true)
noncomputable def s_l1In (x : Int) (a : Int) (b : Int) : Option (Bool) :=
 (if (decide (a ≤ x)) = true then some (decide (x ≤ b)) else some false).bind fun (v : Bool) =>
 some v
noncomputable def s_l2Name_L1 (s : ByteArray) : Int → Option (Lp (Int) (Fl (Bool) (Unit)))
 | v1 =>
  if (decide (v1 < (s.size : Int))) = true then
   (chk ((0 : Int) ≤ v1 ∧ v1 < (s.size : Int))).bind fun u2 =>
   (if (decide (((s.data.toList.getD v1.toNat 0).toNat : Int) < 97)) = true then (chk ((0 : Int) ≤ v1 ∧ v1 < (s.size : Int))).bind fun u3 =>
   if (decide (((s.data.toList.getD v1.toNat 0).toNat : Int) < 48)) = true then some true else (chk ((0 : Int) ≤ v1 ∧ v1 < (s.size : Int))).bind fun u4 =>
   some (decide (57 < ((s.data.toList.getD v1.toNat 0).toNat : Int))) else (chk ((0 : Int) ≤ v1 ∧ v1 < (s.size : Int))).bind fun u5 =>
   if (decide (122 < ((s.data.toList.getD v1.toNat 0).toNat : Int))) = true then (chk ((0 : Int) ≤ v1 ∧ v1 < (s.size : Int))).bind fun u6 =>
   if (decide (((s.data.toList.getD v1.toNat 0).toNat : Int) < 48)) = true then some true else (chk ((0 : Int) ≤ v1 ∧ v1 < (s.size : Int))).bind fun u7 =>
   some (decide (57 < ((s.data.toList.getD v1.toNat 0).toNat : Int))) else some false).bind fun (v2 : Bool) =>
   if v2 = true then
    some (.dn (.ret false))
   else
    some (.nx (w64 (v1 + 1)))
  else
   some (.dn (.go ()))
noncomputable def s_l2Name (s : ByteArray) : Option (Bool) :=
 (s_l1In (s.size : Int) 1 8).bind fun r =>
 (if (!r) = true then some true else (chk ((0 : Int) ≤ 0 ∧ 0 < (s.size : Int))).bind fun u =>
 if (decide (((s.data.toList.getD (0 : Int).toNat 0).toNat : Int) < 97)) = true then some true else (chk ((0 : Int) ≤ 0 ∧ 0 < (s.size : Int))).bind fun u1 =>
 some (decide (122 < ((s.data.toList.getD (0 : Int).toNat 0).toNat : Int)))).bind fun (v : Bool) =>
 if v = true then
  some false
 else
  flb (iter (s_l2Name_L1 s) (0 : Int)) fun (_ : Unit) =>
  some true
noncomputable def s_l2Find_L1 (list : List ByteArray) (name : ByteArray) : Int → Option (Lp (Int) (Fl (Int) (Unit)))
 | v =>
  if (decide (v < (list.length : Int))) = true then
   (idx list v).bind fun e =>
   if (e.toList == name.toList) = true then
    some (.dn (.ret v))
   else
    some (.nx (w64 (v + 1)))
  else
   some (.dn (.go ()))
noncomputable def s_l2Find (list : List ByteArray) (name : ByteArray) : Option (Int) :=
 flb (iter (s_l2Find_L1 list name) (0 : Int)) fun (_ : Unit) =>
 some (-1)
noncomputable def s_l2Line_L1 (x : Line) (stops : Int) : Int → Option (Lp (Int) (Fl (Bool) (Unit)))
 | v1 =>
  if (decide (v1 < (x.Stops.length : Int))) = true then
   (idx x.Stops v1).bind fun e2 =>
   (s_l1In e2 0 (w64 (stops - 1))).bind fun r4 =>
   (if (!r4) = true then some true else (idx x.Stops v1).bind fun e3 =>
   (s_l2Place x e3).bind fun r5 =>
   some (r5 != v1)).bind fun (v2 : Bool) =>
   if v2 = true then
    some (.dn (.ret false))
   else
    some (.nx (w64 (v1 + 1)))
  else
   some (.dn (.go ()))
noncomputable def s_l2Line_L2 (x : Line) : Int → Option (Lp (Int) (Fl (Bool) (Unit)))
 | v3 =>
  if (decide (v3 < (x.Runs.length : Int))) = true then
   (idx x.Runs v3).bind fun e5 =>
   (s_l1In e5 1 60).bind fun r7 =>
   if (!r7) = true then
    some (.dn (.ret false))
   else
    some (.nx (w64 (v3 + 1)))
  else
   some (.dn (.go ()))
noncomputable def s_l2Line (x : Line) (stops : Int) : Option (Bool) :=
 (s_l2Name x.Name).bind fun r =>
 (if (!r) = true then some true else (s_l1In (x.Stops.length : Int) 2 6).bind fun r1 =>
 if (!r1) = true then some true else some ((x.Runs.length : Int) != (w64 ((x.Stops.length : Int) - 1)))).bind fun (v : Bool) =>
 if v = true then
  some false
 else
  flb (iter (s_l2Line_L1 x stops) (0 : Int)) fun (_ : Unit) =>
  flb (iter (s_l2Line_L2 x) (0 : Int)) fun (_ : Unit) =>
  some true
noncomputable def s_l2LineNamed_L1 (n : Network) (name : ByteArray) : Int → Option (Lp (Int) (Fl (Int) (Unit)))
 | v =>
  if (decide (v < (n.Lines.length : Int))) = true then
   (idx n.Lines v).bind fun e =>
   if (e.Name.toList == name.toList) = true then
    some (.dn (.ret v))
   else
    some (.nx (w64 (v + 1)))
  else
   some (.dn (.go ()))
noncomputable def s_l2LineNamed (n : Network) (name : ByteArray) : Option (Int) :=
 flb (iter (s_l2LineNamed_L1 n name) (0 : Int)) fun (_ : Unit) =>
 some (-1)
noncomputable def s_l2Good_L1 (n : Network) : Int → Option (Lp (Int) (Fl (Bool) (Unit)))
 | i =>
  if (decide (i < (n.Stops.length : Int))) = true then
   (idx n.Stops i).bind fun e2 =>
   (s_l2Name e2).bind fun r4 =>
   (if (!r4) = true then some true else (idx n.Stops i).bind fun e3 =>
   (s_l2Find n.Stops e3).bind fun r5 =>
   some (r5 != i)).bind fun (v1 : Bool) =>
   if v1 = true then
    some (.dn (.ret false))
   else
    some (.nx (w64 (i + 1)))
  else
   some (.dn (.go ()))
noncomputable def s_l2Good_L2 (n : Network) : Int → Option (Lp (Int) (Fl (Bool) (Unit)))
 | v2 =>
  if (decide (v2 < (n.Lines.length : Int))) = true then
   (idx n.Lines v2).bind fun e7 =>
   (s_l2Line e7 (n.Stops.length : Int)).bind fun r9 =>
   (if (!r9) = true then some true else (idx n.Lines v2).bind fun e8 =>
   (s_l2LineNamed n e8.Name).bind fun r10 =>
   some (r10 != v2)).bind fun (v3 : Bool) =>
   if v3 = true then
    some (.dn (.ret false))
   else
    some (.nx (w64 (v2 + 1)))
  else
   some (.dn (.go ()))
noncomputable def s_l2Good (n : Network) : Option (Bool) :=
 (s_l1In (n.Stops.length : Int) 2 8).bind fun r =>
 (if (!r) = true then some true else (s_l1In (n.Lines.length : Int) 1 5).bind fun r1 =>
 some (!r1)).bind fun (v : Bool) =>
 if v = true then
  some false
 else
  flb (iter (s_l2Good_L1 n) (0 : Int)) fun (_ : Unit) =>
  flb (iter (s_l2Good_L2 n) (0 : Int)) fun (_ : Unit) =>
  some true
noncomputable def s_l4Time (t : Int) : Option (Bool) :=
 (s_l1In t 0 1799).bind fun r =>
 some r
noncomputable def s_l5Line (t : Timetable) (i : Int) : Option (Line) :=
 (idx t.Trips i).bind fun e2 =>
 (idx t.Network.Lines e2.Line).bind fun e3 =>
 some e3
noncomputable def s_l5Stops (t : Timetable) (i : Int) : Option ((List Int)) :=
 (s_l5Line t i).bind fun r =>
 some r.Stops
noncomputable def s_l2Run_L1 (x : Line) (to : Int) : Int × Int → Option (Lp (Int × Int) (Int))
 | (v, v1) =>
  if (decide (v1 < to)) = true then
   (idx x.Runs v1).bind fun e =>
   some (.nx ((w64 (v + e)), (w64 (v1 + 1))))
  else
   some (.dn v)
noncomputable def s_l2Run (x : Line) (from_ : Int) (to : Int) : Option (Int) :=
 (iter (s_l2Run_L1 x to) ((0 : Int), from_)).bind fun (v2 : Int) =>
 some v2
noncomputable def s_l5At (t : Timetable) (i : Int) (k : Int) : Option (Int) :=
 (idx t.Trips i).bind fun e1 =>
 (s_l5Line t i).bind fun r2 =>
 (s_l2Run r2 0 k).bind fun r3 =>
 some (w64 (e1.Start + r3))
noncomputable def s_l5End (t : Timetable) (i : Int) : Option (Int) :=
 (s_l5Stops t i).bind fun r2 =>
 (s_l5At t i (w64 ((r2.length : Int) - 1))).bind fun r3 =>
 some r3
noncomputable def s_l5Good_L1 (t : Timetable) : Int → Option (Lp (Int) (Fl (Bool) (Unit)))
 | x =>
  if (decide (x < (t.Trips.length : Int))) = true then
   (idx t.Trips x).bind fun e =>
   (s_l1In e.Id 1 999).bind fun r6 =>
   (if (!r6) = true then some true else (s_l1In e.Line 0 (w64 ((t.Network.Lines.length : Int) - 1))).bind fun r7 =>
   if (!r7) = true then some true else (s_l4Time e.Start).bind fun r8 =>
   if (!r8) = true then some true else (s_l5End t x).bind fun r9 =>
   (s_l4Time r9).bind fun r10 =>
   if (!r10) = true then some true else if (decide (0 < x)) = true then (idx t.Trips (w64 (x - 1))).bind fun e2 =>
   some (decide (e.Id ≤ e2.Id)) else some false).bind fun (v1 : Bool) =>
   if v1 = true then
    some (.dn (.ret false))
   else
    some (.nx (w64 (x + 1)))
  else
   some (.dn (.go ()))
noncomputable def s_l5Good (t : Timetable) : Option (Bool) :=
 (s_l2Good t.Network).bind fun r =>
 (if (!r) = true then some true else some (decide (12 < (t.Trips.length : Int)))).bind fun (v : Bool) =>
 if v = true then
  some false
 else
  flb (iter (s_l5Good_L1 t) (0 : Int)) fun (_ : Unit) =>
  some true
noncomputable def s_l7Good_L1 (n : Network) (list : List Walk) : Int → Option (Lp (Int) (Fl (Bool) (Unit)))
 | v1 =>
  if (decide (v1 < (list.length : Int))) = true then
   (idx list v1).bind fun e =>
   (s_l1In e.B 1 (w64 ((n.Stops.length : Int) - 1))).bind fun r1 =>
   (if (!r1) = true then some true else (s_l1In e.A 0 (w64 (e.B - 1))).bind fun r2 =>
   if (!r2) = true then some true else (s_l1In e.Minutes 1 120).bind fun r3 =>
   some (!r3)).bind fun (v2 : Bool) =>
   if v2 = true then
    some (.dn (.ret false))
   else
    (if (decide (0 < v1)) = true then (idx list (w64 (v1 - 1))).bind fun e5 =>
    if (decide (e.A < e5.A)) = true then some true else (idx list (w64 (v1 - 1))).bind fun e6 =>
    if (e6.A == e.A) = true then (idx list (w64 (v1 - 1))).bind fun e7 =>
    some (decide (e.B ≤ e7.B)) else some false else some false).bind fun (v3 : Bool) =>
    if v3 = true then
     some (.dn (.ret false))
    else
     some (.nx (w64 (v1 + 1)))
  else
   some (.dn (.go ()))
noncomputable def s_l7Good (n : Network) (list : List Walk) : Option (Bool) :=
 (s_l2Good n).bind fun r =>
 (if (!r) = true then some true else some (decide (12 < (list.length : Int)))).bind fun (v : Bool) =>
 if v = true then
  some false
 else
  flb (iter (s_l7Good_L1 n list) (0 : Int)) fun (_ : Unit) =>
  some true
noncomputable def s_l7Times_L1 (stops : Int) : Int × (List Int) → Option (Lp (Int × (List Int)) ((List Int)))
 | (a, i) =>
  if (decide (a < stops)) = true then
   (chk (i.length + ([(-1)] : List Int).length ≤ 4294967296)).bind fun u =>
   some (.nx ((w64 (a + 1)), (i ++ ([(-1)] : List Int))))
  else
   some (.dn i)
noncomputable def s_l7Times_L2 (list : List Walk) (turn : Int) : Bool × Int × Int × Int × (List Int) → Option (Lp (Bool × Int × Int × Int × (List Int)) (Bool × (List Int)))
 | (b2, v, v1, v2, i4) =>
  if (decide (v2 < 2)) = true then
   ((idx i4 v).bind fun e10 =>
   (if (decide (0 ≤ e10)) = true then (idx i4 v1).bind fun e11 =>
   if (decide (e11 < 0)) = true then some true else (idx i4 v).bind fun e12 =>
   (idx list turn).bind fun e13 =>
   (idx i4 v1).bind fun e14 =>
   some (decide ((w64 (e12 + e13.Minutes)) < e14)) else some false).bind fun (v3 : Bool) =>
   if v3 = true then
    (idx i4 v).bind fun e18 =>
    (idx list turn).bind fun e19 =>
    (idx i4 v1).bind fun e20 =>
    some (true, (i4.set v1.toNat (w64 (e18 + e19.Minutes))))
   else
    some (b2, i4)).bind fun ((b3, i5) : Bool × (List Int)) =>
   (idx list turn).bind fun e21 =>
   (idx list turn).bind fun e22 =>
   some (.nx (b3, e21.B, e22.A, (w64 (v2 + 1)), i5))
  else
   some (.dn (b2, i4))
noncomputable def s_l7Times_L3 (list : List Walk) : Bool × Int × (List Int) → Option (Lp (Bool × Int × (List Int)) (Bool × (List Int)))
 | (b1, turn, i3) =>
  if (decide (turn < (list.length : Int))) = true then
   (idx list turn).bind fun e3 =>
   (idx list turn).bind fun e4 =>
   (iter (s_l7Times_L2 list turn) (b1, e3.A, e4.B, (0 : Int), i3)).bind fun ((b4, i6) : Bool × (List Int)) =>
   some (.nx (b4, (w64 (turn + 1)), i6))
  else
   some (.dn (b1, i3))
noncomputable def s_l7Times_L4 (list : List Walk) : Bool × (List Int) → Option (Lp (Bool × (List Int)) ((List Int)))
 | (b, i2) =>
  if b = true then
   (iter (s_l7Times_L3 list) (false, (0 : Int), i2)).bind fun ((b5, i7) : Bool × (List Int)) =>
   some (.nx (b5, i7))
  else
   some (.dn i2)
noncomputable def s_l7Times (stops : Int) (list : List Walk) (stop : Int) : Option ((List Int)) :=
 (iter (s_l7Times_L1 stops) ((0 : Int), ([] : List Int))).bind fun (i1 : List Int) =>
 (idx i1 stop).bind fun e =>
 (iter (s_l7Times_L4 list) (true, (i1.set stop.toNat 0))).bind fun (i8 : List Int) =>
 some i8
noncomputable def s_CatchTrips_L1 (k : List Connection) (r9 : Int) : Int → Option (Lp (Int) (Int))
 | v3 =>
  (if (decide (0 < v3)) = true then (idx k (w64 (v3 - 1))).bind fun e13 =>
  some (decide (r9 < e13.Time)) else some false).bind fun (v4 : Bool) =>
  if v4 = true then
   some (.nx (w64 (v3 - 1)))
  else
   some (.dn v3)
noncomputable def s_CatchTrips_L2 (t : Timetable) (time : Int) (r4 : (List Int)) (at_ : Int) (k : List Connection) (r5 : (List Int)) : Int → Option (Lp (Int) ((List Connection)))
 | v1 =>
  if (decide ((w64 (v1 + 1)) < (r5.length : Int))) = true then
   (idx r5 v1).bind fun e4 =>
   (idx r4 e4).bind fun e5 =>
   (if (decide (e5 < 0)) = true then some true else (s_l5At t at_ v1).bind fun r7 =>
   (idx r5 v1).bind fun e6 =>
   (idx r4 e6).bind fun e7 =>
   some (decide (r7 < (w64 (time + e7))))).bind fun (v2 : Bool) =>
   if v2 = true then
    some (.nx (w64 (v1 + 1)))
   else
    (idx t.Trips at_).bind fun e10 =>
    (idx r5 v1).bind fun e11 =>
    (s_l5At t at_ v1).bind fun r9 =>
    (iter (s_CatchTrips_L1 k r9) (k.length : Int)).bind fun (v5 : Int) =>
    (chk ((0 : Int) ≤ 0 ∧ 0 ≤ v5 ∧ v5 ≤ (k.length : Int))).bind fun u5 =>
    (chk (([] : List Connection).length + ((k.take v5.toNat).drop (0 : Int).toNat).length ≤ 4294967296)).bind fun u6 =>
    (chk ((([] : List Connection) ++ ((k.take v5.toNat).drop (0 : Int).toNat)).length + ([(⟨e10.Id, e11, v1, r9⟩ : Connection)] : List Connection).length ≤ 4294967296)).bind fun u7 =>
    (chk ((0 : Int) ≤ v5 ∧ v5 ≤ (k.length : Int))).bind fun u8 =>
    (chk (((([] : List Connection) ++ ((k.take v5.toNat).drop (0 : Int).toNat)) ++ ([(⟨e10.Id, e11, v1, r9⟩ : Connection)] : List Connection)).length + (k.drop v5.toNat).length ≤ 4294967296)).bind fun u9 =>
    some (.dn (((([] : List Connection) ++ ((k.take v5.toNat).drop (0 : Int).toNat)) ++ ([(⟨e10.Id, e11, v1, r9⟩ : Connection)] : List Connection)) ++ (k.drop v5.toNat)))
  else
   some (.dn k)
noncomputable def s_CatchTrips_L3 (t : Timetable) (time : Int) (r4 : (List Int)) : Int × (List Connection) → Option (Lp (Int × (List Connection)) ((List Connection)))
 | (at_, k) =>
  if (decide (at_ < (t.Trips.length : Int))) = true then
   ((s_l5Stops t at_).bind fun r5 =>
   (iter (s_CatchTrips_L2 t time r4 at_ k r5) (0 : Int)).bind fun (k2 : List Connection) =>
   some k2).bind fun (k1 : List Connection) =>
   some (.nx ((w64 (at_ + 1)), k1))
  else
   some (.dn k)
noncomputable def s_CatchTrips (t : Timetable) (list : List Walk) (stop : Int) (time : Int) : Option ((List Connection) × Bool) :=
 (s_l5Good t).bind fun r =>
 (if (!r) = true then some true else (s_l7Good t.Network list).bind fun r1 =>
 if (!r1) = true then some true else (s_l1In stop 0 (w64 ((t.Network.Stops.length : Int) - 1))).bind fun r2 =>
 if (!r2) = true then some true else (s_l4Time time).bind fun r3 =>
 some (!r3)).bind fun (v : Bool) =>
 if v = true then
  some (([] : List Connection), false)
 else
  (s_l7Times (t.Network.Stops.length : Int) list stop).bind fun r4 =>
  (iter (s_CatchTrips_L3 t time r4) ((0 : Int), ([] : List Connection))).bind fun (k3 : List Connection) =>
  some (k3, true)
noncomputable def i_IsValidWalks (n : Network) (list : List Walk) : Option (Bool) :=
 (i_IsValidNetwork n).bind fun r =>
 (if r = true then (i_areWalks n list).bind fun r1 =>
 some r1 else some false).bind fun (v : Bool) =>
 some v
noncomputable def i_WalkingTimes (n : Network) (list : List Walk) (stop : Int) : Option ((List Int) × Bool) :=
 (i_IsValidWalks n list).bind fun r =>
 (if (!r) = true then some true else (i_isStop n stop).bind fun r1 =>
 some (!r1)).bind fun (v : Bool) =>
 if v = true then
  some (([] : List Int), false)
 else
  (i_walkTable n list).bind fun r2 =>
  (idx r2 stop).bind fun e =>
  some (e, true)
noncomputable def s_DrawWalkGroups (code : List UInt8) : Option (Network × (List Walk) × Int) :=
 (s_l1Cur_anyNetwork (⟨code, 0, (⟨0⟩ : IK .u64)⟩ : l1Cur)).bind fun r =>
 (s_l1Cur_walks r.2 r.1).bind fun r1 =>
 (s_l1Cur_pick r1.2 24).bind fun r4 =>
 (chk ((11 : Int) ≠ 0)).bind fun u2 =>
 (chk ((0 : Int) ≤ 0 ∧ 0 ≤ (w64 (5 + (w64 (r4.1.tdiv 11)))) ∧ (w64 (5 + (w64 (r4.1.tdiv 11)))) ≤ (([0, 1, 2, 5, 120, (-1), 121] : List Int).length : Int))).bind fun u3 =>
 (s_l1Cur_among_w r4.2 ((([0, 1, 2, 5, 120, (-1), 121] : List Int).take (w64 (5 + (w64 (r4.1.tdiv 11)))).toNat).drop (0 : Int).toNat)).bind fun r5 =>
 some (r.1, r1.1, r5.1)
noncomputable def i_WalkGroups_L1 (list : List Walk) (limit : Int) : Int × (List Walk) → Option (Lp (Int × (List Walk)) ((List Walk)))
 | (v1, times) =>
  if (decide (v1 < (list.length : Int))) = true then
   ((idx list v1).bind fun e =>
   if (decide (e.Minutes ≤ limit)) = true then
    (chk (times.length + ([e] : List Walk).length ≤ 4294967296)).bind fun u =>
    some (times ++ ([e] : List Walk))
   else
    some times).bind fun (times1 : List Walk) =>
   some (.nx ((w64 (v1 + 1)), times1))
  else
   some (.dn times)
noncomputable def i_WalkGroups_L2 (n : Network) (r2 : (List (List Int))) (v2 : Int) : Int × (List Int) → Option (Lp (Int × (List Int)) ((List Int)))
 | (v3, v4) =>
  if (decide (v3 < (n.Stops.length : Int))) = true then
   ((idx r2 v2).bind fun e1 =>
   (idx e1 v3).bind fun e2 =>
   if (decide (0 ≤ e2)) = true then
    (chk (v4.length + ([v3] : List Int).length ≤ 4294967296)).bind fun u1 =>
    some (v4 ++ ([v3] : List Int))
   else
    some v4).bind fun (v5 : List Int) =>
   some (.nx ((w64 (v3 + 1)), v5))
  else
   some (.dn v4)
noncomputable def i_WalkGroups_L3 (n : Network) (r2 : (List (List Int))) : Int × (List (List Int)) → Option (Lp (Int × (List (List Int))) ((List (List Int))))
 | (v2, b) =>
  if (decide (v2 < (n.Stops.length : Int))) = true then
   ((iter (i_WalkGroups_L2 n r2 v2) ((0 : Int), ([] : List Int))).bind fun (v6 : List Int) =>
   (idx v6 0).bind fun e3 =>
   if (e3 == v2) = true then
    (chk (b.length + ([v6] : List (List Int)).length ≤ 4294967296)).bind fun u2 =>
    some (b ++ ([v6] : List (List Int)))
   else
    some b).bind fun (b1 : List (List Int)) =>
   some (.nx ((w64 (v2 + 1)), b1))
  else
   some (.dn b)
noncomputable def i_WalkGroups (n : Network) (list : List Walk) (limit : Int) : Option ((List (List Int)) × Bool) :=
 (i_IsValidWalks n list).bind fun r =>
 (if (!r) = true then some true else (i_within limit 0 120).bind fun r1 =>
 some (!r1)).bind fun (v : Bool) =>
 if v = true then
  some (([] : List (List Int)), false)
 else
  (iter (i_WalkGroups_L1 list limit) ((0 : Int), ([] : List Walk))).bind fun (times2 : List Walk) =>
  (i_walkTable n times2).bind fun r2 =>
  (iter (i_WalkGroups_L3 n r2) ((0 : Int), ([] : List (List Int)))).bind fun (b2 : List (List Int)) =>
  some (b2, true)
noncomputable def s_l1Has_L1 (l : List Int) (n : Int) : Int → Option (Lp (Int) (Fl (Bool) (Unit)))
 | v =>
  if (decide (v < (l.length : Int))) = true then
   (idx l v).bind fun e =>
   if (e == n) = true then
    some (.dn (.ret true))
   else
    some (.nx (w64 (v + 1)))
  else
   some (.dn (.go ()))
noncomputable def s_l1Has (l : List Int) (n : Int) : Option (Bool) :=
 flb (iter (s_l1Has_L1 l n) (0 : Int)) fun (_ : Unit) =>
 some false
noncomputable def s_WalkGroups_L1 (list : List Walk) (limit : Int) : Int × (List Walk) → Option (Lp (Int × (List Walk)) ((List Walk)))
 | (group, s) =>
  if (decide (group < (list.length : Int))) = true then
   ((idx list group).bind fun e =>
   if (decide (e.Minutes ≤ limit)) = true then
    (idx list group).bind fun e1 =>
    (chk (s.length + ([e1] : List Walk).length ≤ 4294967296)).bind fun u =>
    some (s ++ ([e1] : List Walk))
   else
    some s).bind fun (s1 : List Walk) =>
   some (.nx ((w64 (group + 1)), s1))
  else
   some (.dn s)
noncomputable def s_WalkGroups_L2 (r3 : (List Int)) : Int × (List Int) × (List Int) → Option (Lp (Int × (List Int) × (List Int)) ((List Int) × (List Int)))
 | (v1, times2, v2) =>
  if (decide (v1 < (r3.length : Int))) = true then
   ((idx r3 v1).bind fun e2 =>
   if (decide (0 ≤ e2)) = true then
    (chk (v2.length + ([v1] : List Int).length ≤ 4294967296)).bind fun u1 =>
    (chk (times2.length + ([v1] : List Int).length ≤ 4294967296)).bind fun u2 =>
    some ((times2 ++ ([v1] : List Int)), (v2 ++ ([v1] : List Int)))
   else
    some (times2, v2)).bind fun ((times3, v3) : (List Int) × (List Int)) =>
   some (.nx ((w64 (v1 + 1)), times3, v3))
  else
   some (.dn (times2, v2))
noncomputable def s_WalkGroups_L3 (n : Network) (s2 : List Walk) : Int × (List (List Int)) × (List Int) → Option (Lp (Int × (List (List Int)) × (List Int)) ((List (List Int))))
 | (k, seen, times) =>
  if (decide (k < (n.Stops.length : Int))) = true then
   ((s_l1Has times k).bind fun r2 =>
   if r2 = true then
    some (seen, times)
   else
    (s_l7Times (n.Stops.length : Int) s2 k).bind fun r3 =>
    (iter (s_WalkGroups_L2 r3) ((0 : Int), times, ([] : List Int))).bind fun ((times4, v4) : (List Int) × (List Int)) =>
    (chk (seen.length + ([v4] : List (List Int)).length ≤ 4294967296)).bind fun u3 =>
    some ((seen ++ ([v4] : List (List Int))), times4)).bind fun ((seen1, times1) : (List (List Int)) × (List Int)) =>
   some (.nx ((w64 (k + 1)), seen1, times1))
  else
   some (.dn seen)
noncomputable def s_WalkGroups (n : Network) (list : List Walk) (limit : Int) : Option ((List (List Int)) × Bool) :=
 (s_l7Good n list).bind fun r =>
 (if (!r) = true then some true else (s_l1In limit 0 120).bind fun r1 =>
 some (!r1)).bind fun (v : Bool) =>
 if v = true then
  some (([] : List (List Int)), false)
 else
  (iter (s_WalkGroups_L1 list limit) ((0 : Int), ([] : List Walk))).bind fun (s2 : List Walk) =>
  (iter (s_WalkGroups_L3 n s2) ((0 : Int), ([] : List (List Int)), ([] : List Int))).bind fun (seen2 : List (List Int)) =>
  some (seen2, true)
noncomputable def v_rInts_L1 (a : List Int) (b : List Int) : Int → Option (Lp (Int) (Fl (Bool) (Unit)))
 | v =>
  if (decide (v < (a.length : Int))) = true then
   (idx a v).bind fun e2 =>
   (idx b v).bind fun e3 =>
   if (e2 != e3) = true then
    some (.dn (.ret false))
   else
    some (.nx (w64 (v + 1)))
  else
   some (.dn (.go ()))
noncomputable def v_rInts (a : List Int) (b : List Int) : Option (Bool) :=
 if ((a.length : Int) != (b.length : Int)) = true then
  some false
 else
  flb (iter (v_rInts_L1 a b) (0 : Int)) fun (_ : Unit) =>
  some true
noncomputable def v_rTable_L1 (a : List (List Int)) (b : List (List Int)) : Int → Option (Lp (Int) (Fl (Bool) (Unit)))
 | v =>
  if (decide (v < (a.length : Int))) = true then
   (idx a v).bind fun e2 =>
   (idx b v).bind fun e3 =>
   (v_rInts e2 e3).bind fun r1 =>
   if (!r1) = true then
    some (.dn (.ret false))
   else
    some (.nx (w64 (v + 1)))
  else
   some (.dn (.go ()))
noncomputable def v_rTable (a : List (List Int)) (b : List (List Int)) : Option (Bool) :=
 if ((a.length : Int) != (b.length : Int)) = true then
  some false
 else
  flb (iter (v_rTable_L1 a b) (0 : Int)) fun (_ : Unit) =>
  some true
noncomputable def s_l1Cur_idOf (c : l1Cur) (t : Timetable) : Option (Int × l1Cur) :=
 (if ((t.Trips.length : Int) == 0) = true then some (true, c.code_, c.at_, c.seed_.v) else (s_l1Cur_one c 8).bind fun r =>
 some (r.1, r.2.code_, r.2.at_, r.2.seed_.v)).bind fun ((v, v1, v2, v3) : Bool × (List UInt8) × Int × Int) =>
 if v = true then
  (s_l1Cur_pick (⟨v1, v2, (⟨v3⟩ : IK .u64)⟩ : l1Cur) 30).bind fun r1 =>
  some (r1.1, r1.2)
 else
  (s_l1Cur_pick (⟨v1, v2, (⟨v3⟩ : IK .u64)⟩ : l1Cur) (t.Trips.length : Int)).bind fun r3 =>
  (idx t.Trips r3.1).bind fun e1 =>
  some (e1.Id, r3.2)
noncomputable def s_DrawChangeTime (code : List UInt8) : Option (Timetable × (List Walk) × Int × Int) :=
 (s_l1Cur_anyTimetable (⟨code, 0, (⟨0⟩ : IK .u64)⟩ : l1Cur)).bind fun r =>
 (s_l1Cur_walks r.2 r.1.Network).bind fun r1 =>
 (s_l1Cur_idOf r1.2 r.1).bind fun r2 =>
 (s_l1Cur_idOf r2.2 r.1).bind fun r4 =>
 some (r.1, r1.1, r2.1, r4.1)
noncomputable def i_tripIndex_1 (x : Trip) (c1 : Int) : Option (Bool) :=
 some (x.Id == c1)
noncomputable def slices_IndexFunc_Trip_L1 (s : List Trip) (f : Trip → Option (Bool)) : Int → Option (Lp (Int) (Fl (Int) (Unit)))
 | v =>
  if (decide (v < (s.length : Int))) = true then
   (idx s v).bind fun e =>
   (f e).bind fun r =>
   if r = true then
    some (.dn (.ret v))
   else
    some (.nx (w64 (v + 1)))
  else
   some (.dn (.go ()))
noncomputable def slices_IndexFunc_Trip (s : List Trip) (f : Trip → Option (Bool)) : Option (Int) :=
 flb (iter (slices_IndexFunc_Trip_L1 s f) (0 : Int)) fun (_ : Unit) =>
 some (-1)
noncomputable def slices_IndexFunc_Trip__i_tripIndex_1 (s : List Trip) (c1 : Int) : Option (Int) :=
 slices_IndexFunc_Trip s (fun (z0 : Trip) => i_tripIndex_1 z0 c1)
noncomputable def i_tripIndex (t : Timetable) (id : Int) : Option (Int) :=
 (slices_IndexFunc_Trip__i_tripIndex_1 t.Trips id).bind fun r =>
 some r
noncomputable def i_ChangeTime_L1 (r6 : (List (List Int))) (r9 : (List Int)) (r10 : (List Int)) (v2 : Int) (e4 : Int) (r14 : Line) : Int × Int × Int → Option (Lp (Int × Int × Int) (Int × Int))
 | (q2, r15, v3) =>
  if (decide (v3 < (((r14.Stops.take (w64 ((r10.length : Int) - 1)).toNat).drop (0 : Int).toNat).length : Int))) = true then
   ((idx ((r14.Stops.take (w64 ((r10.length : Int) - 1)).toNat).drop (0 : Int).toNat) v3).bind fun e5 =>
   (idx r10 v3).bind fun e8 =>
   (idx r9 v2).bind fun e9 =>
   (idx r6 e4).bind fun e10 =>
   (idx e10 e5).bind fun e11 =>
   (if (decide (0 ≤ e11)) = true then (idx r6 e4).bind fun e12 =>
   (idx e10 e5).bind fun e13 =>
   if (decide (e13 ≤ (w64 (e8 - e9)))) = true then if (decide (q2 < 0)) = true then some true else some (decide ((w64 (e8 - e9)) < q2)) else some false else some false).bind fun (v4 : Bool) =>
   if v4 = true then
    some ((w64 (e8 - e9)), e4)
   else
    some (q2, r15)).bind fun ((q3, r16) : Int × Int) =>
   some (.nx (q3, r16, (w64 (v3 + 1))))
  else
   some (.dn (q2, r15))
noncomputable def i_ChangeTime_L2 (t : Timetable) (e3 : Trip) (r6 : (List (List Int))) (r9 : (List Int)) (r10 : (List Int)) (r11 : Line) : Int × Int × Int → Option (Lp (Int × Int × Int) (Int × Int))
 | (q, r12, v2) =>
  if (decide (v2 < (r11.Stops.length : Int))) = true then
   ((idx r11.Stops v2).bind fun e4 =>
   if (v2 == 0) = true then
    some (q, r12)
   else
    (i_lineOf t e3).bind fun r14 =>
    (chk ((0 : Int) ≤ 0 ∧ 0 ≤ (w64 ((r10.length : Int) - 1)) ∧ (w64 ((r10.length : Int) - 1)) ≤ (r14.Stops.length : Int))).bind fun u =>
    (iter (i_ChangeTime_L1 r6 r9 r10 v2 e4 r14) (q, r12, (0 : Int))).bind fun ((q4, r17) : Int × Int) =>
    some (q4, r17)).bind fun ((q1, r13) : Int × Int) =>
   some (.nx (q1, r13, (w64 (v2 + 1))))
  else
   some (.dn (q, r12))
noncomputable def i_ChangeTime (t : Timetable) (list : List Walk) (from_ : Int) (to : Int) : Option (Int × Int × Bool) :=
 (i_IsValidTimetable t).bind fun r =>
 (if (!r) = true then some true else (i_areWalks t.Network list).bind fun r1 =>
 if (!r1) = true then some true else some (from_ == to)).bind fun (v : Bool) =>
 if v = true then
  some (0, 0, false)
 else
  (i_tripIndex t from_).bind fun r4 =>
  (i_tripIndex t to).bind fun r5 =>
  (if (decide (r4 < 0)) = true then some true else some (decide (r5 < 0))).bind fun (v1 : Bool) =>
  if v1 = true then
   some (0, 0, false)
  else
   (idx t.Trips r4).bind fun e2 =>
   (idx t.Trips r5).bind fun e3 =>
   (i_walkTable t.Network list).bind fun r6 =>
   (i_stopTimes t e2).bind fun r9 =>
   (i_stopTimes t e3).bind fun r10 =>
   (i_lineOf t e2).bind fun r11 =>
   (iter (i_ChangeTime_L2 t e3 r6 r9 r10 r11) (((-1) : Int), (0 : Int), (0 : Int))).bind fun ((q5, r18) : Int × Int) =>
   if (decide (q5 < 0)) = true then
    some (0, 0, false)
   else
    some (q5, r18, true)
noncomputable def s_l5Find_L1 (t : Timetable) (id : Int) : Int → Option (Lp (Int) (Fl (Int) (Unit)))
 | v =>
  if (decide (v < (t.Trips.length : Int))) = true then
   (idx t.Trips v).bind fun e =>
   if (e.Id == id) = true then
    some (.dn (.ret v))
   else
    some (.nx (w64 (v + 1)))
  else
   some (.dn (.go ()))
noncomputable def s_l5Find (t : Timetable) (id : Int) : Option (Int) :=
 flb (iter (s_l5Find_L1 t id) (0 : Int)) fun (_ : Unit) =>
 some (-1)
noncomputable def s_ChangeTime_L1 (t : Timetable) (r6 : Int) (r7 : Int) (r10 : (List Int)) (r11 : (List Int)) (v1 : Int) (r13 : (List Int)) : Int × Int × Int → Option (Lp (Int × Int × Int) (Int × Int))
 | (m1, d1, v2) =>
  if (decide ((w64 (v2 + 1)) < (r11.length : Int))) = true then
   ((s_l5At t r7 v2).bind fun r16 =>
   (s_l5At t r6 v1).bind fun r17 =>
   (idx r11 v2).bind fun e2 =>
   (idx r13 e2).bind fun e3 =>
   (if (decide (0 ≤ e3)) = true then (idx r11 v2).bind fun e4 =>
   (idx r13 e4).bind fun e5 =>
   if (decide (e5 ≤ (w64 (r16 - r17)))) = true then if (decide (m1 < 0)) = true then some true else some (decide ((w64 (r16 - r17)) < m1)) else some false else some false).bind fun (v3 : Bool) =>
   if v3 = true then
    (idx r10 v1).bind fun e6 =>
    some ((w64 (r16 - r17)), e6)
   else
    some (m1, d1)).bind fun ((m2, d2) : Int × Int) =>
   some (.nx (m2, d2, (w64 (v2 + 1))))
  else
   some (.dn (m1, d1))
noncomputable def s_ChangeTime_L2 (t : Timetable) (list : List Walk) (r6 : Int) (r7 : Int) (r10 : (List Int)) (r11 : (List Int)) : Int × Int × Int → Option (Lp (Int × Int × Int) (Int × Int))
 | (m, d, v1) =>
  if (decide (v1 < (r10.length : Int))) = true then
   (idx r10 v1).bind fun e1 =>
   (s_l7Times (t.Network.Stops.length : Int) list e1).bind fun r13 =>
   (iter (s_ChangeTime_L1 t r6 r7 r10 r11 v1 r13) (m, d, (0 : Int))).bind fun ((m3, d3) : Int × Int) =>
   some (.nx (m3, d3, (w64 (v1 + 1))))
  else
   some (.dn (m, d))
noncomputable def s_ChangeTime (t : Timetable) (list : List Walk) (from_ : Int) (to : Int) : Option (Int × Int × Bool) :=
 (s_l5Good t).bind fun r =>
 (if (!r) = true then some true else (s_l7Good t.Network list).bind fun r1 =>
 if (!r1) = true then some true else if (from_ == to) = true then some true else (s_l5Find t from_).bind fun r2 =>
 if (decide (r2 < 0)) = true then some true else (s_l5Find t to).bind fun r3 =>
 some (decide (r3 < 0))).bind fun (v : Bool) =>
 if v = true then
  some (0, 0, false)
 else
  (s_l5Find t from_).bind fun r6 =>
  (s_l5Find t to).bind fun r7 =>
  (s_l5Stops t r6).bind fun r10 =>
  (s_l5Stops t r7).bind fun r11 =>
  (iter (s_ChangeTime_L2 t list r6 r7 r10 r11) (((-1) : Int), (0 : Int), (1 : Int))).bind fun ((m4, d4) : Int × Int) =>
  if (decide (m4 < 0)) = true then
   some (0, 0, false)
  else
   some (m4, d4, true)
noncomputable def v_FnCatching_L1 (r1 : Timetable × (List Walk) × Int × Int) (r2 : (List Connection) × Bool) (r3 : (List Connection) × Bool) (r4 : (List Int) × Bool) : Int → Option (Lp (Int) (Fl (Bool) (Unit)))
 | x =>
  if (decide (x < (r2.1.length : Int))) = true then
   (idx r2.1 x).bind fun e =>
   (idx r3.1 x).bind fun e5 =>
   (if (!((e.Id == e5.Id) && ((e.Stop == e5.Stop) && ((e.Place == e5.Place) && ((e.Time == e5.Time) && true))))) = true then some true else if (!r4.2) = true then some true else (idx r4.1 e.Stop).bind fun e6 =>
   if (decide (e6 < 0)) = true then some true else (idx r4.1 e.Stop).bind fun e7 =>
   if (decide (e.Time < (w64 (r1.2.2.2 + e7)))) = true then some true else if (decide (0 < x)) = true then (idx r2.1 (w64 (x - 1))).bind fun e8 =>
   some (decide (e.Time < e8.Time)) else some false).bind fun (v1 : Bool) =>
   if v1 = true then
    some (.dn (.ret false))
   else
    some (.nx (w64 (x + 1)))
  else
   some (.dn (.go ()))
noncomputable def v_FnCatching_L2 (r7 : (List (List Int)) × Bool) : Int × Int → Option (Lp (Int × Int) (Int))
 | (i, u) =>
  if (decide (u < (r7.1.length : Int))) = true then
   (idx r7.1 u).bind fun e10 =>
   some (.nx ((w64 (i + (e10.length : Int))), (w64 (u + 1))))
  else
   some (.dn i)
noncomputable def v_FnCatching (code : List UInt8) : Option (Bool) :=
 (v_rBig code).bind fun r =>
 if r = true then
  some true
 else
  (s_DrawCatchTrips code).bind fun r1 =>
  (i_CatchTrips r1.1 r1.2.1 r1.2.2.1 r1.2.2.2).bind fun r2 =>
  (s_CatchTrips r1.1 r1.2.1 r1.2.2.1 r1.2.2.2).bind fun r3 =>
  (if (!(r2.2 == r3.2)) = true then some true else some ((r2.1.length : Int) != (r3.1.length : Int))).bind fun (v : Bool) =>
  if v = true then
   some false
  else
   (i_WalkingTimes r1.1.Network r1.2.1 r1.2.2.1).bind fun r4 =>
   flb (iter (v_FnCatching_L1 r1 r2 r3 r4) (0 : Int)) fun (_ : Unit) =>
   (s_DrawWalkGroups code).bind fun r6 =>
   (i_WalkGroups r6.1 r6.2.1 r6.2.2).bind fun r7 =>
   (s_WalkGroups r6.1 r6.2.1 r6.2.2).bind fun r8 =>
   (if (!(r7.2 == r8.2)) = true then some true else (v_rTable r7.1 r8.1).bind fun r9 =>
   some (!r9)).bind fun (v2 : Bool) =>
   if v2 = true then
    some false
   else
    (iter (v_FnCatching_L2 r7) ((0 : Int), (0 : Int))).bind fun (i1 : Int) =>
    (if r7.2 = true then some (i1 != (r6.1.Stops.length : Int)) else some false).bind fun (v3 : Bool) =>
    if v3 = true then
     some false
    else
     (s_DrawChangeTime code).bind fun r10 =>
     (i_ChangeTime r10.1 r10.2.1 r10.2.2.1 r10.2.2.2).bind fun r11 =>
     (s_ChangeTime r10.1 r10.2.1 r10.2.2.1 r10.2.2.2).bind fun r12 =>
     (if (r11.1 == r12.1) = true then if (r11.2.1 == r12.2.1) = true then if (r11.2.2 == r12.2.2) = true then some (decide (0 ≤ r11.1)) else some false else some false else some false).bind fun (t : Bool) =>
     some t
end Go.Proofs.Ytdkphcbllgnefaa
