/- Models of the functions that the law reaches: plain Lean; none where the function would panic or not end. Made by program (dec.py). -/
import Derived.Test.YtdocbkbpjdjlpaaAbC0
namespace Go.Proofs.Ytdocbkbpjdjlpaa
open Go Go.Ab
set_option maxRecDepth 100000
set_option maxHeartbeats 4000000
set_option linter.unusedVariables false
set_option linter.unusedSimpArgs false
structure l1Cur where
 code_ : List UInt8
 at_ : Int
 seed_ : IK .u64
instance enc_l1Cur : Enc l1Cur := ⟨3, fun x => .agg [Enc.e x.code_, .sc (.int .i64 x.at_), .sc (.int .u64 x.seed_.v)], fun a b h => by
 simp only [D.agg.injEq, List.cons.injEq, and_true] at h
 obtain ⟨a1, a2, a3⟩ := a
 obtain ⟨b1, b2, b3⟩ := b
 obtain ⟨h1, h2, h3⟩ := h
 have q1 := Enc.inj (α := List UInt8) a1 b1 h1
 have q2 := Enc.inj (α := Int) a2 b2 h2
 have q3 := Enc.inj (α := IK .u64) a3 b3 h3
 subst q1; subst q2; subst q3; rfl⟩
structure Line where
 Name : ByteArray
 Stops : List Int
 Runs : List Int
instance enc_Line : Enc Line := ⟨3, fun x => .agg [.sc (.string x.Name), Enc.e x.Stops, Enc.e x.Runs], fun a b h => by
 simp only [D.agg.injEq, List.cons.injEq, and_true] at h
 obtain ⟨a1, a2, a3⟩ := a
 obtain ⟨b1, b2, b3⟩ := b
 obtain ⟨h1, h2, h3⟩ := h
 have q1 := Enc.inj (α := ByteArray) a1 b1 h1
 have q2 := Enc.inj (α := List Int) a2 b2 h2
 have q3 := Enc.inj (α := List Int) a3 b3 h3
 subst q1; subst q2; subst q3; rfl⟩
structure Network where
 Stops : List ByteArray
 Lines : List Line
instance enc_Network : Enc Network := ⟨2, fun x => .agg [Enc.e x.Stops, Enc.e x.Lines], fun a b h => by
 simp only [D.agg.injEq, List.cons.injEq, and_true] at h
 obtain ⟨a1, a2⟩ := a
 obtain ⟨b1, b2⟩ := b
 obtain ⟨h1, h2⟩ := h
 have q1 := Enc.inj (α := List ByteArray) a1 b1 h1
 have q2 := Enc.inj (α := List Line) a2 b2 h2
 subst q1; subst q2; rfl⟩
structure Trip where
 Id : Int
 Line : Int
 Start : Int
instance enc_Trip : Enc Trip := ⟨3, fun x => .agg [.sc (.int .i64 x.Id), .sc (.int .i64 x.Line), .sc (.int .i64 x.Start)], fun a b h => by
 simp only [D.agg.injEq, List.cons.injEq, and_true] at h
 obtain ⟨a1, a2, a3⟩ := a
 obtain ⟨b1, b2, b3⟩ := b
 obtain ⟨h1, h2, h3⟩ := h
 have q1 := Enc.inj (α := Int) a1 b1 h1
 have q2 := Enc.inj (α := Int) a2 b2 h2
 have q3 := Enc.inj (α := Int) a3 b3 h3
 subst q1; subst q2; subst q3; rfl⟩
structure Timetable where
 Network : Network
 Trips : List Trip
instance enc_Timetable : Enc Timetable := ⟨3, fun x => .agg [Enc.e x.Network.Stops, Enc.e x.Network.Lines, Enc.e x.Trips], fun a b h => by
 simp only [D.agg.injEq, List.cons.injEq, and_true] at h
 obtain ⟨⟨a1, a2⟩, a3⟩ := a
 obtain ⟨⟨b1, b2⟩, b3⟩ := b
 obtain ⟨h1, h2, h3⟩ := h
 have q1 := Enc.inj (α := List ByteArray) a1 b1 h1
 have q2 := Enc.inj (α := List Line) a2 b2 h2
 have q3 := Enc.inj (α := List Trip) a3 b3 h3
 subst q1; subst q2; subst q3; rfl⟩
structure Leg where
 Trip : Int
 From : Int
 To : Int
 Depart : Int
 Arrive : Int
instance enc_Leg : Enc Leg := ⟨5, fun x => .agg [.sc (.int .i64 x.Trip), .sc (.int .i64 x.From), .sc (.int .i64 x.To), .sc (.int .i64 x.Depart), .sc (.int .i64 x.Arrive)], fun a b h => by
 simp only [D.agg.injEq, List.cons.injEq, and_true] at h
 obtain ⟨a1, a2, a3, a4, a5⟩ := a
 obtain ⟨b1, b2, b3, b4, b5⟩ := b
 obtain ⟨h1, h2, h3, h4, h5⟩ := h
 have q1 := Enc.inj (α := Int) a1 b1 h1
 have q2 := Enc.inj (α := Int) a2 b2 h2
 have q3 := Enc.inj (α := Int) a3 b3 h3
 have q4 := Enc.inj (α := Int) a4 b4 h4
 have q5 := Enc.inj (α := Int) a5 b5 h5
 subst q1; subst q2; subst q3; subst q4; subst q5; rfl⟩
structure l8Search where
 t_ : Timetable
 change_ : Int
 to_ : Int
 arrive_ : Int
instance enc_l8Search : Enc l8Search := ⟨6, fun x => .agg [Enc.e x.t_.Network.Stops, Enc.e x.t_.Network.Lines, Enc.e x.t_.Trips, .sc (.int .i64 x.change_), .sc (.int .i64 x.to_), .sc (.int .i64 x.arrive_)], fun a b h => by
 simp only [D.agg.injEq, List.cons.injEq, and_true] at h
 obtain ⟨⟨⟨a1, a2⟩, a3⟩, a4, a5, a6⟩ := a
 obtain ⟨⟨⟨b1, b2⟩, b3⟩, b4, b5, b6⟩ := b
 obtain ⟨h1, h2, h3, h4, h5, h6⟩ := h
 have q1 := Enc.inj (α := List ByteArray) a1 b1 h1
 have q2 := Enc.inj (α := List Line) a2 b2 h2
 have q3 := Enc.inj (α := List Trip) a3 b3 h3
 have q4 := Enc.inj (α := Int) a4 b4 h4
 have q5 := Enc.inj (α := Int) a5 b5 h5
 have q6 := Enc.inj (α := Int) a6 b6 h6
 subst q1; subst q2; subst q3; subst q4; subst q5; subst q6; rfl⟩
instance : BxE l1Cur := ⟨fun x y h => Enc.inj x y (congrArg D.agg h)⟩
instance : BxE Line := ⟨fun x y h => Enc.inj x y (congrArg D.agg h)⟩
instance : BxE Network := ⟨fun x y h => Enc.inj x y (congrArg D.agg h)⟩
instance : BxE Trip := ⟨fun x y h => Enc.inj x y (congrArg D.agg h)⟩
instance : BxE Timetable := ⟨fun x y h => Enc.inj x y (congrArg D.agg h)⟩
instance : BxE Leg := ⟨fun x y h => Enc.inj x y (congrArg D.agg h)⟩
instance : BxE l8Search := ⟨fun x y h => Enc.inj x y (congrArg D.agg h)⟩
instance : FlatEnc Trip := ⟨fun _ => flatDB_ok rfl⟩
instance : FlatEnc Leg := ⟨fun _ => flatDB_ok rfl⟩
noncomputable def v_vBig (code : List UInt8) : Option (Bool) :=
 some (decide (65536 < (code.length : Int)))
noncomputable def s_l1Cur_next (c : l1Cur) : Option (Int × l1Cur) :=
 (if (decide (c.at_ < (c.code_.length : Int))) = true then
  (idx c.code_ c.at_).bind fun e1 =>
  some (w64 ((e1.toNat : Int)))
 else
  some (0 : Int)).bind fun (v : Int) =>
 if (decide ((w64 (c.at_ + 1)) ≤ (c.code_.length : Int))) = true then
  some (v, (⟨c.code_, (w64 (c.at_ + 1)), (⟨(IntKind.u64.wrap ((IntKind.u64.wrap ((IntKind.u64.wrap (c.seed_.v * 6364136223846793005)) + (IntKind.u64.wrap (v)))) + 900900))⟩ : IK .u64)⟩ : l1Cur))
 else
  (chk ((0 : Int) ≤ 40)).bind fun u =>
  some ((w64 ((IntKind.u64.wrap ((BitVec.ofInt (IntKind.u64).bits ((IntKind.u64.wrap ((IntKind.u64.wrap ((IntKind.u64.wrap (c.seed_.v * 6364136223846793005)) + (IntKind.u64.wrap (v)))) + 900900)).fdiv (2 ^ (min (40 : Int).toNat (IntKind.u64).bits))) &&& BitVec.ofInt (IntKind.u64).bits 255).toNat : Int)))), (⟨c.code_, (w64 (c.at_ + 1)), (⟨(IntKind.u64.wrap ((IntKind.u64.wrap ((IntKind.u64.wrap (c.seed_.v * 6364136223846793005)) + (IntKind.u64.wrap (v)))) + 900900))⟩ : IK .u64)⟩ : l1Cur))
noncomputable def s_l1Cur_pick (c : l1Cur) (n : Int) : Option (Int × l1Cur) :=
 if (decide (n ≤ 1)) = true then
  some (0, c)
 else
  (s_l1Cur_next c).bind fun r =>
  (if (decide (200 < n)) = true then
   (s_l1Cur_next r.2).bind fun r1 =>
   some ((w64 ((w64 (r.1 * 256)) + r1.1)), r1.2.code_, r1.2.at_, r1.2.seed_.v)
  else
   some (r.1, r.2.code_, r.2.at_, r.2.seed_.v)).bind fun ((v, v1, v2, v3) : Int × (List UInt8) × Int × Int) =>
  (chk ((n : Int) ≠ 0)).bind fun u =>
  some ((v.tmod n), (⟨v1, v2, (⟨v3⟩ : IK .u64)⟩ : l1Cur))
noncomputable def s_l1Cur_one (c : l1Cur) (n : Int) : Option (Bool × l1Cur) :=
 (s_l1Cur_pick c n).bind fun r =>
 some ((r.1 == 0), r.2)
noncomputable def s_l1Num_F (rec_ : Int → Option (ByteArray)) (n : Int) : Option (ByteArray) :=
 if (decide (n < 0)) = true then
  (rec_ (w64 (0 - n))).bind fun r =>
  (chk ((str [45]).size + r.size ≤ 4294967296)).bind fun u =>
  some ((str [45]) ++ r)
 else
  if (decide (n < 10)) = true then
   (chk ((0 : Int) ≤ n ∧ (n : Int) ≤ (w64 (n + 1)) ∧ (w64 (n + 1)) ≤ ((str [48, 49, 50, 51, 52, 53, 54, 55, 56, 57]).size : Int))).bind fun u1 =>
   some ((str [48, 49, 50, 51, 52, 53, 54, 55, 56, 57]).extract n.toNat (w64 (n + 1)).toNat)
  else
   (chk ((10 : Int) ≠ 0)).bind fun u7 =>
   (rec_ (w64 (n.tdiv 10))).bind fun r2 =>
   (chk ((10 : Int) ≠ 0)).bind fun u8 =>
   (chk ((10 : Int) ≠ 0)).bind fun u9 =>
   (chk ((0 : Int) ≤ (n.tmod 10) ∧ ((n.tmod 10) : Int) ≤ (w64 ((n.tmod 10) + 1)) ∧ (w64 ((n.tmod 10) + 1)) ≤ ((str [48, 49, 50, 51, 52, 53, 54, 55, 56, 57]).size : Int))).bind fun u10 =>
   (chk (r2.size + ((str [48, 49, 50, 51, 52, 53, 54, 55, 56, 57]).extract (n.tmod 10).toNat (w64 ((n.tmod 10) + 1)).toNat).size ≤ 4294967296)).bind fun u11 =>
   some (r2 ++ ((str [48, 49, 50, 51, 52, 53, 54, 55, 56, 57]).extract (n.tmod 10).toNat (w64 ((n.tmod 10) + 1)).toNat))
noncomputable def s_l1Num_k : Nat → Int → Option (ByteArray)
 | 0 => fun _ => none
 | n + 1 => s_l1Num_F (s_l1Num_k n)
noncomputable def s_l1Num (n : Int) : Option (ByteArray) := s_l1Num_k 4294967296 n
noncomputable def s_l2Place_L1 (x : Line) (stop : Int) : Int → Option (Lp (Int) (Fl (Int) (Unit)))
 | v =>
  if (decide (v < (x.Stops.length : Int))) = true then
   (idx x.Stops v).bind fun e =>
   if (e == stop) = true then
    some (.dn (.ret v))
   else
    some (.nx (w64 (v + 1)))
  else
   some (.dn (.go ()))
noncomputable def s_l2Place (x : Line) (stop : Int) : Option (Int) :=
 flb (iter (s_l2Place_L1 x stop) (0 : Int)) fun (_ : Unit) =>
 some (-1)
noncomputable def s_l1Cur_line_L1 (name : ByteArray) (stops : Int) : Int × Int × (List UInt8) × Int × Int × (List Int) → Option (Lp (Int × Int × (List UInt8) × Int × Int × (List Int)) ((List UInt8) × Int × Int × (List Int)))
 | (v, v1, v2, v3, v4, v5) =>
  if (decide (0 < v1)) = true then
   ((s_l2Place (⟨name, v5, ([] : List Int)⟩ : Line) v).bind fun r2 =>
   if (decide (r2 < 0)) = true then
    (chk (v5.length + ([v] : List Int).length ≤ 4294967296)).bind fun u =>
    some (v5 ++ ([v] : List Int))
   else
    some v5).bind fun (v6 : List Int) =>
   (s_l1Cur_pick (⟨v2, v3, (⟨v4⟩ : IK .u64)⟩ : l1Cur) 2).bind fun r3 =>
   (chk ((stops : Int) ≠ 0)).bind fun u1 =>
   some (.nx (((w64 ((w64 (v + 1)) + r3.1)).tmod stops), (w64 (v1 - 1)), r3.2.code_, r3.2.at_, r3.2.seed_.v, v6))
  else
   some (.dn (v2, v3, v4, v5))
noncomputable def s_l1Cur_line_L2 (v11 : List Int) : Int × (List UInt8) × Int × Int × (List Int) → Option (Lp (Int × (List UInt8) × Int × Int × (List Int)) ((List UInt8) × Int × Int × (List Int)))
 | (v12, v13, v14, v15, v16) =>
  if (decide (v12 < (v11.length : Int))) = true then
   (s_l1Cur_pick (⟨v13, v14, (⟨v15⟩ : IK .u64)⟩ : l1Cur) 12).bind fun r5 =>
   (chk (v16.length + ([(w64 (3 + r5.1))] : List Int).length ≤ 4294967296)).bind fun u7 =>
   some (.nx ((w64 (v12 + 1)), r5.2.code_, r5.2.at_, r5.2.seed_.v, (v16 ++ ([(w64 (3 + r5.1))] : List Int))))
  else
   some (.dn (v13, v14, v15, v16))
noncomputable def s_l1Cur_line (c : l1Cur) (name : ByteArray) (stops : Int) : Option (Line × l1Cur) :=
 (s_l1Cur_pick c stops).bind fun r =>
 (s_l1Cur_pick r.2 3).bind fun r1 =>
 (iter (s_l1Cur_line_L1 name stops) (r.1, (w64 (2 + r1.1)), r1.2.code_, r1.2.at_, r1.2.seed_.v, ([] : List Int))).bind fun ((v7, v8, v9, v10) : (List UInt8) × Int × Int × (List Int)) =>
 (if (decide ((v10.length : Int) < 2)) = true then
  (idx v10 0).bind fun e1 =>
  (chk ((stops : Int) ≠ 0)).bind fun u4 =>
  (chk (v10.length + ([((w64 (e1 + 1)).tmod stops)] : List Int).length ≤ 4294967296)).bind fun u5 =>
  some (v10 ++ ([((w64 (e1 + 1)).tmod stops)] : List Int))
 else
  some v10).bind fun (v11 : List Int) =>
 (iter (s_l1Cur_line_L2 v11) ((1 : Int), v7, v8, v9, ([] : List Int))).bind fun ((v17, v18, v19, v20) : (List UInt8) × Int × Int × (List Int)) =>
 some ((⟨name, v11, v20⟩ : Line), (⟨v17, v18, (⟨v19⟩ : IK .u64)⟩ : l1Cur))
noncomputable def s_l1Cur_line_f_L1 (name : ByteArray) (stops : Int) : Int × Int × (List UInt8) × Int × Int × (List Int) → Option (Lp (Int × Int × (List UInt8) × Int × Int × (List Int)) ((List UInt8) × Int × Int × (List Int)))
 | (v, v1, v2, v3, v4, v5) =>
  if (decide (0 < v1)) = true then
   ((s_l2Place (⟨name, v5, ([] : List Int)⟩ : Line) v).bind fun r2 =>
   if (decide (r2 < 0)) = true then
    (chk (v5.length + ([v] : List Int).length ≤ 4294967296)).bind fun u =>
    some (v5 ++ ([v] : List Int))
   else
    some v5).bind fun (v6 : List Int) =>
   (s_l1Cur_pick (⟨v2, v3, (⟨v4⟩ : IK .u64)⟩ : l1Cur) 2).bind fun r3 =>
   (chk ((stops : Int) ≠ 0)).bind fun u1 =>
   some (.nx (((w64 ((w64 (v + 1)) + r3.1)).tmod stops), (w64 (v1 - 1)), r3.2.code_, r3.2.at_, r3.2.seed_.v, v6))
  else
   some (.dn (v2, v3, v4, v5))
noncomputable def s_l1Cur_line_f_L2 (v11 : List Int) : Int × (List UInt8) × Int × Int × (List Int) → Option (Lp (Int × (List UInt8) × Int × Int × (List Int)) ((List UInt8) × Int × Int × (List Int)))
 | (v12, v13, v14, v15, v16) =>
  if (decide (v12 < (v11.length : Int))) = true then
   (s_l1Cur_pick (⟨v13, v14, (⟨v15⟩ : IK .u64)⟩ : l1Cur) 12).bind fun r5 =>
   (chk (v16.length + ([(w64 (3 + r5.1))] : List Int).length ≤ 4294967296)).bind fun u7 =>
   some (.nx ((w64 (v12 + 1)), r5.2.code_, r5.2.at_, r5.2.seed_.v, (v16 ++ ([(w64 (3 + r5.1))] : List Int))))
  else
   some (.dn (v13, v14, v15, v16))
noncomputable def s_l1Cur_line_f (c : l1Cur) (name : ByteArray) (stops : Int) : Option (Line × l1Cur) :=
 (s_l1Cur_pick c stops).bind fun r =>
 (s_l1Cur_pick r.2 3).bind fun r1 =>
 (iter (s_l1Cur_line_f_L1 name stops) (r.1, (w64 (2 + r1.1)), r1.2.code_, r1.2.at_, r1.2.seed_.v, ([] : List Int))).bind fun ((v7, v8, v9, v10) : (List UInt8) × Int × Int × (List Int)) =>
 (if (decide ((v10.length : Int) < 2)) = true then
  (idx v10 0).bind fun e1 =>
  (chk ((stops : Int) ≠ 0)).bind fun u4 =>
  (chk (v10.length + ([((w64 (e1 + 1)).tmod stops)] : List Int).length ≤ 4294967296)).bind fun u5 =>
  some (v10 ++ ([((w64 (e1 + 1)).tmod stops)] : List Int))
 else
  some v10).bind fun (v11 : List Int) =>
 (iter (s_l1Cur_line_f_L2 v11) ((1 : Int), v7, v8, v9, ([] : List Int))).bind fun ((v17, v18, v19, v20) : (List UInt8) × Int × Int × (List Int)) =>
 some ((⟨name, v11, v20⟩ : Line), (⟨v17, v18, (⟨v19⟩ : IK .u64)⟩ : l1Cur))
noncomputable def s_l2Back_L1 (list : List Int) : Int × (List Int) → Option (Lp (Int × (List Int)) ((List Int)))
 | (v, i) =>
  if (decide (0 ≤ v)) = true then
   (idx list v).bind fun e =>
   (chk (i.length + ([e] : List Int).length ≤ 4294967296)).bind fun u =>
   some (.nx ((w64 (v - 1)), (i ++ ([e] : List Int))))
  else
   some (.dn i)
noncomputable def s_l2Back (list : List Int) : Option ((List Int)) :=
 (iter (s_l2Back_L1 list) ((w64 ((list.length : Int) - 1)), ([] : List Int))).bind fun (i1 : List Int) =>
 some i1
noncomputable def s_l2Back_f_L1 (list : List Int) : Int × (List Int) → Option (Lp (Int × (List Int)) ((List Int)))
 | (v, i) =>
  if (decide (0 ≤ v)) = true then
   (idx list v).bind fun e =>
   (chk (i.length + ([e] : List Int).length ≤ 4294967296)).bind fun u =>
   some (.nx ((w64 (v - 1)), (i ++ ([e] : List Int))))
  else
   some (.dn i)
noncomputable def s_l2Back_f (list : List Int) : Option ((List Int)) :=
 (iter (s_l2Back_f_L1 list) ((w64 ((list.length : Int) - 1)), ([] : List Int))).bind fun (i1 : List Int) =>
 some i1
noncomputable def s_l1Own (l : List Int) : Option ((List Int)) :=
 (chk (([] : List Int).length + l.length ≤ 4294967296)).bind fun u =>
 some (([] : List Int) ++ l)
noncomputable def s_l1Own_f (l : List Int) : Option ((List Int)) :=
 (chk (([] : List Int).length + l.length ≤ 4294967296)).bind fun u =>
 some (([] : List Int) ++ l)
noncomputable def s_l2Own_L1 (n : Network) : Int × (List Line) → Option (Lp (Int × (List Line)) ((List Line)))
 | (v, v1) =>
  if (decide (v < (n.Lines.length : Int))) = true then
   (idx n.Lines v).bind fun e3 =>
   (idx n.Lines v).bind fun e4 =>
   (s_l1Own_f e4.Stops).bind fun r2 =>
   (idx n.Lines v).bind fun e5 =>
   (s_l1Own_f e5.Runs).bind fun r3 =>
   (chk (v1.length + ([(⟨e3.Name, r2, r3⟩ : Line)] : List Line).length ≤ 4294967296)).bind fun u2 =>
   some (.nx ((w64 (v + 1)), (v1 ++ ([(⟨e3.Name, r2, r3⟩ : Line)] : List Line))))
  else
   some (.dn v1)
noncomputable def s_l2Own (n : Network) : Option (Network) :=
 (chk (([] : List ByteArray).length + n.Stops.length ≤ 4294967296)).bind fun u =>
 (iter (s_l2Own_L1 n) ((0 : Int), ([] : List Line))).bind fun (v2 : List Line) =>
 some (⟨(([] : List ByteArray) ++ n.Stops), v2⟩ : Network)
noncomputable def s_l1Cur_network_L1 (r : Int × l1Cur) : Int × (List UInt8) × Int × Int × (List Line) → Option (Lp (Int × (List UInt8) × Int × Int × (List Line)) ((List UInt8) × Int × Int × (List Line)))
 | (x, v, v1, v2, v3) =>
  if (decide (0 < x)) = true then
   (s_l1Num x).bind fun r4 =>
   (chk ((str [108]).size + r4.size ≤ 4294967296)).bind fun u3 =>
   (s_l1Cur_line_f (⟨v, v1, (⟨v2⟩ : IK .u64)⟩ : l1Cur) ((str [108]) ++ r4) (w64 (2 + r.1))).bind fun r5 =>
   (chk (v3.length + ([r5.1] : List Line).length ≤ 4294967296)).bind fun u4 =>
   some (.nx ((w64 (x - 1)), r5.2.code_, r5.2.at_, r5.2.seed_.v, (v3 ++ ([r5.1] : List Line))))
  else
   some (.dn (v, v1, v2, v3))
noncomputable def s_l1Cur_network (c : l1Cur) : Option (Network × l1Cur) :=
 (s_l1Cur_pick c 5).bind fun r =>
 (chk ((0 : Int) ≤ 0 ∧ (0 : Int) ≤ (w64 (2 + r.1)) ∧ (w64 (2 + r.1)) ≤ (([(str [112, 111, 114, 116]), (str [109, 105, 108, 108]), (str [112, 97, 114, 107]), (str [104, 97, 108, 108]), (str [100, 111, 99, 107]), (str [102, 97, 105, 114])] : List ByteArray).length : Int))).bind fun u =>
 (s_l1Cur_pick r.2 3).bind fun r1 =>
 (iter (s_l1Cur_network_L1 r) ((w64 (1 + r1.1)), r1.2.code_, r1.2.at_, r1.2.seed_.v, ([] : List Line))).bind fun ((v4, v5, v6, v7) : (List UInt8) × Int × Int × (List Line)) =>
 ((s_l1Cur_one (⟨v4, v5, (⟨v6⟩ : IK .u64)⟩ : l1Cur) 2).bind fun r6 =>
 if r6.1 = true then
  (idx v7 0).bind fun e =>
  (s_l2Back_f e.Stops).bind fun r9 =>
  (s_l2Back_f e.Runs).bind fun r10 =>
  (chk (v7.length + ([(⟨(str [114, 49]), r9, r10⟩ : Line)] : List Line).length ≤ 4294967296)).bind fun u6 =>
  some (r6.2.code_, r6.2.at_, r6.2.seed_.v, (v7 ++ ([(⟨(str [114, 49]), r9, r10⟩ : Line)] : List Line)))
 else
  some (r6.2.code_, r6.2.at_, r6.2.seed_.v, v7)).bind fun ((v8, v9, v10, v11) : (List UInt8) × Int × Int × (List Line)) =>
 (s_l2Own (⟨((([(str [112, 111, 114, 116]), (str [109, 105, 108, 108]), (str [112, 97, 114, 107]), (str [104, 97, 108, 108]), (str [100, 111, 99, 107]), (str [102, 97, 105, 114])] : List ByteArray).take (w64 (2 + r.1)).toNat).drop (0 : Int).toNat), v11⟩ : Network)).bind fun r11 =>
 some ((⟨r11.Stops, r11.Lines⟩ : Network), (⟨v8, v9, (⟨v10⟩ : IK .u64)⟩ : l1Cur))
noncomputable def s_l1Cur_timetable_L1 (r : Network × l1Cur) : Int × Int × (List UInt8) × Int × Int × (List Trip) → Option (Lp (Int × Int × (List UInt8) × Int × Int × (List Trip)) ((List UInt8) × Int × Int × (List Trip)))
 | (n, v, v1, v2, v3, v4) =>
  if (decide (0 < v)) = true then
   (s_l1Cur_pick (⟨v1, v2, (⟨v3⟩ : IK .u64)⟩ : l1Cur) 3).bind fun r2 =>
   (s_l1Cur_pick r2.2 (r.1.Lines.length : Int)).bind fun r5 =>
   (s_l1Cur_pick r5.2 24).bind fun r6 =>
   (chk (v4.length + ([(⟨(w64 ((w64 (n + 1)) + r2.1)), r5.1, (w64 (360 + (w64 (5 * r6.1))))⟩ : Trip)] : List Trip).length ≤ 4294967296)).bind fun u1 =>
   some (.nx ((w64 ((w64 (n + 1)) + r2.1)), (w64 (v - 1)), r6.2.code_, r6.2.at_, r6.2.seed_.v, (v4 ++ ([(⟨(w64 ((w64 (n + 1)) + r2.1)), r5.1, (w64 (360 + (w64 (5 * r6.1))))⟩ : Trip)] : List Trip))))
  else
   some (.dn (v1, v2, v3, v4))
noncomputable def s_l1Cur_timetable (c : l1Cur) : Option (Timetable × l1Cur) :=
 (s_l1Cur_network c).bind fun r =>
 (s_l1Cur_pick r.2 8).bind fun r1 =>
 (iter (s_l1Cur_timetable_L1 r) ((0 : Int), r1.1, r1.2.code_, r1.2.at_, r1.2.seed_.v, ([] : List Trip))).bind fun ((v5, v6, v7, v8) : (List UInt8) × Int × Int × (List Trip)) =>
 some ((⟨(⟨r.1.Stops, r.1.Lines⟩ : Network), v8⟩ : Timetable), (⟨v5, v6, (⟨v7⟩ : IK .u64)⟩ : l1Cur))
noncomputable def s_l1Cur_among (c : l1Cur) (list : List Int) : Option (Int × l1Cur) :=
 (s_l1Cur_pick c (list.length : Int)).bind fun r =>
 (idx list r.1).bind fun e =>
 some (e, r.2)
noncomputable def s_l1Cur_of (c : l1Cur) (list : List ByteArray) : Option (ByteArray × l1Cur) :=
 (s_l1Cur_pick c (list.length : Int)).bind fun r =>
 (idx list r.1).bind fun e =>
 some (e, r.2)
noncomputable def s_l1Cur_of_w (c : l1Cur) (list : List ByteArray) : Option (ByteArray × l1Cur) :=
 (s_l1Cur_pick c (list.length : Int)).bind fun r =>
 (idx list r.1).bind fun e =>
 some (e, r.2)
noncomputable def s_l2Own_t_L1 (n : Network) : Int × (List Line) → Option (Lp (Int × (List Line)) ((List Line)))
 | (v, v1) =>
  if (decide (v < (n.Lines.length : Int))) = true then
   (idx n.Lines v).bind fun e3 =>
   (idx n.Lines v).bind fun e4 =>
   (s_l1Own e4.Stops).bind fun r2 =>
   (idx n.Lines v).bind fun e5 =>
   (s_l1Own e5.Runs).bind fun r3 =>
   (chk (v1.length + ([(⟨e3.Name, r2, r3⟩ : Line)] : List Line).length ≤ 4294967296)).bind fun u2 =>
   some (.nx ((w64 (v + 1)), (v1 ++ ([(⟨e3.Name, r2, r3⟩ : Line)] : List Line))))
  else
   some (.dn v1)
noncomputable def s_l2Own_t (n : Network) : Option (Network) :=
 (chk (([] : List ByteArray).length + n.Stops.length ≤ 4294967296)).bind fun u =>
 (iter (s_l2Own_t_L1 n) ((0 : Int), ([] : List Line))).bind fun (v2 : List Line) =>
 some (⟨(([] : List ByteArray) ++ n.Stops), v2⟩ : Network)
noncomputable def s_l1Cur_network_t_L1 (r : Int × l1Cur) : Int × (List UInt8) × Int × Int × (List Line) → Option (Lp (Int × (List UInt8) × Int × Int × (List Line)) ((List UInt8) × Int × Int × (List Line)))
 | (x, v, v1, v2, v3) =>
  if (decide (0 < x)) = true then
   (s_l1Num x).bind fun r4 =>
   (chk ((str [108]).size + r4.size ≤ 4294967296)).bind fun u3 =>
   (s_l1Cur_line_f (⟨v, v1, (⟨v2⟩ : IK .u64)⟩ : l1Cur) ((str [108]) ++ r4) (w64 (2 + r.1))).bind fun r5 =>
   (chk (v3.length + ([r5.1] : List Line).length ≤ 4294967296)).bind fun u4 =>
   some (.nx ((w64 (x - 1)), r5.2.code_, r5.2.at_, r5.2.seed_.v, (v3 ++ ([r5.1] : List Line))))
  else
   some (.dn (v, v1, v2, v3))
noncomputable def s_l1Cur_network_t (c : l1Cur) : Option (Network × l1Cur) :=
 (s_l1Cur_pick c 5).bind fun r =>
 (chk ((0 : Int) ≤ 0 ∧ (0 : Int) ≤ (w64 (2 + r.1)) ∧ (w64 (2 + r.1)) ≤ (([(str [112, 111, 114, 116]), (str [109, 105, 108, 108]), (str [112, 97, 114, 107]), (str [104, 97, 108, 108]), (str [100, 111, 99, 107]), (str [102, 97, 105, 114])] : List ByteArray).length : Int))).bind fun u =>
 (s_l1Cur_pick r.2 3).bind fun r1 =>
 (iter (s_l1Cur_network_t_L1 r) ((w64 (1 + r1.1)), r1.2.code_, r1.2.at_, r1.2.seed_.v, ([] : List Line))).bind fun ((v4, v5, v6, v7) : (List UInt8) × Int × Int × (List Line)) =>
 ((s_l1Cur_one (⟨v4, v5, (⟨v6⟩ : IK .u64)⟩ : l1Cur) 2).bind fun r6 =>
 if r6.1 = true then
  (idx v7 0).bind fun e =>
  (s_l2Back_f e.Stops).bind fun r9 =>
  (s_l2Back_f e.Runs).bind fun r10 =>
  (chk (v7.length + ([(⟨(str [114, 49]), r9, r10⟩ : Line)] : List Line).length ≤ 4294967296)).bind fun u6 =>
  some (r6.2.code_, r6.2.at_, r6.2.seed_.v, (v7 ++ ([(⟨(str [114, 49]), r9, r10⟩ : Line)] : List Line)))
 else
  some (r6.2.code_, r6.2.at_, r6.2.seed_.v, v7)).bind fun ((v8, v9, v10, v11) : (List UInt8) × Int × Int × (List Line)) =>
 (s_l2Own_t (⟨((([(str [112, 111, 114, 116]), (str [109, 105, 108, 108]), (str [112, 97, 114, 107]), (str [104, 97, 108, 108]), (str [100, 111, 99, 107]), (str [102, 97, 105, 114])] : List ByteArray).take (w64 (2 + r.1)).toNat).drop (0 : Int).toNat), v11⟩ : Network)).bind fun r11 =>
 some ((⟨r11.Stops, r11.Lines⟩ : Network), (⟨v8, v9, (⟨v10⟩ : IK .u64)⟩ : l1Cur))
noncomputable def s_l1Cur_among_w (c : l1Cur) (list : List Int) : Option (Int × l1Cur) :=
 (s_l1Cur_pick c (list.length : Int)).bind fun r =>
 (idx list r.1).bind fun e =>
 some (e, r.2)
noncomputable def s_l1Cur_anyNetwork_L1 (r : Network × l1Cur) : Int × (List UInt8) × Int × Int × (List Line) → Option (Lp (Int × (List UInt8) × Int × Int × (List Line)) ((List UInt8) × Int × Int × (List Line)))
 | (v7, v8, v9, v10, v11) =>
  (s_l1Cur_pick (⟨v8, v9, (⟨v10⟩ : IK .u64)⟩ : l1Cur) 2).bind fun r16 =>
  (if (decide ((v11.length : Int) < (w64 (5 + r16.1)))) = true then some (decide (v7 < 7)) else some false).bind fun (v12 : Bool) =>
  if v12 = true then
   (s_l1Num v7).bind fun r19 =>
   (chk ((str [120]).size + r19.size ≤ 4294967296)).bind fun u3 =>
   (s_l1Cur_line r16.2 ((str [120]) ++ r19) (r.1.Stops.length : Int)).bind fun r20 =>
   (chk (v11.length + ([(⟨r20.1.Name, r20.1.Stops, r20.1.Runs⟩ : Line)] : List Line).length ≤ 4294967296)).bind fun u4 =>
   some (.nx ((w64 (v7 + 1)), r20.2.code_, r20.2.at_, r20.2.seed_.v, (v11 ++ ([(⟨r20.1.Name, r20.1.Stops, r20.1.Runs⟩ : Line)] : List Line))))
  else
   some (.dn (r16.2.code_, r16.2.at_, r16.2.seed_.v, v11))
noncomputable def s_l1Cur_anyNetwork (c : l1Cur) : Option (Network × l1Cur) :=
 (s_l1Cur_network_t c).bind fun r =>
 (s_l1Cur_pick r.2 (r.1.Lines.length : Int)).bind fun r1 =>
 (idx r.1.Lines r1.1).bind fun e =>
 flb ((s_l1Cur_pick r1.2 24).bind fun r2 =>
 if (r2.1 == 0) = true then
  (s_l1Cur_of_w r2.2 ([(str [109, 105, 108, 108]), (str []), (str [65]), (str [97, 98, 99, 100, 101, 102, 103, 104]), (str [97, 98, 99, 100, 101, 102, 103, 104, 105])] : List ByteArray)).bind fun r4 =>
  (idx r.1.Stops 0).bind fun e2 =>
  some (.go (r4.2.code_, r4.2.at_, r4.2.seed_.v, e.Name, (r.1.Stops.set (0 : Int).toNat r4.1), r.1.Lines, e.Runs))
 else
  if (r2.1 == 1) = true then
   (s_l1Cur_of_w r2.2 ([(str [114, 49]), (str [108, 49]), (str []), (str [88])] : List ByteArray)).bind fun r5 =>
   some (.go (r5.2.code_, r5.2.at_, r5.2.seed_.v, r5.1, r.1.Stops, r.1.Lines, e.Runs))
  else
   if (r2.1 == 2) = true then
    (s_l1Cur_pick r2.2 (e.Stops.length : Int)).bind fun r8 =>
    (s_l1Cur_pick r8.2 10).bind fun r9 =>
    (idx e.Stops r8.1).bind fun e4 =>
    some (.go (r9.2.code_, r9.2.at_, r9.2.seed_.v, e.Name, r.1.Stops, (r.1.Lines.set r1.1.toNat (⟨e.Name, (e.Stops.set r8.1.toNat (w64 (r9.1 - 1))), e.Runs⟩ : Line)), ((⟨e.Name, (e.Stops.set r8.1.toNat (w64 (r9.1 - 1))), e.Runs⟩ : Line).Runs)))
   else
    if (r2.1 == 3) = true then
     (s_l1Cur_pick r2.2 (e.Runs.length : Int)).bind fun r12 =>
     (s_l1Cur_among_w r12.2 ([0, 60, 61, (-1)] : List Int)).bind fun r13 =>
     (idx e.Runs r12.1).bind fun e6 =>
     some (.go (r13.2.code_, r13.2.at_, r13.2.seed_.v, e.Name, r.1.Stops, (r.1.Lines.set r1.1.toNat (⟨e.Name, e.Stops, (e.Runs.set r12.1.toNat r13.1)⟩ : Line)), ((⟨e.Name, e.Stops, (e.Runs.set r12.1.toNat r13.1)⟩ : Line).Runs)))
    else
     if (r2.1 == 4) = true then
      (chk (e.Runs.length + ([3] : List Int).length ≤ 4294967296)).bind fun u =>
      some (.go (r2.2.code_, r2.2.at_, r2.2.seed_.v, e.Name, r.1.Stops, r.1.Lines, (e.Runs ++ ([3] : List Int))))
     else
      if (r2.1 == 5) = true then
       some (.ret ((⟨r.1.Stops, ([] : List Line)⟩ : Network), r2.2))
      else
       if (r2.1 == 6) = true then
        (iter (s_l1Cur_anyNetwork_L1 r) ((0 : Int), r2.2.code_, r2.2.at_, r2.2.seed_.v, r.1.Lines)).bind fun ((v13, v14, v15, v16) : (List UInt8) × Int × Int × (List Line)) =>
        some (.ret ((⟨r.1.Stops, v16⟩ : Network), (⟨v13, v14, (⟨v15⟩ : IK .u64)⟩ : l1Cur)))
       else
        some (.go (r2.2.code_, r2.2.at_, r2.2.seed_.v, e.Name, r.1.Stops, r.1.Lines, e.Runs))) fun ((v, v1, v2, v3, v4, v5, v6) : (List UInt8) × Int × Int × ByteArray × (List ByteArray) × (List Line) × (List Int)) =>
 (idx v5 r1.1).bind fun e9 =>
 some ((⟨v4, (v5.set r1.1.toNat (⟨v3, e9.Stops, v6⟩ : Line))⟩ : Network), (⟨v, v1, (⟨v2⟩ : IK .u64)⟩ : l1Cur))
noncomputable def s_l1Cur_anyTimetable_L1 : Int × (List UInt8) × Int × Int × (List Trip) → Option (Lp (Int × (List UInt8) × Int × Int × (List Trip)) ((List UInt8) × Int × Int × (List Trip)))
 | (v8, v9, v10, v11, v12) =>
  (s_l1Cur_pick (⟨v9, v10, (⟨v11⟩ : IK .u64)⟩ : l1Cur) 2).bind fun r8 =>
  (if (decide ((v12.length : Int) < (w64 (12 + r8.1)))) = true then some (decide (v8 < 14)) else some false).bind fun (v13 : Bool) =>
  if v13 = true then
   (chk (v12.length + ([(⟨(w64 (100 + v8)), 0, (w64 (400 + v8))⟩ : Trip)] : List Trip).length ≤ 4294967296)).bind fun u =>
   some (.nx ((w64 (v8 + 1)), r8.2.code_, r8.2.at_, r8.2.seed_.v, (v12 ++ ([(⟨(w64 (100 + v8)), 0, (w64 (400 + v8))⟩ : Trip)] : List Trip))))
  else
   some (.dn (r8.2.code_, r8.2.at_, r8.2.seed_.v, v12))
noncomputable def s_l1Cur_anyTimetable (c : l1Cur) : Option (Timetable × l1Cur) :=
 (s_l1Cur_timetable c).bind fun r =>
 if ((r.1.Trips.length : Int) == 0) = true then
  some ((⟨(⟨r.1.Network.Stops, r.1.Network.Lines⟩ : Network), r.1.Trips⟩ : Timetable), r.2)
 else
  (s_l1Cur_pick r.2 (r.1.Trips.length : Int)).bind fun r1 =>
  (idx r.1.Trips r1.1).bind fun e =>
  flb ((s_l1Cur_pick r1.2 24).bind fun r2 =>
  if (r2.1 == 0) = true then
   (s_l1Cur_among r2.2 ([0, 999, 1000, 2] : List Int)).bind fun r3 =>
   some (.go (r3.2.code_, r3.2.at_, r3.2.seed_.v, r.1.Network.Lines, r3.1, e.Line, e.Start, r.1.Network.Stops))
  else
   if (r2.1 == 1) = true then
    (s_l1Cur_pick r2.2 7).bind fun r4 =>
    some (.go (r4.2.code_, r4.2.at_, r4.2.seed_.v, r.1.Network.Lines, e.Id, (w64 (r4.1 - 1)), e.Start, r.1.Network.Stops))
   else
    if (r2.1 == 2) = true then
     (s_l1Cur_among r2.2 ([(-1), 0, 1799, 1798, 1800] : List Int)).bind fun r5 =>
     some (.go (r5.2.code_, r5.2.at_, r5.2.seed_.v, r.1.Network.Lines, e.Id, e.Line, r5.1, r.1.Network.Stops))
    else
     if (r2.1 == 3) = true then
      (s_l1Cur_anyNetwork r2.2).bind fun r6 =>
      some (.go (r6.2.code_, r6.2.at_, r6.2.seed_.v, r6.1.Lines, e.Id, e.Line, e.Start, r6.1.Stops))
     else
      if (r2.1 == 4) = true then
       (iter (s_l1Cur_anyTimetable_L1) ((0 : Int), r2.2.code_, r2.2.at_, r2.2.seed_.v, r.1.Trips)).bind fun ((v14, v15, v16, v17) : (List UInt8) × Int × Int × (List Trip)) =>
       some (.ret ((⟨(⟨r.1.Network.Stops, r.1.Network.Lines⟩ : Network), v17⟩ : Timetable), (⟨v14, v15, (⟨v16⟩ : IK .u64)⟩ : l1Cur)))
      else
       some (.go (r2.2.code_, r2.2.at_, r2.2.seed_.v, r.1.Network.Lines, e.Id, e.Line, e.Start, r.1.Network.Stops))) fun ((v, v1, v2, v3, v4, v5, v6, v7) : (List UInt8) × Int × Int × (List Line) × Int × Int × Int × (List ByteArray)) =>
  (idx r.1.Trips r1.1).bind fun e2 =>
  some ((⟨(⟨v7, v3⟩ : Network), (r.1.Trips.set r1.1.toNat (⟨v4, v5, v6⟩ : Trip))⟩ : Timetable), (⟨v, v1, (⟨v2⟩ : IK .u64)⟩ : l1Cur))
noncomputable def s_l1Most (a : Int) (b : Int) : Option (Int) :=
 if (decide (b < a)) = true then
  some a
 else
  some b
noncomputable def s_l1Cur_trips_L1 (r2 : Network × l1Cur) : Int × (List UInt8) × Int × Int × (List Trip) → Option (Lp (Int × (List UInt8) × Int × Int × (List Trip)) ((List UInt8) × Int × Int × (List Trip)))
 | (i, v, v1, v2, v3) =>
  if (decide (0 < i)) = true then
   (s_l1Cur_pick (⟨v, v1, (⟨v2⟩ : IK .u64)⟩ : l1Cur) 2).bind fun r7 =>
   (s_l1Cur_pick r7.2 (r2.1.Lines.length : Int)).bind fun r8 =>
   (s_l1Cur_pick r8.2 16).bind fun r9 =>
   (chk (v3.length + ([(⟨(w64 ((w64 ((v3.length : Int) + 1)) + (w64 ((w64 (2 * (v3.length : Int))) * r7.1)))), r8.1, (w64 (360 + (w64 (5 * r9.1))))⟩ : Trip)] : List Trip).length ≤ 4294967296)).bind fun u1 =>
   some (.nx ((w64 (i - 1)), r9.2.code_, r9.2.at_, r9.2.seed_.v, (v3 ++ ([(⟨(w64 ((w64 ((v3.length : Int) + 1)) + (w64 ((w64 (2 * (v3.length : Int))) * r7.1)))), r8.1, (w64 (360 + (w64 (5 * r9.1))))⟩ : Trip)] : List Trip))))
  else
   some (.dn (v, v1, v2, v3))
noncomputable def s_l1Cur_trips_L2 : Int × (List Trip) → Option (Lp (Int × (List Trip)) ((List Trip)))
 | (x, v8) =>
  if (decide (x < (v8.length : Int))) = true then
   (idx v8 x).bind fun e =>
   (idx v8 (w64 (x - 1))).bind fun e2 =>
   (s_l1Most e.Id (w64 (e2.Id + 1))).bind fun r11 =>
   (idx v8 x).bind fun e3 =>
   some (.nx ((w64 (x + 1)), (v8.set x.toNat (⟨r11, e.Line, e.Start⟩ : Trip))))
  else
   some (.dn v8)
noncomputable def s_l1Cur_trips (c : l1Cur) : Option (Timetable × l1Cur) :=
 (s_l1Cur_one c 16).bind fun r =>
 if r.1 = true then
  (s_l1Cur_anyTimetable r.2).bind fun r1 =>
  some ((⟨(⟨r1.1.Network.Stops, r1.1.Network.Lines⟩ : Network), r1.1.Trips⟩ : Timetable), r1.2)
 else
  (s_l1Cur_network r.2).bind fun r2 =>
  (s_l1Cur_pick r2.2 6).bind fun r3 =>
  (iter (s_l1Cur_trips_L1 r2) ((w64 (3 + r3.1)), r3.2.code_, r3.2.at_, r3.2.seed_.v, ([] : List Trip))).bind fun ((v4, v5, v6, v7) : (List UInt8) × Int × Int × (List Trip)) =>
  (iter (s_l1Cur_trips_L2) ((1 : Int), v7)).bind fun (v9 : List Trip) =>
  some ((⟨(⟨r2.1.Stops, r2.1.Lines⟩ : Network), v9⟩ : Timetable), (⟨v4, v5, (⟨v6⟩ : IK .u64)⟩ : l1Cur))
noncomputable def s_l1Cur_change (c : l1Cur) : Option (Int × l1Cur) :=
 (s_l1Cur_among c ([0, 3, 5, 2, 10, 0, 30, 31, (-1)] : List Int)).bind fun r =>
 some (r.1, r.2)
noncomputable def s_l1Cur_time (c : l1Cur) : Option (Int × l1Cur) :=
 (s_l1Cur_one c 16).bind fun r =>
 if r.1 = true then
  (s_l1Cur_among r.2 ([0, 1799, 1800, (-1), 1440, 1439] : List Int)).bind fun r1 =>
  some (r1.1, r1.2)
 else
  (s_l1Cur_pick r.2 240).bind fun r2 =>
  some ((w64 (360 + r2.1)), r2.2)
noncomputable def s_l1Cur_query (c : l1Cur) : Option (Timetable × Int × Int × Int × Int × l1Cur) :=
 (s_l1Cur_trips c).bind fun r =>
 (if (decide ((r.1.Network.Stops.length : Int) < 2)) = true then some (true, r.2.code_, r.2.at_, r.2.seed_.v) else (s_l1Cur_one r.2 10).bind fun r1 =>
 some (r1.1, r1.2.code_, r1.2.at_, r1.2.seed_.v)).bind fun ((v, v1, v2, v3) : Bool × (List UInt8) × Int × Int) =>
 if v = true then
  (s_l1Cur_change (⟨v1, v2, (⟨v3⟩ : IK .u64)⟩ : l1Cur)).bind fun r6 =>
  (s_l1Cur_pick r6.2 8).bind fun r7 =>
  (s_l1Cur_pick r7.2 8).bind fun r8 =>
  (s_l1Cur_time r8.2).bind fun r9 =>
  some ((⟨(⟨r.1.Network.Stops, r.1.Network.Lines⟩ : Network), r.1.Trips⟩ : Timetable), r6.1, (w64 (r7.1 - 1)), (w64 (r8.1 - 1)), r9.1, r9.2)
 else
  (s_l1Cur_pick (⟨v1, v2, (⟨v3⟩ : IK .u64)⟩ : l1Cur) (r.1.Network.Stops.length : Int)).bind fun r10 =>
  (s_l1Cur_change r10.2).bind fun r14 =>
  (s_l1Cur_pick r14.2 (w64 ((r.1.Network.Stops.length : Int) - 1))).bind fun r15 =>
  (chk (((r.1.Network.Stops.length : Int) : Int) ≠ 0)).bind fun u1 =>
  (s_l1Cur_pick r15.2 12).bind fun r16 =>
  some ((⟨(⟨r.1.Network.Stops, r.1.Network.Lines⟩ : Network), r.1.Trips⟩ : Timetable), r14.1, r10.1, ((w64 ((w64 (r10.1 + 1)) + r15.1)).tmod (r.1.Network.Stops.length : Int)), (w64 (360 + (w64 (5 * r16.1)))), r16.2)
noncomputable def s_DrawEarliestJourney (code : List UInt8) : Option (Timetable × Int × Int × Int × Int) :=
 (s_l1Cur_query (⟨code, 0, (⟨0⟩ : IK .u64)⟩ : l1Cur)).bind fun r =>
 some ((⟨(⟨r.1.Network.Stops, r.1.Network.Lines⟩ : Network), r.1.Trips⟩ : Timetable), r.2.1, r.2.2.1, r.2.2.2.1, r.2.2.2.2.1)
noncomputable def s_DrawParetoJourneys (code : List UInt8) : Option (Timetable × Int × Int × Int × Int) :=
 (s_DrawEarliestJourney code).bind fun r =>
 some ((⟨(⟨r.1.Network.Stops, r.1.Network.Lines⟩ : Network), r.1.Trips⟩ : Timetable), r.2.1, r.2.2.1, r.2.2.2.1, r.2.2.2.2)
noncomputable def i_within (n : Int) (lo : Int) (hi : Int) : Option (Bool) :=
 (if (decide (lo ≤ n)) = true then some (decide (n ≤ hi)) else some false).bind fun (v : Bool) =>
 some v
noncomputable def i_isName_L1 (s : ByteArray) : Int → Option (Lp (Int) (Fl (Bool) (Unit)))
 | v1 =>
  if (decide (v1 < (s.size : Int))) = true then
   (chk ((0 : Int) ≤ v1 ∧ v1 < (s.size : Int))).bind fun u =>
   (if (decide (97 ≤ ((s.data.toList.getD v1.toNat 0).toNat : Int))) = true then (chk ((0 : Int) ≤ v1 ∧ v1 < (s.size : Int))).bind fun u1 =>
   some (decide (((s.data.toList.getD v1.toNat 0).toNat : Int) ≤ 122)) else some false).bind fun (v2 : Bool) =>
   (if (!v2) = true then if (v1 == 0) = true then some true else (chk ((0 : Int) ≤ v1 ∧ v1 < (s.size : Int))).bind fun u2 =>
   if (decide (((s.data.toList.getD v1.toNat 0).toNat : Int) < 48)) = true then some true else (chk ((0 : Int) ≤ v1 ∧ v1 < (s.size : Int))).bind fun u3 =>
   some (decide (57 < ((s.data.toList.getD v1.toNat 0).toNat : Int))) else some false).bind fun (v3 : Bool) =>
   if v3 = true then
    some (.dn (.ret false))
   else
    some (.nx (w64 (v1 + 1)))
  else
   some (.dn (.go ()))
noncomputable def i_isName (s : ByteArray) : Option (Bool) :=
 (if (decide ((s.size : Int) < 1)) = true then some true else some (decide (8 < (s.size : Int)))).bind fun (v : Bool) =>
 if v = true then
  some false
 else
  flb (iter (i_isName_L1 s) (0 : Int)) fun (_ : Unit) =>
  some true
noncomputable def slices_Index_string_L1 (s : List ByteArray) (v : ByteArray) : Int → Option (Lp (Int) (Fl (Int) (Unit)))
 | v1 =>
  if (decide (v1 < (s.length : Int))) = true then
   (idx s v1).bind fun e =>
   if (v.toList == e.toList) = true then
    some (.dn (.ret v1))
   else
    some (.nx (w64 (v1 + 1)))
  else
   some (.dn (.go ()))
noncomputable def slices_Index_string (s : List ByteArray) (v : ByteArray) : Option (Int) :=
 flb (iter (slices_Index_string_L1 s v) (0 : Int)) fun (_ : Unit) =>
 some (-1)
noncomputable def i_areNames_L1 (names : List ByteArray) : Int → Option (Lp (Int) (Fl (Bool) (Unit)))
 | v =>
  if (decide (v < (names.length : Int))) = true then
   (idx names v).bind fun e =>
   (i_isName e).bind fun r =>
   (if (!r) = true then some true else (slices_Index_string names e).bind fun r1 =>
   some (r1 != v)).bind fun (v1 : Bool) =>
   if v1 = true then
    some (.dn (.ret false))
   else
    some (.nx (w64 (v + 1)))
  else
   some (.dn (.go ()))
noncomputable def i_areNames (names : List ByteArray) : Option (Bool) :=
 flb (iter (i_areNames_L1 names) (0 : Int)) fun (_ : Unit) =>
 some true
noncomputable def i_lineNames_L1 (n : Network) : Int × (List ByteArray) → Option (Lp (Int × (List ByteArray)) ((List ByteArray)))
 | (v, i) =>
  if (decide (v < (n.Lines.length : Int))) = true then
   (idx n.Lines v).bind fun e =>
   (idx i v).bind fun e1 =>
   some (.nx ((w64 (v + 1)), (i.set v.toNat e.Name)))
  else
   some (.dn i)
noncomputable def i_lineNames (n : Network) : Option ((List ByteArray)) :=
 (chk ((0 : Int) ≤ (n.Lines.length : Int) ∧ ((n.Lines.length : Int) : Int) ≤ 4294967296)).bind fun u =>
 (iter (i_lineNames_L1 n) ((0 : Int), (List.replicate (n.Lines.length : Int).toNat (ByteArray.empty : ByteArray)))).bind fun (i1 : List ByteArray) =>
 some i1
noncomputable def i_isStop (n : Network) (stop : Int) : Option (Bool) :=
 (if (decide (0 ≤ stop)) = true then some (decide (stop < (n.Stops.length : Int))) else some false).bind fun (v : Bool) =>
 some v
noncomputable def slices_Index_int_L1 (s : List Int) (v : Int) : Int → Option (Lp (Int) (Fl (Int) (Unit)))
 | v1 =>
  if (decide (v1 < (s.length : Int))) = true then
   (idx s v1).bind fun e =>
   if (v == e) = true then
    some (.dn (.ret v1))
   else
    some (.nx (w64 (v1 + 1)))
  else
   some (.dn (.go ()))
noncomputable def slices_Index_int (s : List Int) (v : Int) : Option (Int) :=
 flb (iter (slices_Index_int_L1 s v) (0 : Int)) fun (_ : Unit) =>
 some (-1)
noncomputable def i_isValidLine_L1 (n : Network) (l : Line) : Int → Option (Lp (Int) (Fl (Bool) (Unit)))
 | v1 =>
  if (decide (v1 < (l.Stops.length : Int))) = true then
   (idx l.Stops v1).bind fun e =>
   (i_isStop n e).bind fun r1 =>
   (if (!r1) = true then some true else (slices_Index_int l.Stops e).bind fun r2 =>
   some (r2 != v1)).bind fun (v2 : Bool) =>
   if v2 = true then
    some (.dn (.ret false))
   else
    some (.nx (w64 (v1 + 1)))
  else
   some (.dn (.go ()))
noncomputable def i_isValidLine_L2 (l : Line) : Int → Option (Lp (Int) (Fl (Bool) (Unit)))
 | v3 =>
  if (decide (v3 < (l.Runs.length : Int))) = true then
   (idx l.Runs v3).bind fun e2 =>
   (i_within e2 1 60).bind fun r4 =>
   if (!r4) = true then
    some (.dn (.ret false))
   else
    some (.nx (w64 (v3 + 1)))
  else
   some (.dn (.go ()))
noncomputable def i_isValidLine (n : Network) (l : Line) : Option (Bool) :=
 (i_within (l.Stops.length : Int) 2 6).bind fun r =>
 (if (!r) = true then some true else some ((l.Runs.length : Int) != (w64 ((l.Stops.length : Int) - 1)))).bind fun (v : Bool) =>
 if v = true then
  some false
 else
  flb (iter (i_isValidLine_L1 n l) (0 : Int)) fun (_ : Unit) =>
  flb (iter (i_isValidLine_L2 l) (0 : Int)) fun (_ : Unit) =>
  some true
noncomputable def i_IsValidNetwork_L1 (n : Network) : Int → Option (Lp (Int) (Fl (Bool) (Unit)))
 | v1 =>
  if (decide (v1 < (n.Lines.length : Int))) = true then
   (idx n.Lines v1).bind fun e =>
   (i_isValidLine n e).bind fun r5 =>
   if (!r5) = true then
    some (.dn (.ret false))
   else
    some (.nx (w64 (v1 + 1)))
  else
   some (.dn (.go ()))
noncomputable def i_IsValidNetwork (n : Network) : Option (Bool) :=
 (i_within (n.Stops.length : Int) 2 8).bind fun r =>
 (if (!r) = true then some true else (i_within (n.Lines.length : Int) 1 5).bind fun r1 =>
 if (!r1) = true then some true else (i_areNames n.Stops).bind fun r2 =>
 if (!r2) = true then some true else (i_lineNames n).bind fun r3 =>
 (i_areNames r3).bind fun r4 =>
 some (!r4)).bind fun (v : Bool) =>
 if v = true then
  some false
 else
  flb (iter (i_IsValidNetwork_L1 n) (0 : Int)) fun (_ : Unit) =>
  some true
noncomputable def i_isLine (n : Network) (line : Int) : Option (Bool) :=
 (if (decide (0 ≤ line)) = true then some (decide (line < (n.Lines.length : Int))) else some false).bind fun (v : Bool) =>
 some v
noncomputable def i_IsValidTime (t : Int) : Option (Bool) :=
 (i_within t 0 1799).bind fun r =>
 some r
noncomputable def i_total_L1 (list : List Int) : Int × Int → Option (Lp (Int × Int) (Int))
 | (v, v1) =>
  if (decide (v1 < (list.length : Int))) = true then
   (idx list v1).bind fun e =>
   some (.nx ((w64 (v + e)), (w64 (v1 + 1))))
  else
   some (.dn v)
noncomputable def i_total (list : List Int) : Option (Int) :=
 (iter (i_total_L1 list) ((0 : Int), (0 : Int))).bind fun (v2 : Int) =>
 some v2
noncomputable def i_endOf (t : Timetable) (x : Trip) : Option (Int) :=
 (idx t.Network.Lines x.Line).bind fun e1 =>
 (i_total e1.Runs).bind fun r1 =>
 some (w64 (x.Start + r1))
noncomputable def i_areTrips_L1 (t : Timetable) : Int × Int → Option (Lp (Int × Int) (Fl (Bool) (Unit)))
 | (v, v1) =>
  if (decide (v1 < (t.Trips.length : Int))) = true then
   (idx t.Trips v1).bind fun e =>
   (if (decide (e.Id ≤ v)) = true then some true else if (decide (999 < e.Id)) = true then some true else (i_isLine t.Network e.Line).bind fun r =>
   if (!r) = true then some true else (i_IsValidTime e.Start).bind fun r1 =>
   if (!r1) = true then some true else (i_endOf t e).bind fun r2 =>
   (i_IsValidTime r2).bind fun r3 =>
   some (!r3)).bind fun (v2 : Bool) =>
   if v2 = true then
    some (.dn (.ret false))
   else
    some (.nx (e.Id, (w64 (v1 + 1))))
  else
   some (.dn (.go ()))
noncomputable def i_areTrips (t : Timetable) : Option (Bool) :=
 if (decide (12 < (t.Trips.length : Int))) = true then
  some false
 else
  flb (iter (i_areTrips_L1 t) ((0 : Int), (0 : Int))) fun (_ : Unit) =>
  some true
noncomputable def i_IsValidTimetable (t : Timetable) : Option (Bool) :=
 (i_IsValidNetwork t.Network).bind fun r =>
 (if r = true then (i_areTrips t).bind fun r1 =>
 some r1 else some false).bind fun (v : Bool) =>
 some v
noncomputable def i_isChange (change : Int) : Option (Bool) :=
 (i_within change 0 30).bind fun r =>
 some r
noncomputable def i_isPair (t : Timetable) (change : Int) (from_ : Int) (to_ : Int) : Option (Bool) :=
 (i_IsValidTimetable t).bind fun r =>
 (if r = true then (i_isChange change).bind fun r1 =>
 if r1 = true then (i_isStop t.Network from_).bind fun r2 =>
 if r2 = true then (i_isStop t.Network to_).bind fun r3 =>
 if r3 = true then some (from_ != to_) else some false else some false else some false else some false).bind fun (v : Bool) =>
 some v
noncomputable def i_readyAt_L1 (t : Timetable) : Int × (List Int) → Option (Lp (Int × (List Int)) ((List Int)))
 | (v, v1) =>
  if (decide (v < ((List.replicate (t.Network.Stops.length : Int).toNat (0 : Int)).length : Int))) = true then
   (idx v1 v).bind fun e =>
   some (.nx ((w64 (v + 1)), (v1.set v.toNat 1073741824)))
  else
   some (.dn v1)
noncomputable def i_readyAt (t : Timetable) (stop : Int) (at_ : Int) : Option ((List Int)) :=
 (chk ((0 : Int) ≤ (t.Network.Stops.length : Int) ∧ ((t.Network.Stops.length : Int) : Int) ≤ 4294967296)).bind fun u =>
 (iter (i_readyAt_L1 t) ((0 : Int), (List.replicate (t.Network.Stops.length : Int).toNat (0 : Int)))).bind fun (v2 : List Int) =>
 (idx v2 stop).bind fun e1 =>
 some (v2.set stop.toNat at_)
noncomputable def i_lineOf (t : Timetable) (x : Trip) : Option (Line) :=
 (idx t.Network.Lines x.Line).bind fun e =>
 some e
noncomputable def i_stopTimes_L1 (r : Line) : Int × (List Int) → Option (Lp (Int × (List Int)) ((List Int)))
 | (v, r1) =>
  if (decide (v < (r.Runs.length : Int))) = true then
   (idx r.Runs v).bind fun e =>
   (idx r1 v).bind fun e1 =>
   (chk (r1.length + ([(w64 (e1 + e))] : List Int).length ≤ 4294967296)).bind fun u =>
   some (.nx ((w64 (v + 1)), (r1 ++ ([(w64 (e1 + e))] : List Int))))
  else
   some (.dn r1)
noncomputable def i_stopTimes (t : Timetable) (x : Trip) : Option ((List Int)) :=
 (i_lineOf t x).bind fun r =>
 (iter (i_stopTimes_L1 r) ((0 : Int), ([x.Start] : List Int))).bind fun (r2 : List Int) =>
 some r2
noncomputable def i_ride_L1 (ready : List Int) : Int × (List Int) → Option (Lp (Int × (List Int)) ((List Int)))
 | (v, v1) =>
  if (decide (v < ((List.replicate (ready.length : Int).toNat (0 : Int)).length : Int))) = true then
   (idx v1 v).bind fun e =>
   some (.nx ((w64 (v + 1)), (v1.set v.toNat 1073741824)))
  else
   some (.dn v1)
noncomputable def i_ride_L2 (ready : List Int) (r : (List Int)) (r1 : Line) : Bool × Int × (List Int) → Option (Lp (Bool × Int × (List Int)) ((List Int)))
 | (s1, v5, v6) =>
  if (decide (v5 < (r1.Stops.length : Int))) = true then
   (idx r1.Stops v5).bind fun e2 =>
   (if s1 = true then
    (idx v6 e2).bind fun e6 =>
    (idx r v5).bind fun e7 =>
    (idx v6 e2).bind fun e8 =>
    some (v6.set e2.toNat (if e7 < e6 then e7 else e6))
   else
    some v6).bind fun (v7 : List Int) =>
   if s1 = true then some (.nx (true, (w64 (v5 + 1)), v7)) else (idx ready e2).bind fun e11 =>
   (idx r v5).bind fun e12 =>
   some (.nx ((decide (e11 ≤ e12)), (w64 (v5 + 1)), v7))
  else
   some (.dn v6)
noncomputable def i_ride_L3 (t : Timetable) (ready : List Int) : Int × (List Int) → Option (Lp (Int × (List Int)) ((List Int)))
 | (v3, v4) =>
  if (decide (v3 < (t.Trips.length : Int))) = true then
   (idx t.Trips v3).bind fun e1 =>
   (i_stopTimes t e1).bind fun r =>
   (i_lineOf t e1).bind fun r1 =>
   (iter (i_ride_L2 ready r r1) (false, (0 : Int), v4)).bind fun (v8 : List Int) =>
   some (.nx ((w64 (v3 + 1)), v8))
  else
   some (.dn v4)
noncomputable def i_ride (t : Timetable) (ready : List Int) : Option ((List Int)) :=
 (chk ((0 : Int) ≤ (ready.length : Int) ∧ ((ready.length : Int) : Int) ≤ 4294967296)).bind fun u =>
 (iter (i_ride_L1 ready) ((0 : Int), (List.replicate (ready.length : Int).toNat (0 : Int)))).bind fun (v2 : List Int) =>
 (iter (i_ride_L3 t ready) ((0 : Int), v2)).bind fun (v9 : List Int) =>
 some v9
noncomputable def i_arrivals_L1 (ready : List Int) : Int × (List Int) → Option (Lp (Int × (List Int)) ((List Int)))
 | (v, a) =>
  if (decide (v < ((List.replicate (ready.length : Int).toNat (0 : Int)).length : Int))) = true then
   (idx a v).bind fun e =>
   some (.nx ((w64 (v + 1)), (a.set v.toNat 1073741824)))
  else
   some (.dn a)
noncomputable def i_arrivals_L2 (change : Int) (r : (List Int)) : Int × (List Int) × (List Int) → Option (Lp (Int × (List Int) × (List Int)) ((List Int) × (List Int)))
 | (v2, ready2, a3) =>
  if (decide (v2 < (r.length : Int))) = true then
   ((idx r v2).bind fun e1 =>
   (idx ready2 v2).bind fun e2 =>
   (idx a3 v2).bind fun e3 =>
   if (decide (e1 < e3)) = true then
    (idx a3 v2).bind fun e4 =>
    (idx (ready2.set v2.toNat 1073741824) v2).bind fun e5 =>
    some (((ready2.set v2.toNat 1073741824).set v2.toNat (w64 (e1 + change))), (a3.set v2.toNat e1))
   else
    some ((ready2.set v2.toNat 1073741824), a3)).bind fun ((ready3, a4) : (List Int) × (List Int)) =>
   some (.nx ((w64 (v2 + 1)), ready3, a4))
  else
   some (.dn (ready2, a3))
noncomputable def i_arrivals_L3 (t : Timetable) (change : Int) (legs : Int) : (List Int) × Int × (List Int) → Option (Lp ((List Int) × Int × (List Int)) ((List Int)))
 | (ready1, v1, a2) =>
  if (decide (v1 < legs)) = true then
   (i_ride t ready1).bind fun r =>
   (chk ((0 : Int) ≤ (a2.length : Int) ∧ ((a2.length : Int) : Int) ≤ 4294967296)).bind fun u1 =>
   (iter (i_arrivals_L2 change r) ((0 : Int), (List.replicate (a2.length : Int).toNat (0 : Int)), a2)).bind fun ((ready4, a5) : (List Int) × (List Int)) =>
   some (.nx (ready4, (w64 (v1 + 1)), a5))
  else
   some (.dn a2)
noncomputable def i_arrivals (t : Timetable) (change : Int) (ready : List Int) (legs : Int) : Option ((List Int)) :=
 (chk ((0 : Int) ≤ (ready.length : Int) ∧ ((ready.length : Int) : Int) ≤ 4294967296)).bind fun u =>
 (iter (i_arrivals_L1 ready) ((0 : Int), (List.replicate (ready.length : Int).toNat (0 : Int)))).bind fun (a1 : List Int) =>
 (iter (i_arrivals_L3 t change legs) (ready, (0 : Int), a1)).bind fun (a6 : List Int) =>
 some a6
noncomputable def i_fillLeg (t : Timetable) (x : Trip) (from_ : Int) (to_ : Int) : Option (Leg × Bool) :=
 (i_lineOf t x).bind fun r =>
 (slices_Index_int r.Stops from_).bind fun r1 =>
 (slices_Index_int r.Stops to_).bind fun r2 =>
 (if (decide (r1 < 0)) = true then some true else some (decide (r2 ≤ r1))).bind fun (v : Bool) =>
 if v = true then
  some ((⟨0, 0, 0, 0, 0⟩ : Leg), false)
 else
  (i_stopTimes t x).bind fun r3 =>
  (idx r3 r1).bind fun e2 =>
  (idx r3 r2).bind fun e3 =>
  some ((⟨x.Id, from_, to_, e2, e3⟩ : Leg), true)
noncomputable def i_firstLeg_L1 (t : Timetable) (change : Int) (stop : Int) (to_ : Int) (ready : Int) (by_ : Int) (legs : Int) (e : Trip) : Int → Option (Lp (Int) (Fl (Lp (Int) (Fl (Leg) (Unit))) (Unit)))
 | v1 =>
  if (decide (v1 < (t.Network.Stops.length : Int))) = true then
   flb ((i_fillLeg t e stop v1).bind fun r =>
   (if (!r.2) = true then some true else some (decide (r.1.Depart < ready))).bind fun (v2 : Bool) =>
   if v2 = true then
    some (.go ())
   else
    (if (legs == 1) = true then if (v1 == to_) = true then some (decide (r.1.Arrive ≤ by_)) else some false else some false).bind fun (v3 : Bool) =>
    if v3 = true then
     some (.ret (.dn (.ret (.dn (.ret r.1)))))
    else
     (if (decide (1 < legs)) = true then (i_readyAt t v1 (w64 (r.1.Arrive + change))).bind fun r6 =>
     (i_arrivals t change r6 (w64 (legs - 1))).bind fun r7 =>
     (idx r7 to_).bind fun e5 =>
     some (decide (e5 ≤ by_)) else some false).bind fun (v4 : Bool) =>
     if v4 = true then
      some (.ret (.dn (.ret (.dn (.ret r.1)))))
     else
      some (.go ())) fun (_ : Unit) =>
   some (.nx (w64 (v1 + 1)))
  else
   some (.dn (.go ()))
noncomputable def i_firstLeg_L2 (t : Timetable) (change : Int) (stop : Int) (to_ : Int) (ready : Int) (by_ : Int) (legs : Int) : Int → Option (Lp (Int) (Fl (Leg) (Unit)))
 | v =>
  if (decide (v < (t.Trips.length : Int))) = true then
   (idx t.Trips v).bind fun e =>
   flb (iter (i_firstLeg_L1 t change stop to_ ready by_ legs e) (0 : Int)) fun (_ : Unit) =>
   some (.nx (w64 (v + 1)))
  else
   some (.dn (.go ()))
noncomputable def i_firstLeg (t : Timetable) (change : Int) (stop : Int) (to_ : Int) (ready : Int) (by_ : Int) (legs : Int) : Option (Leg) :=
 flb (iter (i_firstLeg_L2 t change stop to_ ready by_ legs) (0 : Int)) fun (_ : Unit) =>
 some (⟨0, 0, 0, 0, 0⟩ : Leg)
noncomputable def i_firstJourney_L1 (t : Timetable) (change : Int) (from_ : Int) (to_ : Int) (at_ : Int) (e1 : Int) : Int → Option (Lp (Int) (Int))
 | v =>
  (i_readyAt t from_ at_).bind fun r6 =>
  (i_arrivals t change r6 v).bind fun r7 =>
  (idx r7 to_).bind fun e3 =>
  if (decide (e1 < e3)) = true then
   some (.nx (w64 (v + 1)))
  else
   some (.dn v)
noncomputable def i_firstJourney_L2 (t : Timetable) (change : Int) (to_ : Int) (e1 : Int) : Int × Int × Int × (List Leg) → Option (Lp (Int × Int × Int × (List Leg)) ((List Leg)))
 | (v2, v3, v4, v5) =>
  if (decide (0 < v2)) = true then
   (i_firstLeg t change v3 to_ v4 e1 v2).bind fun r8 =>
   (chk (v5.length + ([r8] : List Leg).length ≤ 4294967296)).bind fun u =>
   some (.nx ((w64 (v2 - 1)), r8.To, (w64 (r8.Arrive + change)), (v5 ++ ([r8] : List Leg))))
  else
   some (.dn v5)
noncomputable def i_firstJourney (t : Timetable) (change : Int) (from_ : Int) (to_ : Int) (at_ : Int) (most : Int) : Option ((Nl Leg)) :=
 (i_readyAt t from_ at_).bind fun r2 =>
 (i_arrivals t change r2 most).bind fun r3 =>
 (idx r3 to_).bind fun e1 =>
 if (e1 == 1073741824) = true then
  some (⟨[]⟩ : Nl Leg)
 else
  (iter (i_firstJourney_L1 t change from_ to_ at_ e1) (1 : Int)).bind fun (v1 : Int) =>
  (iter (i_firstJourney_L2 t change to_ e1) (v1, from_, at_, ([] : List Leg))).bind fun (v6 : List Leg) =>
  (chk (v6.length ≠ 0)).bind fun u1 =>
  some (⟨v6⟩ : Nl Leg)
noncomputable def i_ParetoJourneys_L1 (t : Timetable) (change : Int) (from_ : Int) (to_ : Int) (at_ : Int) : Int × Int × (List (List Leg)) → Option (Lp (Int × Int × (List (List Leg))) ((List (List Leg))))
 | (v1, v2, v3) =>
  if (decide (v2 ≤ 4)) = true then
   ((i_firstJourney t change from_ to_ at_ v2).bind fun r2 =>
   (nlsp r2 (some (([] : List Leg), false)) (fun a l => (idx (a :: l) (w64 (((a :: l).length : Int) - 1))).bind fun e =>
   some ((a :: l), (decide (e.Arrive < v1))))).bind fun ((v6, v7) : (List Leg) × Bool) =>
   if v7 = true then
    (idx v6 (w64 ((v6.length : Int) - 1))).bind fun e1 =>
    (chk (v3.length + ([v6] : List (List Leg)).length ≤ 4294967296)).bind fun u =>
    some (e1.Arrive, (v3 ++ ([v6] : List (List Leg))))
   else
    some (v1, v3)).bind fun ((v4, v5) : Int × (List (List Leg))) =>
   some (.nx (v4, (w64 (v2 + 1)), v5))
  else
   some (.dn v3)
noncomputable def i_ParetoJourneys (t : Timetable) (change : Int) (from_ : Int) (to_ : Int) (at_ : Int) : Option ((List (List Leg)) × Bool) :=
 (i_isPair t change from_ to_).bind fun r =>
 (if (!r) = true then some true else (i_IsValidTime at_).bind fun r1 =>
 some (!r1)).bind fun (v : Bool) =>
 if v = true then
  some (([] : List (List Leg)), false)
 else
  (iter (i_ParetoJourneys_L1 t change from_ to_ at_) ((1073741824 : Int), (1 : Int), ([] : List (List Leg)))).bind fun (v8 : List (List Leg)) =>
  some (v8, true)
noncomputable def s_l1In (x : Int) (a : Int) (b : Int) : Option (Bool) :=
 (if (decide (a ≤ x)) = true then some (decide (x ≤ b)) else some false).bind fun (v : Bool) =>
 some v
noncomputable def s_l2Name_L1 (s : ByteArray) : Int → Option (Lp (Int) (Fl (Bool) (Unit)))
 | v1 =>
  if (decide (v1 < (s.size : Int))) = true then
   (chk ((0 : Int) ≤ v1 ∧ v1 < (s.size : Int))).bind fun u2 =>
   (if (decide (((s.data.toList.getD v1.toNat 0).toNat : Int) < 97)) = true then (chk ((0 : Int) ≤ v1 ∧ v1 < (s.size : Int))).bind fun u3 =>
   if (decide (((s.data.toList.getD v1.toNat 0).toNat : Int) < 48)) = true then some true else (chk ((0 : Int) ≤ v1 ∧ v1 < (s.size : Int))).bind fun u4 =>
   some (decide (57 < ((s.data.toList.getD v1.toNat 0).toNat : Int))) else (chk ((0 : Int) ≤ v1 ∧ v1 < (s.size : Int))).bind fun u5 =>
   if (decide (122 < ((s.data.toList.getD v1.toNat 0).toNat : Int))) = true then (chk ((0 : Int) ≤ v1 ∧ v1 < (s.size : Int))).bind fun u6 =>
   if (decide (((s.data.toList.getD v1.toNat 0).toNat : Int) < 48)) = true then some true else (chk ((0 : Int) ≤ v1 ∧ v1 < (s.size : Int))).bind fun u7 =>
   some (decide (57 < ((s.data.toList.getD v1.toNat 0).toNat : Int))) else some false).bind fun (v2 : Bool) =>
   if v2 = true then
    some (.dn (.ret false))
   else
    some (.nx (w64 (v1 + 1)))
  else
   some (.dn (.go ()))
noncomputable def s_l2Name (s : ByteArray) : Option (Bool) :=
 (s_l1In (s.size : Int) 1 8).bind fun r =>
 (if (!r) = true then some true else (chk ((0 : Int) ≤ 0 ∧ 0 < (s.size : Int))).bind fun u =>
 if (decide (((s.data.toList.getD (0 : Int).toNat 0).toNat : Int) < 97)) = true then some true else (chk ((0 : Int) ≤ 0 ∧ 0 < (s.size : Int))).bind fun u1 =>
 some (decide (122 < ((s.data.toList.getD (0 : Int).toNat 0).toNat : Int)))).bind fun (v : Bool) =>
 if v = true then
  some false
 else
  flb (iter (s_l2Name_L1 s) (0 : Int)) fun (_ : Unit) =>
  some true
noncomputable def s_l2Find_L1 (list : List ByteArray) (name : ByteArray) : Int → Option (Lp (Int) (Fl (Int) (Unit)))
 | v =>
  if (decide (v < (list.length : Int))) = true then
   (idx list v).bind fun e =>
   if (e.toList == name.toList) = true then
    some (.dn (.ret v))
   else
    some (.nx (w64 (v + 1)))
  else
   some (.dn (.go ()))
noncomputable def s_l2Find (list : List ByteArray) (name : ByteArray) : Option (Int) :=
 flb (iter (s_l2Find_L1 list name) (0 : Int)) fun (_ : Unit) =>
 some (-1)
noncomputable def s_l2Line_L1 (x : Line) (stops : Int) : Int → Option (Lp (Int) (Fl (Bool) (Unit)))
 | v1 =>
  if (decide (v1 < (x.Stops.length : Int))) = true then
   (idx x.Stops v1).bind fun e2 =>
   (s_l1In e2 0 (w64 (stops - 1))).bind fun r4 =>
   (if (!r4) = true then some true else (idx x.Stops v1).bind fun e3 =>
   (s_l2Place x e3).bind fun r5 =>
   some (r5 != v1)).bind fun (v2 : Bool) =>
   if v2 = true then
    some (.dn (.ret false))
   else
    some (.nx (w64 (v1 + 1)))
  else
   some (.dn (.go ()))
noncomputable def s_l2Line_L2 (x : Line) : Int → Option (Lp (Int) (Fl (Bool) (Unit)))
 | v3 =>
  if (decide (v3 < (x.Runs.length : Int))) = true then
   (idx x.Runs v3).bind fun e5 =>
   (s_l1In e5 1 60).bind fun r7 =>
   if (!r7) = true then
    some (.dn (.ret false))
   else
    some (.nx (w64 (v3 + 1)))
  else
   some (.dn (.go ()))
noncomputable def s_l2Line (x : Line) (stops : Int) : Option (Bool) :=
 (s_l2Name x.Name).bind fun r =>
 (if (!r) = true then some true else (s_l1In (x.Stops.length : Int) 2 6).bind fun r1 =>
 if (!r1) = true then some true else some ((x.Runs.length : Int) != (w64 ((x.Stops.length : Int) - 1)))).bind fun (v : Bool) =>
 if v = true then
  some false
 else
  flb (iter (s_l2Line_L1 x stops) (0 : Int)) fun (_ : Unit) =>
  flb (iter (s_l2Line_L2 x) (0 : Int)) fun (_ : Unit) =>
  some true
noncomputable def s_l2LineNamed_L1 (n : Network) (name : ByteArray) : Int → Option (Lp (Int) (Fl (Int) (Unit)))
 | v =>
  if (decide (v < (n.Lines.length : Int))) = true then
   (idx n.Lines v).bind fun e =>
   if (e.Name.toList == name.toList) = true then
    some (.dn (.ret v))
   else
    some (.nx (w64 (v + 1)))
  else
   some (.dn (.go ()))
noncomputable def s_l2LineNamed (n : Network) (name : ByteArray) : Option (Int) :=
 flb (iter (s_l2LineNamed_L1 n name) (0 : Int)) fun (_ : Unit) =>
 some (-1)
noncomputable def s_l2Good_L1 (n : Network) : Int → Option (Lp (Int) (Fl (Bool) (Unit)))
 | i =>
  if (decide (i < (n.Stops.length : Int))) = true then
   (idx n.Stops i).bind fun e2 =>
   (s_l2Name e2).bind fun r4 =>
   (if (!r4) = true then some true else (idx n.Stops i).bind fun e3 =>
   (s_l2Find n.Stops e3).bind fun r5 =>
   some (r5 != i)).bind fun (v1 : Bool) =>
   if v1 = true then
    some (.dn (.ret false))
   else
    some (.nx (w64 (i + 1)))
  else
   some (.dn (.go ()))
noncomputable def s_l2Good_L2 (n : Network) : Int → Option (Lp (Int) (Fl (Bool) (Unit)))
 | v2 =>
  if (decide (v2 < (n.Lines.length : Int))) = true then
   (idx n.Lines v2).bind fun e7 =>
   (s_l2Line e7 (n.Stops.length : Int)).bind fun r9 =>
   (if (!r9) = true then some true else (idx n.Lines v2).bind fun e8 =>
   (s_l2LineNamed n e8.Name).bind fun r10 =>
   some (r10 != v2)).bind fun (v3 : Bool) =>
   if v3 = true then
    some (.dn (.ret false))
   else
    some (.nx (w64 (v2 + 1)))
  else
   some (.dn (.go ()))
noncomputable def s_l2Good (n : Network) : Option (Bool) :=
 (s_l1In (n.Stops.length : Int) 2 8).bind fun r =>
 (if (!r) = true then some true else (s_l1In (n.Lines.length : Int) 1 5).bind fun r1 =>
 some (!r1)).bind fun (v : Bool) =>
 if v = true then
  some false
 else
  flb (iter (s_l2Good_L1 n) (0 : Int)) fun (_ : Unit) =>
  flb (iter (s_l2Good_L2 n) (0 : Int)) fun (_ : Unit) =>
  some true
noncomputable def s_l4Time (t : Int) : Option (Bool) :=
 (s_l1In t 0 1799).bind fun r =>
 some r
noncomputable def s_l5Line (t : Timetable) (i : Int) : Option (Line) :=
 (idx t.Trips i).bind fun e2 =>
 (idx t.Network.Lines e2.Line).bind fun e3 =>
 some e3
noncomputable def s_l5Stops (t : Timetable) (i : Int) : Option ((List Int)) :=
 (s_l5Line t i).bind fun r =>
 some r.Stops
noncomputable def s_l2Run_L1 (x : Line) (to_ : Int) : Int × Int → Option (Lp (Int × Int) (Int))
 | (v, v1) =>
  if (decide (v1 < to_)) = true then
   (idx x.Runs v1).bind fun e =>
   some (.nx ((w64 (v + e)), (w64 (v1 + 1))))
  else
   some (.dn v)
noncomputable def s_l2Run (x : Line) (from_ : Int) (to_ : Int) : Option (Int) :=
 (iter (s_l2Run_L1 x to_) ((0 : Int), from_)).bind fun (v2 : Int) =>
 some v2
noncomputable def s_l5At (t : Timetable) (i : Int) (k : Int) : Option (Int) :=
 (idx t.Trips i).bind fun e1 =>
 (s_l5Line t i).bind fun r2 =>
 (s_l2Run r2 0 k).bind fun r3 =>
 some (w64 (e1.Start + r3))
noncomputable def s_l5End (t : Timetable) (i : Int) : Option (Int) :=
 (s_l5Stops t i).bind fun r2 =>
 (s_l5At t i (w64 ((r2.length : Int) - 1))).bind fun r3 =>
 some r3
noncomputable def s_l5Good_L1 (t : Timetable) : Int → Option (Lp (Int) (Fl (Bool) (Unit)))
 | x =>
  if (decide (x < (t.Trips.length : Int))) = true then
   (idx t.Trips x).bind fun e =>
   (s_l1In e.Id 1 999).bind fun r6 =>
   (if (!r6) = true then some true else (s_l1In e.Line 0 (w64 ((t.Network.Lines.length : Int) - 1))).bind fun r7 =>
   if (!r7) = true then some true else (s_l4Time e.Start).bind fun r8 =>
   if (!r8) = true then some true else (s_l5End t x).bind fun r9 =>
   (s_l4Time r9).bind fun r10 =>
   if (!r10) = true then some true else if (decide (0 < x)) = true then (idx t.Trips (w64 (x - 1))).bind fun e2 =>
   some (decide (e.Id ≤ e2.Id)) else some false).bind fun (v1 : Bool) =>
   if v1 = true then
    some (.dn (.ret false))
   else
    some (.nx (w64 (x + 1)))
  else
   some (.dn (.go ()))
noncomputable def s_l5Good (t : Timetable) : Option (Bool) :=
 (s_l2Good t.Network).bind fun r =>
 (if (!r) = true then some true else some (decide (12 < (t.Trips.length : Int)))).bind fun (v : Bool) =>
 if v = true then
  some false
 else
  flb (iter (s_l5Good_L1 t) (0 : Int)) fun (_ : Unit) =>
  some true
noncomputable def s_l8Asked (t : Timetable) (change : Int) : Option (Bool) :=
 (s_l5Good t).bind fun r =>
 (if r = true then (s_l1In change 0 30).bind fun r1 =>
 some r1 else some false).bind fun (v : Bool) =>
 some v
noncomputable def s_l8From (t : Timetable) (change : Int) (from_ : Int) (at_ : Int) : Option (Bool) :=
 (s_l8Asked t change).bind fun r =>
 (if r = true then (s_l1In from_ 0 (w64 ((t.Network.Stops.length : Int) - 1))).bind fun r1 =>
 if r1 = true then (s_l4Time at_).bind fun r2 =>
 some r2 else some false else some false).bind fun (v : Bool) =>
 some v
noncomputable def s_l8Pair (t : Timetable) (change : Int) (from_ : Int) (to_ : Int) (at_ : Int) : Option (Bool) :=
 (s_l8From t change from_ at_).bind fun r =>
 (if r = true then (s_l1In to_ 0 (w64 ((t.Network.Stops.length : Int) - 1))).bind fun r1 =>
 if r1 = true then some (from_ != to_) else some false else some false).bind fun (v : Bool) =>
 some v
noncomputable def s_l8Arrivals_L1 : Int × (List Int) → Option (Lp (Int × (List Int)) ((List Int)))
 | (on_, i) =>
  if (decide (on_ < (i.length : Int))) = true then
   (idx i on_).bind fun e =>
   some (.nx ((w64 (on_ + 1)), (i.set on_.toNat (-1))))
  else
   some (.dn i)
noncomputable def s_l8Arrivals_L2 (t : Timetable) (from_ : Int) (at_ : Int) (i2 : List Int) (s1 : Int) (time : Int) (r : (List Int)) : Bool × Int × (List Int) → Option (Lp (Bool × Int × (List Int)) ((List Int)))
 | (ready, v, k1) =>
  if (decide (v < (r.length : Int))) = true then
   (idx r v).bind fun e3 =>
   (s_l5At t time v).bind fun r2 =>
   ((if ready = true then (idx k1 e3).bind fun e4 =>
   if (decide (e4 < 0)) = true then some true else (idx k1 e3).bind fun e5 =>
   some (decide (r2 < e5)) else some false).bind fun (v1 : Bool) =>
   if v1 = true then
    (idx k1 e3).bind fun e6 =>
    some (k1.set e3.toNat r2)
   else
    some k1).bind fun (k2 : List Int) =>
   (idx i2 e3).bind fun e7 =>
   (if (e3 == from_) = true then
    some at_
   else
    some (w64 (e7 + s1))).bind fun (v2 : Int) =>
   if ready = true then some (.nx (true, (w64 (v + 1)), k2)) else (idx i2 e3).bind fun e8 =>
   if (decide (0 ≤ e8)) = true then some (.nx ((decide (v2 ≤ r2)), (w64 (v + 1)), k2)) else some (.nx (false, (w64 (v + 1)), k2))
  else
   some (.dn k1)
noncomputable def s_l8Arrivals_L3 (t : Timetable) (from_ : Int) (at_ : Int) (i2 : List Int) (s1 : Int) : Int × (List Int) → Option (Lp (Int × (List Int)) ((List Int)))
 | (time, k) =>
  if (decide (time < (t.Trips.length : Int))) = true then
   (s_l5Stops t time).bind fun r =>
   (iter (s_l8Arrivals_L2 t from_ at_ i2 s1 time r) (false, (0 : Int), k)).bind fun (k3 : List Int) =>
   some (.nx ((w64 (time + 1)), k3))
  else
   some (.dn k)
noncomputable def s_l8Arrivals_L4 (t : Timetable) (change : Int) (from_ : Int) (at_ : Int) (legs : Int) : Int × (List Int) → Option (Lp (Int × (List Int)) ((List Int)))
 | (stops, i2) =>
  if (decide (stops < legs)) = true then
   (chk (([] : List Int).length + i2.length ≤ 4294967296)).bind fun u1 =>
   (if (stops == 0) = true then
    some (0 : Int)
   else
    some change).bind fun (s1 : Int) =>
   (iter (s_l8Arrivals_L3 t from_ at_ i2 s1) ((0 : Int), (([] : List Int) ++ i2))).bind fun (k4 : List Int) =>
   some (.nx ((w64 (stops + 1)), k4))
  else
   some (.dn i2)
noncomputable def s_l8Arrivals (t : Timetable) (change : Int) (from_ : Int) (at_ : Int) (legs : Int) : Option ((List Int)) :=
 (chk ((0 : Int) ≤ (t.Network.Stops.length : Int) ∧ ((t.Network.Stops.length : Int) : Int) ≤ 4294967296)).bind fun u =>
 (iter (s_l8Arrivals_L1) ((0 : Int), (List.replicate (t.Network.Stops.length : Int).toNat (0 : Int)))).bind fun (i1 : List Int) =>
 (idx i1 from_).bind fun e1 =>
 (iter (s_l8Arrivals_L4 t change from_ at_ legs) ((0 : Int), (i1.set from_.toNat at_))).bind fun (i3 : List Int) =>
 some i3
noncomputable def s_l8Leg (t : Timetable) (i : Int) (a : Int) (b : Int) : Option (Leg) :=
 (s_l5Stops t i).bind fun r =>
 (idx t.Trips i).bind fun e3 =>
 (idx r a).bind fun e4 =>
 (idx r b).bind fun e5 =>
 (s_l5At t i a).bind fun r3 =>
 (s_l5At t i b).bind fun r4 =>
 some (⟨e3.Id, e4, e5, r3, r4⟩ : Leg)
noncomputable def s_l8Search_extend_w_L1 (x : l8Search) (legs : List Leg) (s : Int) : Bool × Int → Option (Lp (Bool × Int) (Bool))
 | (b, leg) =>
  if (decide (leg < (legs.length : Int))) = true then
   if b = true then some (.nx (true, (w64 (leg + 1)))) else (idx legs leg).bind fun e2 =>
   (idx x.t_.Trips s).bind fun e3 =>
   some (.nx ((e2.Trip == e3.Id), (w64 (leg + 1))))
  else
   some (.dn b)
noncomputable def s_l8Search_extend_w_L2 (rec_ : l8Search → (List Leg) → Int → Int → Int → Option ((List Leg))) (x : l8Search) (legs : List Leg) (more : Int) (s : Int) (r1 : Int) (r3 : (List Int)) : Int → Option (Lp (Int) (Fl (Fl (Lp (Int) (Fl ((List Leg)) (Unit))) (Unit)) (Unit)))
 | v1 =>
  if (decide (v1 < (x.t_.Network.Stops.length : Int))) = true then
   flb ((s_l5Line x.t_ s).bind fun r4 =>
   (s_l2Place r4 v1).bind fun r5 =>
   (if (decide (r5 ≤ r1)) = true then some true else if (decide ((r3.length : Int) ≤ r5)) = true then some true else (s_l5At x.t_ s r5).bind fun r7 =>
   some (decide (x.arrive_ < r7))).bind fun (v2 : Bool) =>
   if v2 = true then
    some (.go ())
   else
    (s_l8Leg x.t_ s r1 r5).bind fun r8 =>
    (chk (([] : List Leg).length + legs.length ≤ 4294967296)).bind fun u2 =>
    (chk ((([] : List Leg) ++ legs).length + ([r8] : List Leg).length ≤ 4294967296)).bind fun u3 =>
    if (more == 1) = true then
     (if (v1 == x.to_) = true then some (r8.Arrive == x.arrive_) else some false).bind fun (v3 : Bool) =>
     if v3 = true then
      some (.ret (.dn (.ret (.ret (.dn (.ret ((([] : List Leg) ++ legs) ++ ([r8] : List Leg))))))))
     else
      some (.go ())
    else
     (rec_ x ((([] : List Leg) ++ legs) ++ ([r8] : List Leg)) v1 (w64 (r8.Arrive + x.change_)) (w64 (more - 1))).bind fun r14 =>
     if (decide (0 < (r14.length : Int))) = true then
      some (.ret (.dn (.ret (.ret (.dn (.ret r14))))))
     else
      some (.go ())) fun (_ : Unit) =>
   some (.nx (w64 (v1 + 1)))
  else
   some (.dn (.go ()))
noncomputable def s_l8Search_extend_w_L3 (rec_ : l8Search → (List Leg) → Int → Int → Int → Option ((List Leg))) (x : l8Search) (legs : List Leg) (stop : Int) (at_ : Int) (more : Int) : Int → Option (Lp (Int) (Fl ((List Leg)) (Unit)))
 | s =>
  if (decide (s < (x.t_.Trips.length : Int))) = true then
   flb ((iter (s_l8Search_extend_w_L1 x legs s) (false, (0 : Int))).bind fun (b1 : Bool) =>
   (s_l5Line x.t_ s).bind fun r =>
   (s_l2Place r stop).bind fun r1 =>
   (if b1 = true then some true else if (decide (r1 < 0)) = true then some true else (s_l5At x.t_ s r1).bind fun r2 =>
   some (decide (r2 < at_))).bind fun (v : Bool) =>
   if v = true then
    some (.go ())
   else
    (s_l5Stops x.t_ s).bind fun r3 =>
    flb (iter (s_l8Search_extend_w_L2 rec_ x legs more s r1 r3) (0 : Int)) fun (_ : Unit) =>
    some (.go ())) fun (_ : Unit) =>
   some (.nx (w64 (s + 1)))
  else
   some (.dn (.go ()))
noncomputable def s_l8Search_extend_w_F (rec_ : l8Search → (List Leg) → Int → Int → Int → Option ((List Leg))) (x : l8Search) (legs : List Leg) (stop : Int) (at_ : Int) (more : Int) : Option ((List Leg)) :=
 flb (iter (s_l8Search_extend_w_L3 rec_ x legs stop at_ more) (0 : Int)) fun (_ : Unit) =>
 some ([] : List Leg)
noncomputable def s_l8Search_extend_w_k : Nat → l8Search → (List Leg) → Int → Int → Int → Option ((List Leg))
 | 0 => fun _ _ _ _ _ => none
 | n + 1 => s_l8Search_extend_w_F (s_l8Search_extend_w_k n)
noncomputable def s_l8Search_extend_w (x : l8Search) (legs : List Leg) (stop : Int) (at_ : Int) (more : Int) : Option ((List Leg)) := s_l8Search_extend_w_k 4294967296 x legs stop at_ more
noncomputable def s_l8Search_extend_L1 (x : l8Search) (legs : List Leg) (s : Int) : Bool × Int → Option (Lp (Bool × Int) (Bool))
 | (b, leg) =>
  if (decide (leg < (legs.length : Int))) = true then
   if b = true then some (.nx (true, (w64 (leg + 1)))) else (idx legs leg).bind fun e2 =>
   (idx x.t_.Trips s).bind fun e3 =>
   some (.nx ((e2.Trip == e3.Id), (w64 (leg + 1))))
  else
   some (.dn b)
noncomputable def s_l8Search_extend_L2 (x : l8Search) (legs : List Leg) (more : Int) (s : Int) (r1 : Int) (r3 : (List Int)) : Int → Option (Lp (Int) (Fl (Fl (Lp (Int) (Fl ((List Leg)) (Unit))) (Unit)) (Unit)))
 | v1 =>
  if (decide (v1 < (x.t_.Network.Stops.length : Int))) = true then
   flb ((s_l5Line x.t_ s).bind fun r4 =>
   (s_l2Place r4 v1).bind fun r5 =>
   (if (decide (r5 ≤ r1)) = true then some true else if (decide ((r3.length : Int) ≤ r5)) = true then some true else (s_l5At x.t_ s r5).bind fun r7 =>
   some (decide (x.arrive_ < r7))).bind fun (v2 : Bool) =>
   if v2 = true then
    some (.go ())
   else
    (s_l8Leg x.t_ s r1 r5).bind fun r8 =>
    (chk (([] : List Leg).length + legs.length ≤ 4294967296)).bind fun u2 =>
    (chk ((([] : List Leg) ++ legs).length + ([r8] : List Leg).length ≤ 4294967296)).bind fun u3 =>
    if (more == 1) = true then
     (if (v1 == x.to_) = true then some (r8.Arrive == x.arrive_) else some false).bind fun (v3 : Bool) =>
     if v3 = true then
      some (.ret (.dn (.ret (.ret (.dn (.ret ((([] : List Leg) ++ legs) ++ ([r8] : List Leg))))))))
     else
      some (.go ())
    else
     (s_l8Search_extend_w x ((([] : List Leg) ++ legs) ++ ([r8] : List Leg)) v1 (w64 (r8.Arrive + x.change_)) (w64 (more - 1))).bind fun r14 =>
     if (decide (0 < (r14.length : Int))) = true then
      some (.ret (.dn (.ret (.ret (.dn (.ret r14))))))
     else
      some (.go ())) fun (_ : Unit) =>
   some (.nx (w64 (v1 + 1)))
  else
   some (.dn (.go ()))
noncomputable def s_l8Search_extend_L3 (x : l8Search) (legs : List Leg) (stop : Int) (at_ : Int) (more : Int) : Int → Option (Lp (Int) (Fl ((List Leg)) (Unit)))
 | s =>
  if (decide (s < (x.t_.Trips.length : Int))) = true then
   flb ((iter (s_l8Search_extend_L1 x legs s) (false, (0 : Int))).bind fun (b1 : Bool) =>
   (s_l5Line x.t_ s).bind fun r =>
   (s_l2Place r stop).bind fun r1 =>
   (if b1 = true then some true else if (decide (r1 < 0)) = true then some true else (s_l5At x.t_ s r1).bind fun r2 =>
   some (decide (r2 < at_))).bind fun (v : Bool) =>
   if v = true then
    some (.go ())
   else
    (s_l5Stops x.t_ s).bind fun r3 =>
    flb (iter (s_l8Search_extend_L2 x legs more s r1 r3) (0 : Int)) fun (_ : Unit) =>
    some (.go ())) fun (_ : Unit) =>
   some (.nx (w64 (s + 1)))
  else
   some (.dn (.go ()))
noncomputable def s_l8Search_extend (x : l8Search) (legs : List Leg) (stop : Int) (at_ : Int) (more : Int) : Option ((List Leg)) :=
 flb (iter (s_l8Search_extend_L3 x legs stop at_ more) (0 : Int)) fun (_ : Unit) =>
 some ([] : List Leg)
noncomputable def s_l8First (t : Timetable) (change : Int) (from_ : Int) (to_ : Int) (at_ : Int) (arrive : Int) (legs : Int) : Option ((List Leg)) :=
 (s_l8Search_extend (⟨t, change, to_, arrive⟩ : l8Search) ([] : List Leg) from_ at_ legs).bind fun r =>
 some r
noncomputable def s_ParetoJourneys_L1 (t : Timetable) (change : Int) (from_ : Int) (to_ : Int) (at_ : Int) : Int × Int × (List (List Leg)) → Option (Lp (Int × Int × (List (List Leg))) ((List (List Leg))))
 | (v, v1, v2) =>
  if (decide (v1 ≤ 4)) = true then
   ((s_l8Arrivals t change from_ at_ v1).bind fun r1 =>
   (idx r1 to_).bind fun e =>
   (if (decide (0 ≤ e)) = true then if (decide (v < 0)) = true then some true else some (decide (e < v)) else some false).bind fun (v5 : Bool) =>
   if v5 = true then
    (s_l8First t change from_ to_ at_ e v1).bind fun r2 =>
    (chk (v2.length + ([r2] : List (List Leg)).length ≤ 4294967296)).bind fun u =>
    some (e, (v2 ++ ([r2] : List (List Leg))))
   else
    some (v, v2)).bind fun ((v3, v4) : Int × (List (List Leg))) =>
   some (.nx (v3, (w64 (v1 + 1)), v4))
  else
   some (.dn v2)
noncomputable def s_ParetoJourneys (t : Timetable) (change : Int) (from_ : Int) (to_ : Int) (at_ : Int) : Option ((List (List Leg)) × Bool) :=
 (s_l8Pair t change from_ to_ at_).bind fun r =>
 if (!r) = true then
  some (([] : List (List Leg)), false)
 else
  (iter (s_ParetoJourneys_L1 t change from_ to_ at_) (((-1) : Int), (1 : Int), ([] : List (List Leg)))).bind fun (v6 : List (List Leg)) =>
  some (v6, true)
noncomputable def i_tripIndex_1 (x : Trip) (c1 : Int) : Option (Bool) :=
 some (x.Id == c1)
noncomputable def slices_IndexFunc_Trip_L1 (s : List Trip) (f : Trip → Option (Bool)) : Int → Option (Lp (Int) (Fl (Int) (Unit)))
 | v =>
  if (decide (v < (s.length : Int))) = true then
   (idx s v).bind fun e =>
   (f e).bind fun r =>
   if r = true then
    some (.dn (.ret v))
   else
    some (.nx (w64 (v + 1)))
  else
   some (.dn (.go ()))
noncomputable def slices_IndexFunc_Trip (s : List Trip) (f : Trip → Option (Bool)) : Option (Int) :=
 flb (iter (slices_IndexFunc_Trip_L1 s f) (0 : Int)) fun (_ : Unit) =>
 some (-1)
noncomputable def slices_IndexFunc_Trip__i_tripIndex_1 (s : List Trip) (c1 : Int) : Option (Int) :=
 slices_IndexFunc_Trip s (fun (z0 : Trip) => i_tripIndex_1 z0 c1)
noncomputable def i_tripIndex (t : Timetable) (id : Int) : Option (Int) :=
 (slices_IndexFunc_Trip__i_tripIndex_1 t.Trips id).bind fun r =>
 some r
noncomputable def i_isJourney_1 (b : Leg) (c1 : Leg) : Option (Bool) :=
 some (b.Trip == c1.Trip)
noncomputable def slices_IndexFunc_Leg_L1 (s : List Leg) (f : Leg → Option (Bool)) : Int → Option (Lp (Int) (Fl (Int) (Unit)))
 | v =>
  if (decide (v < (s.length : Int))) = true then
   (idx s v).bind fun e =>
   (f e).bind fun r =>
   if r = true then
    some (.dn (.ret v))
   else
    some (.nx (w64 (v + 1)))
  else
   some (.dn (.go ()))
noncomputable def slices_IndexFunc_Leg (s : List Leg) (f : Leg → Option (Bool)) : Option (Int) :=
 flb (iter (slices_IndexFunc_Leg_L1 s f) (0 : Int)) fun (_ : Unit) =>
 some (-1)
noncomputable def slices_IndexFunc_Leg__i_isJourney_1 (s : List Leg) (c1 : Leg) : Option (Int) :=
 slices_IndexFunc_Leg s (fun (z0 : Leg) => i_isJourney_1 z0 c1)
noncomputable def slices_ContainsFunc_Leg (s : List Leg) (f : Leg → Option (Bool)) : Option (Bool) :=
 (slices_IndexFunc_Leg s f).bind fun r =>
 some (decide (0 ≤ r))
noncomputable def slices_ContainsFunc_Leg__i_isJourney_1 (s : List Leg) (c1 : Leg) : Option (Bool) :=
 slices_ContainsFunc_Leg s (fun (z0 : Leg) => i_isJourney_1 z0 c1)
noncomputable def i_isJourney_L1 (t : Timetable) (change : Int) (legs : List Leg) : Int → Option (Lp (Int) (Fl (Bool) (Unit)))
 | v =>
  if (decide (v < (legs.length : Int))) = true then
   flb ((idx legs v).bind fun e =>
   (i_tripIndex t e.Trip).bind fun r1 =>
   if (decide (r1 < 0)) = true then
    some (.ret (.dn (.ret false)))
   else
    (idx t.Trips r1).bind fun e4 =>
    (i_fillLeg t e4 e.From e.To).bind fun r5 =>
    (if (!r5.2) = true then some true else some (!((r5.1.Trip == e.Trip) && ((r5.1.From == e.From) && ((r5.1.To == e.To) && ((r5.1.Depart == e.Depart) && ((r5.1.Arrive == e.Arrive) && true))))))).bind fun (v1 : Bool) =>
    if v1 = true then
     some (.ret (.dn (.ret false)))
    else
     if (v == 0) = true then
      some (.go ())
     else
      (idx legs (w64 (v - 1))).bind fun e9 =>
      (if (e.From != e9.To) = true then some true else (idx legs (w64 (v - 1))).bind fun e10 =>
      some (decide (e.Depart < (w64 (e10.Arrive + change))))).bind fun (v2 : Bool) =>
      if v2 = true then
       some (.ret (.dn (.ret false)))
      else
       (chk ((0 : Int) ≤ 0 ∧ (0 : Int) ≤ v ∧ v ≤ (legs.length : Int))).bind fun u =>
       (slices_ContainsFunc_Leg__i_isJourney_1 ((legs.take v.toNat).drop (0 : Int).toNat) e).bind fun r10 =>
       if r10 = true then
        some (.ret (.dn (.ret false)))
       else
        some (.go ())) fun (_ : Unit) =>
   some (.nx (w64 (v + 1)))
  else
   some (.dn (.go ()))
noncomputable def i_isJourney (t : Timetable) (change : Int) (legs : List Leg) : Option (Bool) :=
 (i_within (legs.length : Int) 1 4).bind fun r =>
 if (!r) = true then
  some false
 else
  flb (iter (i_isJourney_L1 t change legs) (0 : Int)) fun (_ : Unit) =>
  some true
noncomputable def i_IsValidJourney (t : Timetable) (change : Int) (legs : List Leg) : Option (Bool) :=
 (i_IsValidTimetable t).bind fun r =>
 (if r = true then (i_isChange change).bind fun r1 =>
 if r1 = true then (i_isJourney t change legs).bind fun r2 =>
 some r2 else some false else some false).bind fun (v : Bool) =>
 some v
noncomputable def i_isFrom (t : Timetable) (change : Int) (from_ : Int) (at_ : Int) : Option (Bool) :=
 (i_IsValidTimetable t).bind fun r =>
 (if r = true then (i_isChange change).bind fun r1 =>
 if r1 = true then (i_isStop t.Network from_).bind fun r2 =>
 if r2 = true then (i_IsValidTime at_).bind fun r3 =>
 some r3 else some false else some false else some false).bind fun (v : Bool) =>
 some v
noncomputable def i_earliestArrivals_L1 (r3 : (List Int)) : Int × (List Int) → Option (Lp (Int × (List Int)) ((List Int)))
 | (v, v1) =>
  if (decide (v < (r3.length : Int))) = true then
   ((idx v1 v).bind fun e =>
   if (e == 1073741824) = true then
    (idx v1 v).bind fun e1 =>
    some (v1.set v.toNat (-1))
   else
    some v1).bind fun (v2 : List Int) =>
   some (.nx ((w64 (v + 1)), v2))
  else
   some (.dn v1)
noncomputable def i_earliestArrivals (t : Timetable) (change : Int) (from_ : Int) (at_ : Int) : Option ((List Int)) :=
 (i_readyAt t from_ at_).bind fun r2 =>
 (i_arrivals t change r2 4).bind fun r3 =>
 (iter (i_earliestArrivals_L1 r3) ((0 : Int), r3)).bind fun (v3 : List Int) =>
 (idx v3 from_).bind fun e2 =>
 some (v3.set from_.toNat at_)
noncomputable def i_EarliestArrivals (t : Timetable) (change : Int) (from_ : Int) (at_ : Int) : Option ((List Int) × Bool) :=
 (i_isFrom t change from_ at_).bind fun r =>
 if (!r) = true then
  some (([] : List Int), false)
 else
  (i_earliestArrivals t change from_ at_).bind fun r1 =>
  some (r1, true)
noncomputable def v_FnPareto_L1 (r1 : Timetable × Int × Int × Int × Int) (r2 : (List (List Leg)) × Bool) : Int → Option (Lp (Int) (Fl (Bool) (Unit)))
 | l =>
  if (decide (l < (r2.1.length : Int))) = true then
   (idx r2.1 l).bind fun e =>
   (i_IsValidJourney r1.1 r1.2.1 e).bind fun r4 =>
   (if (!r4) = true then some true else some ((e.length : Int) == 0)).bind fun (v1 : Bool) =>
   if v1 = true then
    some (.dn (.ret false))
   else
    (if (decide (0 < l)) = true then (idx r2.1 (w64 (l - 1))).bind fun e7 =>
    if (decide ((e.length : Int) ≤ (e7.length : Int))) = true then some true else (idx e (w64 ((e.length : Int) - 1))).bind fun e8 =>
    (idx r2.1 (w64 (l - 1))).bind fun e9 =>
    (idx r2.1 (w64 (l - 1))).bind fun e10 =>
    (idx e9 (w64 ((e10.length : Int) - 1))).bind fun e11 =>
    some (decide (e11.Arrive ≤ e8.Arrive)) else some false).bind fun (v2 : Bool) =>
    if v2 = true then
     some (.dn (.ret false))
    else
     some (.nx (w64 (l + 1)))
  else
   some (.dn (.go ()))
noncomputable def v_FnPareto (code : List UInt8) : Option (Bool) :=
 (v_vBig code).bind fun r =>
 if r = true then
  some true
 else
  (s_DrawParetoJourneys code).bind fun r1 =>
  (i_ParetoJourneys r1.1 r1.2.1 r1.2.2.1 r1.2.2.2.1 r1.2.2.2.2).bind fun r2 =>
  (s_ParetoJourneys r1.1 r1.2.1 r1.2.2.1 r1.2.2.2.1 r1.2.2.2.2).bind fun r3 =>
  (if (!(r2.2 == r3.2)) = true then some true else some ((r2.1.length : Int) != (r3.1.length : Int))).bind fun (v : Bool) =>
  if v = true then
   some false
  else
   if (!r2.2) = true then
    some ((r2.1.length : Int) == 0)
   else
    flb (iter (v_FnPareto_L1 r1 r2) (0 : Int)) fun (_ : Unit) =>
    (i_EarliestArrivals r1.1 r1.2.1 r1.2.2.1 r1.2.2.2.2).bind fun r7 =>
    (if (!r7.2) = true then some true else some (decide ((r7.1.length : Int) ≤ r1.2.2.2.1))).bind fun (v3 : Bool) =>
    if v3 = true then
     some false
    else
     if ((r2.1.length : Int) == 0) = true then
      (idx r7.1 r1.2.2.2.1).bind fun e13 =>
      some (decide (e13 < 0))
     else
      (idx r2.1 (w64 ((r2.1.length : Int) - 1))).bind fun e14 =>
      (idx e14 (w64 ((e14.length : Int) - 1))).bind fun e17 =>
      (idx r7.1 r1.2.2.2.1).bind fun e18 =>
      some (e17.Arrive == e18)
end Go.Proofs.Ytdocbkbpjdjlpaa
