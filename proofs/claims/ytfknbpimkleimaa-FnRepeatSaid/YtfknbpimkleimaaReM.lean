/- Models of the functions that the law reaches: plain Lean; none where the function would panic or not end. Made by program (dec.py). -/
import Derived.Test.YtfknbpimkleimaaAbIns
namespace Go.Proofs.Ytfknbpimkleimaa
open Go Go.Ab
set_option maxRecDepth 100000
set_option maxHeartbeats 4000000
set_option linter.unusedVariables false
set_option linter.unusedSimpArgs false
structure l1Cur where
 code_ : List UInt8
 at_ : Int
 seed_ : IK .u64
instance enc_l1Cur : Enc l1Cur := ⟨3, fun x => .agg [Enc.e x.code_, .sc (.int .i64 x.at_), .sc (.int .u64 x.seed_.v)], fun a b h => by
 simp only [D.agg.injEq, List.cons.injEq, and_true] at h
 obtain ⟨a1, a2, a3⟩ := a
 obtain ⟨b1, b2, b3⟩ := b
 obtain ⟨h1, h2, h3⟩ := h
 have q1 := Enc.inj (α := List UInt8) a1 b1 h1
 have q2 := Enc.inj (α := Int) a2 b2 h2
 have q3 := Enc.inj (α := IK .u64) a3 b3 h3
 subst q1; subst q2; subst q3; rfl⟩
structure Line where
 Name : ByteArray
 Stops : List Int
 Runs : List Int
instance enc_Line : Enc Line := ⟨3, fun x => .agg [.sc (.string x.Name), Enc.e x.Stops, Enc.e x.Runs], fun a b h => by
 simp only [D.agg.injEq, List.cons.injEq, and_true] at h
 obtain ⟨a1, a2, a3⟩ := a
 obtain ⟨b1, b2, b3⟩ := b
 obtain ⟨h1, h2, h3⟩ := h
 have q1 := Enc.inj (α := ByteArray) a1 b1 h1
 have q2 := Enc.inj (α := List Int) a2 b2 h2
 have q3 := Enc.inj (α := List Int) a3 b3 h3
 subst q1; subst q2; subst q3; rfl⟩
structure Network where
 Stops : List ByteArray
 Lines : List Line
instance enc_Network : Enc Network := ⟨2, fun x => .agg [Enc.e x.Stops, Enc.e x.Lines], fun a b h => by
 simp only [D.agg.injEq, List.cons.injEq, and_true] at h
 obtain ⟨a1, a2⟩ := a
 obtain ⟨b1, b2⟩ := b
 obtain ⟨h1, h2⟩ := h
 have q1 := Enc.inj (α := List ByteArray) a1 b1 h1
 have q2 := Enc.inj (α := List Line) a2 b2 h2
 subst q1; subst q2; rfl⟩
structure Trip where
 Id : Int
 Line : Int
 Start : Int
instance enc_Trip : Enc Trip := ⟨3, fun x => .agg [.sc (.int .i64 x.Id), .sc (.int .i64 x.Line), .sc (.int .i64 x.Start)], fun a b h => by
 simp only [D.agg.injEq, List.cons.injEq, and_true] at h
 obtain ⟨a1, a2, a3⟩ := a
 obtain ⟨b1, b2, b3⟩ := b
 obtain ⟨h1, h2, h3⟩ := h
 have q1 := Enc.inj (α := Int) a1 b1 h1
 have q2 := Enc.inj (α := Int) a2 b2 h2
 have q3 := Enc.inj (α := Int) a3 b3 h3
 subst q1; subst q2; subst q3; rfl⟩
structure Timetable where
 Network : Network
 Trips : List Trip
instance enc_Timetable : Enc Timetable := ⟨3, fun x => .agg [Enc.e x.Network.Stops, Enc.e x.Network.Lines, Enc.e x.Trips], fun a b h => by
 simp only [D.agg.injEq, List.cons.injEq, and_true] at h
 obtain ⟨⟨a1, a2⟩, a3⟩ := a
 obtain ⟨⟨b1, b2⟩, b3⟩ := b
 obtain ⟨h1, h2, h3⟩ := h
 have q1 := Enc.inj (α := List ByteArray) a1 b1 h1
 have q2 := Enc.inj (α := List Line) a2 b2 h2
 have q3 := Enc.inj (α := List Trip) a3 b3 h3
 subst q1; subst q2; subst q3; rfl⟩
instance : BxE l1Cur := ⟨fun x y h => Enc.inj x y (congrArg D.agg h)⟩
instance : BxE Line := ⟨fun x y h => Enc.inj x y (congrArg D.agg h)⟩
instance : BxE Network := ⟨fun x y h => Enc.inj x y (congrArg D.agg h)⟩
instance : BxE Trip := ⟨fun x y h => Enc.inj x y (congrArg D.agg h)⟩
instance : BxE Timetable := ⟨fun x y h => Enc.inj x y (congrArg D.agg h)⟩
instance : FlatEnc Trip := ⟨fun _ => flatDB_ok rfl⟩
noncomputable def v_vBig (code : List UInt8) : Option (Bool) :=
 some (decide (65536 < (code.length : Int)))
noncomputable def s_l1Cur_next (c : l1Cur) : Option (Int × l1Cur) :=
 (if (decide (c.at_ < (c.code_.length : Int))) = true then
  (idx c.code_ c.at_).bind fun e1 =>
  some (w64 ((e1.toNat : Int)))
 else
  some (0 : Int)).bind fun (v : Int) =>
 if (decide ((w64 (c.at_ + 1)) ≤ (c.code_.length : Int))) = true then
  some (v, (⟨c.code_, (w64 (c.at_ + 1)), (⟨(IntKind.u64.wrap ((IntKind.u64.wrap ((IntKind.u64.wrap (c.seed_.v * 6364136223846793005)) + (IntKind.u64.wrap (v)))) + 900900))⟩ : IK .u64)⟩ : l1Cur))
 else
  (chk ((0 : Int) ≤ 40)).bind fun u =>
  some ((w64 ((IntKind.u64.wrap ((BitVec.ofInt (IntKind.u64).bits ((IntKind.u64.wrap ((IntKind.u64.wrap ((IntKind.u64.wrap (c.seed_.v * 6364136223846793005)) + (IntKind.u64.wrap (v)))) + 900900)).fdiv (2 ^ (min (40 : Int).toNat (IntKind.u64).bits))) &&& BitVec.ofInt (IntKind.u64).bits 255).toNat : Int)))), (⟨c.code_, (w64 (c.at_ + 1)), (⟨(IntKind.u64.wrap ((IntKind.u64.wrap ((IntKind.u64.wrap (c.seed_.v * 6364136223846793005)) + (IntKind.u64.wrap (v)))) + 900900))⟩ : IK .u64)⟩ : l1Cur))
noncomputable def s_l1Cur_pick (c : l1Cur) (n : Int) : Option (Int × l1Cur) :=
 if (decide (n ≤ 1)) = true then
  some (0, c)
 else
  (s_l1Cur_next c).bind fun r =>
  (if (decide (200 < n)) = true then
   (s_l1Cur_next r.2).bind fun r1 =>
   some ((w64 ((w64 (r.1 * 256)) + r1.1)), r1.2.code_, r1.2.at_, r1.2.seed_.v)
  else
   some (r.1, r.2.code_, r.2.at_, r.2.seed_.v)).bind fun ((v, v1, v2, v3) : Int × (List UInt8) × Int × Int) =>
  (chk ((n : Int) ≠ 0)).bind fun u =>
  some ((v.tmod n), (⟨v1, v2, (⟨v3⟩ : IK .u64)⟩ : l1Cur))
noncomputable def s_l1Cur_one (c : l1Cur) (n : Int) : Option (Bool × l1Cur) :=
 (s_l1Cur_pick c n).bind fun r =>
 some ((r.1 == 0), r.2)
noncomputable def s_l1Cur_among (c : l1Cur) (list : List Int) : Option (Int × l1Cur) :=
 (s_l1Cur_pick c (list.length : Int)).bind fun r =>
 (idx list r.1).bind fun e =>
 some (e, r.2)
noncomputable def s_l1Cur_time (c : l1Cur) : Option (Int × l1Cur) :=
 (s_l1Cur_one c 16).bind fun r =>
 if r.1 = true then
  (s_l1Cur_among r.2 ([0, 1799, 1800, (-1), 1440, 1439] : List Int)).bind fun r1 =>
  some (r1.1, r1.2)
 else
  (s_l1Cur_pick r.2 240).bind fun r2 =>
  some ((w64 (360 + r2.1)), r2.2)
noncomputable def s_l1Num_F (rec_ : Int → Option (ByteArray)) (n : Int) : Option (ByteArray) :=
 if (decide (n < 0)) = true then
  (rec_ (w64 (0 - n))).bind fun r =>
  (chk ((str [45]).size + r.size ≤ 4294967296)).bind fun u =>
  some ((str [45]) ++ r)
 else
  if (decide (n < 10)) = true then
   (chk ((0 : Int) ≤ n ∧ n ≤ (w64 (n + 1)) ∧ (w64 (n + 1)) ≤ ((str [48, 49, 50, 51, 52, 53, 54, 55, 56, 57]).size : Int))).bind fun u1 =>
   some ((str [48, 49, 50, 51, 52, 53, 54, 55, 56, 57]).extract n.toNat (w64 (n + 1)).toNat)
  else
   (chk ((10 : Int) ≠ 0)).bind fun u7 =>
   (rec_ (w64 (n.tdiv 10))).bind fun r2 =>
   (chk ((10 : Int) ≠ 0)).bind fun u8 =>
   (chk ((10 : Int) ≠ 0)).bind fun u9 =>
   (chk ((0 : Int) ≤ (n.tmod 10) ∧ (n.tmod 10) ≤ (w64 ((n.tmod 10) + 1)) ∧ (w64 ((n.tmod 10) + 1)) ≤ ((str [48, 49, 50, 51, 52, 53, 54, 55, 56, 57]).size : Int))).bind fun u10 =>
   (chk (r2.size + ((str [48, 49, 50, 51, 52, 53, 54, 55, 56, 57]).extract (n.tmod 10).toNat (w64 ((n.tmod 10) + 1)).toNat).size ≤ 4294967296)).bind fun u11 =>
   some (r2 ++ ((str [48, 49, 50, 51, 52, 53, 54, 55, 56, 57]).extract (n.tmod 10).toNat (w64 ((n.tmod 10) + 1)).toNat))
noncomputable def s_l1Num_k : Nat → Int → Option (ByteArray)
 | 0 => fun _ => none
 | n + 1 => s_l1Num_F (s_l1Num_k n)
noncomputable def s_l1Num (n : Int) : Option (ByteArray) := s_l1Num_k 4294967296 n
noncomputable def s_l2Place_L1 (x : Line) (stop : Int) : Int → Option (Lp (Int) (Fl (Int) (Unit)))
 | v =>
  if (decide (v < (x.Stops.length : Int))) = true then
   (idx x.Stops v).bind fun e =>
   if (e == stop) = true then
    some (.dn (.ret v))
   else
    some (.nx (w64 (v + 1)))
  else
   some (.dn (.go ()))
noncomputable def s_l2Place (x : Line) (stop : Int) : Option (Int) :=
 flb (iter (s_l2Place_L1 x stop) (0 : Int)) fun (_ : Unit) =>
 some (-1)
noncomputable def s_l1Cur_line_L1 (name : ByteArray) (stops : Int) : Int × Int × (List UInt8) × Int × Int × (List Int) → Option (Lp (Int × Int × (List UInt8) × Int × Int × (List Int)) ((List UInt8) × Int × Int × (List Int)))
 | (v, v1, v2, v3, v4, v5) =>
  if (decide (0 < v1)) = true then
   ((s_l2Place (⟨name, v5, ([] : List Int)⟩ : Line) v).bind fun r2 =>
   if (decide (r2 < 0)) = true then
    (chk (v5.length + ([v] : List Int).length ≤ 4294967296)).bind fun u =>
    some (v5 ++ ([v] : List Int))
   else
    some v5).bind fun (v6 : List Int) =>
   (s_l1Cur_pick (⟨v2, v3, (⟨v4⟩ : IK .u64)⟩ : l1Cur) 2).bind fun r3 =>
   (chk ((stops : Int) ≠ 0)).bind fun u1 =>
   some (.nx (((w64 ((w64 (v + 1)) + r3.1)).tmod stops), (w64 (v1 - 1)), r3.2.code_, r3.2.at_, r3.2.seed_.v, v6))
  else
   some (.dn (v2, v3, v4, v5))
noncomputable def s_l1Cur_line_L2 (v11 : List Int) : Int × (List UInt8) × Int × Int × (List Int) → Option (Lp (Int × (List UInt8) × Int × Int × (List Int)) ((List UInt8) × Int × Int × (List Int)))
 | (v12, v13, v14, v15, v16) =>
  if (decide (v12 < (v11.length : Int))) = true then
   (s_l1Cur_pick (⟨v13, v14, (⟨v15⟩ : IK .u64)⟩ : l1Cur) 12).bind fun r5 =>
   (chk (v16.length + ([(w64 (3 + r5.1))] : List Int).length ≤ 4294967296)).bind fun u7 =>
   some (.nx ((w64 (v12 + 1)), r5.2.code_, r5.2.at_, r5.2.seed_.v, (v16 ++ ([(w64 (3 + r5.1))] : List Int))))
  else
   some (.dn (v13, v14, v15, v16))
noncomputable def s_l1Cur_line (c : l1Cur) (name : ByteArray) (stops : Int) : Option (Line × l1Cur) :=
 (s_l1Cur_pick c stops).bind fun r =>
 (s_l1Cur_pick r.2 3).bind fun r1 =>
 (iter (s_l1Cur_line_L1 name stops) (r.1, (w64 (2 + r1.1)), r1.2.code_, r1.2.at_, r1.2.seed_.v, ([] : List Int))).bind fun ((v7, v8, v9, v10) : (List UInt8) × Int × Int × (List Int)) =>
 (if (decide ((v10.length : Int) < 2)) = true then
  (idx v10 0).bind fun e1 =>
  (chk ((stops : Int) ≠ 0)).bind fun u4 =>
  (chk (v10.length + ([((w64 (e1 + 1)).tmod stops)] : List Int).length ≤ 4294967296)).bind fun u5 =>
  some (v10 ++ ([((w64 (e1 + 1)).tmod stops)] : List Int))
 else
  some v10).bind fun (v11 : List Int) =>
 (iter (s_l1Cur_line_L2 v11) ((1 : Int), v7, v8, v9, ([] : List Int))).bind fun ((v17, v18, v19, v20) : (List UInt8) × Int × Int × (List Int)) =>
 some ((⟨name, v11, v20⟩ : Line), (⟨v17, v18, (⟨v19⟩ : IK .u64)⟩ : l1Cur))
noncomputable def s_l1Cur_line_f_L1 (name : ByteArray) (stops : Int) : Int × Int × (List UInt8) × Int × Int × (List Int) → Option (Lp (Int × Int × (List UInt8) × Int × Int × (List Int)) ((List UInt8) × Int × Int × (List Int)))
 | (v, v1, v2, v3, v4, v5) =>
  if (decide (0 < v1)) = true then
   ((s_l2Place (⟨name, v5, ([] : List Int)⟩ : Line) v).bind fun r2 =>
   if (decide (r2 < 0)) = true then
    (chk (v5.length + ([v] : List Int).length ≤ 4294967296)).bind fun u =>
    some (v5 ++ ([v] : List Int))
   else
    some v5).bind fun (v6 : List Int) =>
   (s_l1Cur_pick (⟨v2, v3, (⟨v4⟩ : IK .u64)⟩ : l1Cur) 2).bind fun r3 =>
   (chk ((stops : Int) ≠ 0)).bind fun u1 =>
   some (.nx (((w64 ((w64 (v + 1)) + r3.1)).tmod stops), (w64 (v1 - 1)), r3.2.code_, r3.2.at_, r3.2.seed_.v, v6))
  else
   some (.dn (v2, v3, v4, v5))
noncomputable def s_l1Cur_line_f_L2 (v11 : List Int) : Int × (List UInt8) × Int × Int × (List Int) → Option (Lp (Int × (List UInt8) × Int × Int × (List Int)) ((List UInt8) × Int × Int × (List Int)))
 | (v12, v13, v14, v15, v16) =>
  if (decide (v12 < (v11.length : Int))) = true then
   (s_l1Cur_pick (⟨v13, v14, (⟨v15⟩ : IK .u64)⟩ : l1Cur) 12).bind fun r5 =>
   (chk (v16.length + ([(w64 (3 + r5.1))] : List Int).length ≤ 4294967296)).bind fun u7 =>
   some (.nx ((w64 (v12 + 1)), r5.2.code_, r5.2.at_, r5.2.seed_.v, (v16 ++ ([(w64 (3 + r5.1))] : List Int))))
  else
   some (.dn (v13, v14, v15, v16))
noncomputable def s_l1Cur_line_f (c : l1Cur) (name : ByteArray) (stops : Int) : Option (Line × l1Cur) :=
 (s_l1Cur_pick c stops).bind fun r =>
 (s_l1Cur_pick r.2 3).bind fun r1 =>
 (iter (s_l1Cur_line_f_L1 name stops) (r.1, (w64 (2 + r1.1)), r1.2.code_, r1.2.at_, r1.2.seed_.v, ([] : List Int))).bind fun ((v7, v8, v9, v10) : (List UInt8) × Int × Int × (List Int)) =>
 (if (decide ((v10.length : Int) < 2)) = true then
  (idx v10 0).bind fun e1 =>
  (chk ((stops : Int) ≠ 0)).bind fun u4 =>
  (chk (v10.length + ([((w64 (e1 + 1)).tmod stops)] : List Int).length ≤ 4294967296)).bind fun u5 =>
  some (v10 ++ ([((w64 (e1 + 1)).tmod stops)] : List Int))
 else
  some v10).bind fun (v11 : List Int) =>
 (iter (s_l1Cur_line_f_L2 v11) ((1 : Int), v7, v8, v9, ([] : List Int))).bind fun ((v17, v18, v19, v20) : (List UInt8) × Int × Int × (List Int)) =>
 some ((⟨name, v11, v20⟩ : Line), (⟨v17, v18, (⟨v19⟩ : IK .u64)⟩ : l1Cur))
noncomputable def s_l2Back_L1 (list : List Int) : Int × (List Int) → Option (Lp (Int × (List Int)) ((List Int)))
 | (v, i) =>
  if (decide (0 ≤ v)) = true then
   (idx list v).bind fun e =>
   (chk (i.length + ([e] : List Int).length ≤ 4294967296)).bind fun u =>
   some (.nx ((w64 (v - 1)), (i ++ ([e] : List Int))))
  else
   some (.dn i)
noncomputable def s_l2Back (list : List Int) : Option ((List Int)) :=
 (iter (s_l2Back_L1 list) ((w64 ((list.length : Int) - 1)), ([] : List Int))).bind fun (i1 : List Int) =>
 some i1
noncomputable def s_l2Back_f_L1 (list : List Int) : Int × (List Int) → Option (Lp (Int × (List Int)) ((List Int)))
 | (v, i) =>
  if (decide (0 ≤ v)) = true then
   (idx list v).bind fun e =>
   (chk (i.length + ([e] : List Int).length ≤ 4294967296)).bind fun u =>
   some (.nx ((w64 (v - 1)), (i ++ ([e] : List Int))))
  else
   some (.dn i)
noncomputable def s_l2Back_f (list : List Int) : Option ((List Int)) :=
 (iter (s_l2Back_f_L1 list) ((w64 ((list.length : Int) - 1)), ([] : List Int))).bind fun (i1 : List Int) =>
 some i1
noncomputable def s_l1Own (l : List Int) : Option ((List Int)) :=
 (chk (([] : List Int).length + l.length ≤ 4294967296)).bind fun u =>
 some (([] : List Int) ++ l)
noncomputable def s_l1Own_f (l : List Int) : Option ((List Int)) :=
 (chk (([] : List Int).length + l.length ≤ 4294967296)).bind fun u =>
 some (([] : List Int) ++ l)
noncomputable def s_l2Own_L1 (n : Network) : Int × (List Line) → Option (Lp (Int × (List Line)) ((List Line)))
 | (v, v1) =>
  if (decide (v < (n.Lines.length : Int))) = true then
   (idx n.Lines v).bind fun e3 =>
   (idx n.Lines v).bind fun e4 =>
   (s_l1Own_f e4.Stops).bind fun r2 =>
   (idx n.Lines v).bind fun e5 =>
   (s_l1Own_f e5.Runs).bind fun r3 =>
   (chk (v1.length + ([(⟨e3.Name, r2, r3⟩ : Line)] : List Line).length ≤ 4294967296)).bind fun u2 =>
   some (.nx ((w64 (v + 1)), (v1 ++ ([(⟨e3.Name, r2, r3⟩ : Line)] : List Line))))
  else
   some (.dn v1)
noncomputable def s_l2Own (n : Network) : Option (Network) :=
 (chk (([] : List ByteArray).length + n.Stops.length ≤ 4294967296)).bind fun u =>
 (iter (s_l2Own_L1 n) ((0 : Int), ([] : List Line))).bind fun (v2 : List Line) =>
 some (⟨(([] : List ByteArray) ++ n.Stops), v2⟩ : Network)
noncomputable def s_l1Cur_network_L1 (r : Int × l1Cur) : Int × (List UInt8) × Int × Int × (List Line) → Option (Lp (Int × (List UInt8) × Int × Int × (List Line)) ((List UInt8) × Int × Int × (List Line)))
 | (x, v, v1, v2, v3) =>
  if (decide (0 < x)) = true then
   (s_l1Num x).bind fun r4 =>
   (chk ((str [108]).size + r4.size ≤ 4294967296)).bind fun u3 =>
   (s_l1Cur_line_f (⟨v, v1, (⟨v2⟩ : IK .u64)⟩ : l1Cur) ((str [108]) ++ r4) (w64 (2 + r.1))).bind fun r5 =>
   (chk (v3.length + ([r5.1] : List Line).length ≤ 4294967296)).bind fun u4 =>
   some (.nx ((w64 (x - 1)), r5.2.code_, r5.2.at_, r5.2.seed_.v, (v3 ++ ([r5.1] : List Line))))
  else
   some (.dn (v, v1, v2, v3))
noncomputable def s_l1Cur_network (c : l1Cur) : Option (Network × l1Cur) :=
 (s_l1Cur_pick c 5).bind fun r =>
 (chk ((0 : Int) ≤ 0 ∧ 0 ≤ (w64 (2 + r.1)) ∧ (w64 (2 + r.1)) ≤ (([(str [112, 111, 114, 116]), (str [109, 105, 108, 108]), (str [112, 97, 114, 107]), (str [104, 97, 108, 108]), (str [100, 111, 99, 107]), (str [102, 97, 105, 114])] : List ByteArray).length : Int))).bind fun u =>
 (s_l1Cur_pick r.2 3).bind fun r1 =>
 (iter (s_l1Cur_network_L1 r) ((w64 (1 + r1.1)), r1.2.code_, r1.2.at_, r1.2.seed_.v, ([] : List Line))).bind fun ((v4, v5, v6, v7) : (List UInt8) × Int × Int × (List Line)) =>
 ((s_l1Cur_one (⟨v4, v5, (⟨v6⟩ : IK .u64)⟩ : l1Cur) 2).bind fun r6 =>
 if r6.1 = true then
  (idx v7 0).bind fun e =>
  (s_l2Back_f e.Stops).bind fun r9 =>
  (s_l2Back_f e.Runs).bind fun r10 =>
  (chk (v7.length + ([(⟨(str [114, 49]), r9, r10⟩ : Line)] : List Line).length ≤ 4294967296)).bind fun u6 =>
  some (r6.2.code_, r6.2.at_, r6.2.seed_.v, (v7 ++ ([(⟨(str [114, 49]), r9, r10⟩ : Line)] : List Line)))
 else
  some (r6.2.code_, r6.2.at_, r6.2.seed_.v, v7)).bind fun ((v8, v9, v10, v11) : (List UInt8) × Int × Int × (List Line)) =>
 (s_l2Own (⟨((([(str [112, 111, 114, 116]), (str [109, 105, 108, 108]), (str [112, 97, 114, 107]), (str [104, 97, 108, 108]), (str [100, 111, 99, 107]), (str [102, 97, 105, 114])] : List ByteArray).take (w64 (2 + r.1)).toNat).drop (0 : Int).toNat), v11⟩ : Network)).bind fun r11 =>
 some ((⟨r11.Stops, r11.Lines⟩ : Network), (⟨v8, v9, (⟨v10⟩ : IK .u64)⟩ : l1Cur))
noncomputable def s_l1Cur_timetable_L1 (r : Network × l1Cur) : Int × Int × (List UInt8) × Int × Int × (List Trip) → Option (Lp (Int × Int × (List UInt8) × Int × Int × (List Trip)) ((List UInt8) × Int × Int × (List Trip)))
 | (n, v, v1, v2, v3, v4) =>
  if (decide (0 < v)) = true then
   (s_l1Cur_pick (⟨v1, v2, (⟨v3⟩ : IK .u64)⟩ : l1Cur) 3).bind fun r2 =>
   (s_l1Cur_pick r2.2 (r.1.Lines.length : Int)).bind fun r5 =>
   (s_l1Cur_pick r5.2 24).bind fun r6 =>
   (chk (v4.length + ([(⟨(w64 ((w64 (n + 1)) + r2.1)), r5.1, (w64 (360 + (w64 (5 * r6.1))))⟩ : Trip)] : List Trip).length ≤ 4294967296)).bind fun u1 =>
   some (.nx ((w64 ((w64 (n + 1)) + r2.1)), (w64 (v - 1)), r6.2.code_, r6.2.at_, r6.2.seed_.v, (v4 ++ ([(⟨(w64 ((w64 (n + 1)) + r2.1)), r5.1, (w64 (360 + (w64 (5 * r6.1))))⟩ : Trip)] : List Trip))))
  else
   some (.dn (v1, v2, v3, v4))
noncomputable def s_l1Cur_timetable (c : l1Cur) : Option (Timetable × l1Cur) :=
 (s_l1Cur_network c).bind fun r =>
 (s_l1Cur_pick r.2 8).bind fun r1 =>
 (iter (s_l1Cur_timetable_L1 r) ((0 : Int), r1.1, r1.2.code_, r1.2.at_, r1.2.seed_.v, ([] : List Trip))).bind fun ((v5, v6, v7, v8) : (List UInt8) × Int × Int × (List Trip)) =>
 some ((⟨(⟨r.1.Stops, r.1.Lines⟩ : Network), v8⟩ : Timetable), (⟨v5, v6, (⟨v7⟩ : IK .u64)⟩ : l1Cur))
noncomputable def s_l1Cur_of (c : l1Cur) (list : List ByteArray) : Option (ByteArray × l1Cur) :=
 (s_l1Cur_pick c (list.length : Int)).bind fun r =>
 (idx list r.1).bind fun e =>
 some (e, r.2)
noncomputable def s_l1Cur_of_w (c : l1Cur) (list : List ByteArray) : Option (ByteArray × l1Cur) :=
 (s_l1Cur_pick c (list.length : Int)).bind fun r =>
 (idx list r.1).bind fun e =>
 some (e, r.2)
noncomputable def s_l2Own_t_L1 (n : Network) : Int × (List Line) → Option (Lp (Int × (List Line)) ((List Line)))
 | (v, v1) =>
  if (decide (v < (n.Lines.length : Int))) = true then
   (idx n.Lines v).bind fun e3 =>
   (idx n.Lines v).bind fun e4 =>
   (s_l1Own e4.Stops).bind fun r2 =>
   (idx n.Lines v).bind fun e5 =>
   (s_l1Own e5.Runs).bind fun r3 =>
   (chk (v1.length + ([(⟨e3.Name, r2, r3⟩ : Line)] : List Line).length ≤ 4294967296)).bind fun u2 =>
   some (.nx ((w64 (v + 1)), (v1 ++ ([(⟨e3.Name, r2, r3⟩ : Line)] : List Line))))
  else
   some (.dn v1)
noncomputable def s_l2Own_t (n : Network) : Option (Network) :=
 (chk (([] : List ByteArray).length + n.Stops.length ≤ 4294967296)).bind fun u =>
 (iter (s_l2Own_t_L1 n) ((0 : Int), ([] : List Line))).bind fun (v2 : List Line) =>
 some (⟨(([] : List ByteArray) ++ n.Stops), v2⟩ : Network)
noncomputable def s_l1Cur_network_t_L1 (r : Int × l1Cur) : Int × (List UInt8) × Int × Int × (List Line) → Option (Lp (Int × (List UInt8) × Int × Int × (List Line)) ((List UInt8) × Int × Int × (List Line)))
 | (x, v, v1, v2, v3) =>
  if (decide (0 < x)) = true then
   (s_l1Num x).bind fun r4 =>
   (chk ((str [108]).size + r4.size ≤ 4294967296)).bind fun u3 =>
   (s_l1Cur_line_f (⟨v, v1, (⟨v2⟩ : IK .u64)⟩ : l1Cur) ((str [108]) ++ r4) (w64 (2 + r.1))).bind fun r5 =>
   (chk (v3.length + ([r5.1] : List Line).length ≤ 4294967296)).bind fun u4 =>
   some (.nx ((w64 (x - 1)), r5.2.code_, r5.2.at_, r5.2.seed_.v, (v3 ++ ([r5.1] : List Line))))
  else
   some (.dn (v, v1, v2, v3))
noncomputable def s_l1Cur_network_t (c : l1Cur) : Option (Network × l1Cur) :=
 (s_l1Cur_pick c 5).bind fun r =>
 (chk ((0 : Int) ≤ 0 ∧ 0 ≤ (w64 (2 + r.1)) ∧ (w64 (2 + r.1)) ≤ (([(str [112, 111, 114, 116]), (str [109, 105, 108, 108]), (str [112, 97, 114, 107]), (str [104, 97, 108, 108]), (str [100, 111, 99, 107]), (str [102, 97, 105, 114])] : List ByteArray).length : Int))).bind fun u =>
 (s_l1Cur_pick r.2 3).bind fun r1 =>
 (iter (s_l1Cur_network_t_L1 r) ((w64 (1 + r1.1)), r1.2.code_, r1.2.at_, r1.2.seed_.v, ([] : List Line))).bind fun ((v4, v5, v6, v7) : (List UInt8) × Int × Int × (List Line)) =>
 ((s_l1Cur_one (⟨v4, v5, (⟨v6⟩ : IK .u64)⟩ : l1Cur) 2).bind fun r6 =>
 if r6.1 = true then
  (idx v7 0).bind fun e =>
  (s_l2Back_f e.Stops).bind fun r9 =>
  (s_l2Back_f e.Runs).bind fun r10 =>
  (chk (v7.length + ([(⟨(str [114, 49]), r9, r10⟩ : Line)] : List Line).length ≤ 4294967296)).bind fun u6 =>
  some (r6.2.code_, r6.2.at_, r6.2.seed_.v, (v7 ++ ([(⟨(str [114, 49]), r9, r10⟩ : Line)] : List Line)))
 else
  some (r6.2.code_, r6.2.at_, r6.2.seed_.v, v7)).bind fun ((v8, v9, v10, v11) : (List UInt8) × Int × Int × (List Line)) =>
 (s_l2Own_t (⟨((([(str [112, 111, 114, 116]), (str [109, 105, 108, 108]), (str [112, 97, 114, 107]), (str [104, 97, 108, 108]), (str [100, 111, 99, 107]), (str [102, 97, 105, 114])] : List ByteArray).take (w64 (2 + r.1)).toNat).drop (0 : Int).toNat), v11⟩ : Network)).bind fun r11 =>
 some ((⟨r11.Stops, r11.Lines⟩ : Network), (⟨v8, v9, (⟨v10⟩ : IK .u64)⟩ : l1Cur))
noncomputable def s_l1Cur_among_w (c : l1Cur) (list : List Int) : Option (Int × l1Cur) :=
 (s_l1Cur_pick c (list.length : Int)).bind fun r =>
 (idx list r.1).bind fun e =>
 some (e, r.2)
noncomputable def s_l1Cur_anyNetwork_L1 (r : Network × l1Cur) : Int × (List UInt8) × Int × Int × (List Line) → Option (Lp (Int × (List UInt8) × Int × Int × (List Line)) ((List UInt8) × Int × Int × (List Line)))
 | (v7, v8, v9, v10, v11) =>
  (s_l1Cur_pick (⟨v8, v9, (⟨v10⟩ : IK .u64)⟩ : l1Cur) 2).bind fun r16 =>
  (if (decide ((v11.length : Int) < (w64 (5 + r16.1)))) = true then some (decide (v7 < 7)) else some false).bind fun (v12 : Bool) =>
  if v12 = true then
   (s_l1Num v7).bind fun r19 =>
   (chk ((str [120]).size + r19.size ≤ 4294967296)).bind fun u3 =>
   (s_l1Cur_line r16.2 ((str [120]) ++ r19) (r.1.Stops.length : Int)).bind fun r20 =>
   (chk (v11.length + ([(⟨r20.1.Name, r20.1.Stops, r20.1.Runs⟩ : Line)] : List Line).length ≤ 4294967296)).bind fun u4 =>
   some (.nx ((w64 (v7 + 1)), r20.2.code_, r20.2.at_, r20.2.seed_.v, (v11 ++ ([(⟨r20.1.Name, r20.1.Stops, r20.1.Runs⟩ : Line)] : List Line))))
  else
   some (.dn (r16.2.code_, r16.2.at_, r16.2.seed_.v, v11))
noncomputable def s_l1Cur_anyNetwork (c : l1Cur) : Option (Network × l1Cur) :=
 (s_l1Cur_network_t c).bind fun r =>
 (s_l1Cur_pick r.2 (r.1.Lines.length : Int)).bind fun r1 =>
 (idx r.1.Lines r1.1).bind fun e =>
 flb ((s_l1Cur_pick r1.2 24).bind fun r2 =>
 if (r2.1 == 0) = true then
  (s_l1Cur_of_w r2.2 ([(str [109, 105, 108, 108]), (str []), (str [65]), (str [97, 98, 99, 100, 101, 102, 103, 104]), (str [97, 98, 99, 100, 101, 102, 103, 104, 105])] : List ByteArray)).bind fun r4 =>
  (idx r.1.Stops 0).bind fun e2 =>
  some (.go (r4.2.code_, r4.2.at_, r4.2.seed_.v, e.Name, (r.1.Stops.set (0 : Int).toNat r4.1), r.1.Lines, e.Runs))
 else
  if (r2.1 == 1) = true then
   (s_l1Cur_of_w r2.2 ([(str [114, 49]), (str [108, 49]), (str []), (str [88])] : List ByteArray)).bind fun r5 =>
   some (.go (r5.2.code_, r5.2.at_, r5.2.seed_.v, r5.1, r.1.Stops, r.1.Lines, e.Runs))
  else
   if (r2.1 == 2) = true then
    (s_l1Cur_pick r2.2 (e.Stops.length : Int)).bind fun r8 =>
    (s_l1Cur_pick r8.2 10).bind fun r9 =>
    (idx e.Stops r8.1).bind fun e4 =>
    some (.go (r9.2.code_, r9.2.at_, r9.2.seed_.v, e.Name, r.1.Stops, (r.1.Lines.set r1.1.toNat (⟨e.Name, (e.Stops.set r8.1.toNat (w64 (r9.1 - 1))), e.Runs⟩ : Line)), ((⟨e.Name, (e.Stops.set r8.1.toNat (w64 (r9.1 - 1))), e.Runs⟩ : Line).Runs)))
   else
    if (r2.1 == 3) = true then
     (s_l1Cur_pick r2.2 (e.Runs.length : Int)).bind fun r12 =>
     (s_l1Cur_among_w r12.2 ([0, 60, 61, (-1)] : List Int)).bind fun r13 =>
     (idx e.Runs r12.1).bind fun e6 =>
     some (.go (r13.2.code_, r13.2.at_, r13.2.seed_.v, e.Name, r.1.Stops, (r.1.Lines.set r1.1.toNat (⟨e.Name, e.Stops, (e.Runs.set r12.1.toNat r13.1)⟩ : Line)), ((⟨e.Name, e.Stops, (e.Runs.set r12.1.toNat r13.1)⟩ : Line).Runs)))
    else
     if (r2.1 == 4) = true then
      (chk (e.Runs.length + ([3] : List Int).length ≤ 4294967296)).bind fun u =>
      some (.go (r2.2.code_, r2.2.at_, r2.2.seed_.v, e.Name, r.1.Stops, r.1.Lines, (e.Runs ++ ([3] : List Int))))
     else
      if (r2.1 == 5) = true then
       some (.ret ((⟨r.1.Stops, ([] : List Line)⟩ : Network), r2.2))
      else
       if (r2.1 == 6) = true then
        (iter (s_l1Cur_anyNetwork_L1 r) ((0 : Int), r2.2.code_, r2.2.at_, r2.2.seed_.v, r.1.Lines)).bind fun ((v13, v14, v15, v16) : (List UInt8) × Int × Int × (List Line)) =>
        some (.ret ((⟨r.1.Stops, v16⟩ : Network), (⟨v13, v14, (⟨v15⟩ : IK .u64)⟩ : l1Cur)))
       else
        some (.go (r2.2.code_, r2.2.at_, r2.2.seed_.v, e.Name, r.1.Stops, r.1.Lines, e.Runs))) fun ((v, v1, v2, v3, v4, v5, v6) : (List UInt8) × Int × Int × ByteArray × (List ByteArray) × (List Line) × (List Int)) =>
 (idx v5 r1.1).bind fun e9 =>
 some ((⟨v4, (v5.set r1.1.toNat (⟨v3, e9.Stops, v6⟩ : Line))⟩ : Network), (⟨v, v1, (⟨v2⟩ : IK .u64)⟩ : l1Cur))
noncomputable def s_l1Cur_anyTimetable_L1 : Int × (List UInt8) × Int × Int × (List Trip) → Option (Lp (Int × (List UInt8) × Int × Int × (List Trip)) ((List UInt8) × Int × Int × (List Trip)))
 | (v8, v9, v10, v11, v12) =>
  (s_l1Cur_pick (⟨v9, v10, (⟨v11⟩ : IK .u64)⟩ : l1Cur) 2).bind fun r8 =>
  (if (decide ((v12.length : Int) < (w64 (12 + r8.1)))) = true then some (decide (v8 < 14)) else some false).bind fun (v13 : Bool) =>
  if v13 = true then
   (chk (v12.length + ([(⟨(w64 (100 + v8)), 0, (w64 (400 + v8))⟩ : Trip)] : List Trip).length ≤ 4294967296)).bind fun u =>
   some (.nx ((w64 (v8 + 1)), r8.2.code_, r8.2.at_, r8.2.seed_.v, (v12 ++ ([(⟨(w64 (100 + v8)), 0, (w64 (400 + v8))⟩ : Trip)] : List Trip))))
  else
   some (.dn (r8.2.code_, r8.2.at_, r8.2.seed_.v, v12))
noncomputable def s_l1Cur_anyTimetable (c : l1Cur) : Option (Timetable × l1Cur) :=
 (s_l1Cur_timetable c).bind fun r =>
 if ((r.1.Trips.length : Int) == 0) = true then
  some ((⟨(⟨r.1.Network.Stops, r.1.Network.Lines⟩ : Network), r.1.Trips⟩ : Timetable), r.2)
 else
  (s_l1Cur_pick r.2 (r.1.Trips.length : Int)).bind fun r1 =>
  (idx r.1.Trips r1.1).bind fun e =>
  flb ((s_l1Cur_pick r1.2 24).bind fun r2 =>
  if (r2.1 == 0) = true then
   (s_l1Cur_among r2.2 ([0, 999, 1000, 2] : List Int)).bind fun r3 =>
   some (.go (r3.2.code_, r3.2.at_, r3.2.seed_.v, r.1.Network.Lines, r3.1, e.Line, e.Start, r.1.Network.Stops))
  else
   if (r2.1 == 1) = true then
    (s_l1Cur_pick r2.2 7).bind fun r4 =>
    some (.go (r4.2.code_, r4.2.at_, r4.2.seed_.v, r.1.Network.Lines, e.Id, (w64 (r4.1 - 1)), e.Start, r.1.Network.Stops))
   else
    if (r2.1 == 2) = true then
     (s_l1Cur_among r2.2 ([(-1), 0, 1799, 1798, 1800] : List Int)).bind fun r5 =>
     some (.go (r5.2.code_, r5.2.at_, r5.2.seed_.v, r.1.Network.Lines, e.Id, e.Line, r5.1, r.1.Network.Stops))
    else
     if (r2.1 == 3) = true then
      (s_l1Cur_anyNetwork r2.2).bind fun r6 =>
      some (.go (r6.2.code_, r6.2.at_, r6.2.seed_.v, r6.1.Lines, e.Id, e.Line, e.Start, r6.1.Stops))
     else
      if (r2.1 == 4) = true then
       (iter (s_l1Cur_anyTimetable_L1) ((0 : Int), r2.2.code_, r2.2.at_, r2.2.seed_.v, r.1.Trips)).bind fun ((v14, v15, v16, v17) : (List UInt8) × Int × Int × (List Trip)) =>
       some (.ret ((⟨(⟨r.1.Network.Stops, r.1.Network.Lines⟩ : Network), v17⟩ : Timetable), (⟨v14, v15, (⟨v16⟩ : IK .u64)⟩ : l1Cur)))
      else
       some (.go (r2.2.code_, r2.2.at_, r2.2.seed_.v, r.1.Network.Lines, e.Id, e.Line, e.Start, r.1.Network.Stops))) fun ((v, v1, v2, v3, v4, v5, v6, v7) : (List UInt8) × Int × Int × (List Line) × Int × Int × Int × (List ByteArray)) =>
  (idx r.1.Trips r1.1).bind fun e2 =>
  some ((⟨(⟨v7, v3⟩ : Network), (r.1.Trips.set r1.1.toNat (⟨v4, v5, v6⟩ : Trip))⟩ : Timetable), (⟨v, v1, (⟨v2⟩ : IK .u64)⟩ : l1Cur))
noncomputable def s_DrawRepeatTrips (code : List UInt8) : Option (Timetable × Int × Int × Int × Int) :=
 (s_l1Cur_time (⟨code, 0, (⟨0⟩ : IK .u64)⟩ : l1Cur)).bind fun r =>
 (s_l1Cur_anyTimetable r.2).bind fun r1 =>
 (s_l1Cur_pick r1.2 3).bind fun r2 =>
 (s_l1Cur_pick r2.2 9).bind fun r3 =>
 (chk ((8 : Int) ≠ 0)).bind fun u =>
 (s_l1Cur_among r3.2 ([0, 10, 40, 60, (-5), 200] : List Int)).bind fun r4 =>
 (s_l1Cur_among r4.2 ([10, 15, 20, 30, 12, 0, 5000] : List Int)).bind fun r5 =>
 some ((⟨(⟨r1.1.Network.Stops, r1.1.Network.Lines⟩ : Network), r1.1.Trips⟩ : Timetable), (w64 (r2.1 - (w64 (r3.1.tdiv 8)))), r.1, (w64 (r.1 + r4.1)), r5.1)
noncomputable def i_within (n : Int) (lo : Int) (hi : Int) : Option (Bool) :=
 (if (decide (lo ≤ n)) = true then some (decide (n ≤ hi)) else some false).bind fun (v : Bool) =>
 some v
noncomputable def i_isName_L1 (s : ByteArray) : Int → Option (Lp (Int) (Fl (Bool) (Unit)))
 | v1 =>
  if (decide (v1 < (s.size : Int))) = true then
   (chk ((0 : Int) ≤ v1 ∧ v1 < (s.size : Int))).bind fun u =>
   (if (decide (97 ≤ ((s.data.toList.getD v1.toNat 0).toNat : Int))) = true then (chk ((0 : Int) ≤ v1 ∧ v1 < (s.size : Int))).bind fun u1 =>
   some (decide (((s.data.toList.getD v1.toNat 0).toNat : Int) ≤ 122)) else some false).bind fun (v2 : Bool) =>
   (if (!v2) = true then if (v1 == 0) = true then some true else (chk ((0 : Int) ≤ v1 ∧ v1 < (s.size : Int))).bind fun u2 =>
   if (decide (((s.data.toList.getD v1.toNat 0).toNat : Int) < 48)) = true then some true else (chk ((0 : Int) ≤ v1 ∧ v1 < (s.size : Int))).bind fun u3 =>
   some (decide (57 < ((s.data.toList.getD v1.toNat 0).toNat : Int))) else some false).bind fun (v3 : Bool) =>
   if v3 = true then
    some (.dn (.ret false))
   else
    some (.nx (w64 (v1 + 1)))
  else
   some (.dn (.go ()))
noncomputable def i_isName (s : ByteArray) : Option (Bool) :=
 (if (decide ((s.size : Int) < 1)) = true then some true else some (decide (8 < (s.size : Int)))).bind fun (v : Bool) =>
 if v = true then
  some false
 else
  flb (iter (i_isName_L1 s) (0 : Int)) fun (_ : Unit) =>
  some true
noncomputable def slices_Index_string_L1 (s : List ByteArray) (v : ByteArray) : Int → Option (Lp (Int) (Fl (Int) (Unit)))
 | v1 =>
  if (decide (v1 < (s.length : Int))) = true then
   (idx s v1).bind fun e =>
   if (v.toList == e.toList) = true then
    some (.dn (.ret v1))
   else
    some (.nx (w64 (v1 + 1)))
  else
   some (.dn (.go ()))
noncomputable def slices_Index_string (s : List ByteArray) (v : ByteArray) : Option (Int) :=
 flb (iter (slices_Index_string_L1 s v) (0 : Int)) fun (_ : Unit) =>
 some (-1)
noncomputable def i_areNames_L1 (names : List ByteArray) : Int → Option (Lp (Int) (Fl (Bool) (Unit)))
 | v =>
  if (decide (v < (names.length : Int))) = true then
   (idx names v).bind fun e =>
   (i_isName e).bind fun r =>
   (if (!r) = true then some true else (slices_Index_string names e).bind fun r1 =>
   some (r1 != v)).bind fun (v1 : Bool) =>
   if v1 = true then
    some (.dn (.ret false))
   else
    some (.nx (w64 (v + 1)))
  else
   some (.dn (.go ()))
noncomputable def i_areNames (names : List ByteArray) : Option (Bool) :=
 flb (iter (i_areNames_L1 names) (0 : Int)) fun (_ : Unit) =>
 some true
noncomputable def i_lineNames_L1 (n : Network) : Int × (List ByteArray) → Option (Lp (Int × (List ByteArray)) ((List ByteArray)))
 | (v, i) =>
  if (decide (v < (n.Lines.length : Int))) = true then
   (idx n.Lines v).bind fun e =>
   (idx i v).bind fun e1 =>
   some (.nx ((w64 (v + 1)), (i.set v.toNat e.Name)))
  else
   some (.dn i)
noncomputable def i_lineNames (n : Network) : Option ((List ByteArray)) :=
 (chk ((0 : Int) ≤ (n.Lines.length : Int) ∧ ((n.Lines.length : Int) : Int) ≤ 4294967296)).bind fun u =>
 (iter (i_lineNames_L1 n) ((0 : Int), (List.replicate (n.Lines.length : Int).toNat (ByteArray.empty : ByteArray)))).bind fun (i1 : List ByteArray) =>
 some i1
noncomputable def i_isStop (n : Network) (stop : Int) : Option (Bool) :=
 (if (decide (0 ≤ stop)) = true then some (decide (stop < (n.Stops.length : Int))) else some false).bind fun (v : Bool) =>
 some v
noncomputable def slices_Index_int_L1 (s : List Int) (v : Int) : Int → Option (Lp (Int) (Fl (Int) (Unit)))
 | v1 =>
  if (decide (v1 < (s.length : Int))) = true then
   (idx s v1).bind fun e =>
   if (v == e) = true then
    some (.dn (.ret v1))
   else
    some (.nx (w64 (v1 + 1)))
  else
   some (.dn (.go ()))
noncomputable def slices_Index_int (s : List Int) (v : Int) : Option (Int) :=
 flb (iter (slices_Index_int_L1 s v) (0 : Int)) fun (_ : Unit) =>
 some (-1)
noncomputable def i_isValidLine_L1 (n : Network) (l : Line) : Int → Option (Lp (Int) (Fl (Bool) (Unit)))
 | v1 =>
  if (decide (v1 < (l.Stops.length : Int))) = true then
   (idx l.Stops v1).bind fun e =>
   (i_isStop n e).bind fun r1 =>
   (if (!r1) = true then some true else (slices_Index_int l.Stops e).bind fun r2 =>
   some (r2 != v1)).bind fun (v2 : Bool) =>
   if v2 = true then
    some (.dn (.ret false))
   else
    some (.nx (w64 (v1 + 1)))
  else
   some (.dn (.go ()))
noncomputable def i_isValidLine_L2 (l : Line) : Int → Option (Lp (Int) (Fl (Bool) (Unit)))
 | v3 =>
  if (decide (v3 < (l.Runs.length : Int))) = true then
   (idx l.Runs v3).bind fun e2 =>
   (i_within e2 1 60).bind fun r4 =>
   if (!r4) = true then
    some (.dn (.ret false))
   else
    some (.nx (w64 (v3 + 1)))
  else
   some (.dn (.go ()))
noncomputable def i_isValidLine (n : Network) (l : Line) : Option (Bool) :=
 (i_within (l.Stops.length : Int) 2 6).bind fun r =>
 (if (!r) = true then some true else some ((l.Runs.length : Int) != (w64 ((l.Stops.length : Int) - 1)))).bind fun (v : Bool) =>
 if v = true then
  some false
 else
  flb (iter (i_isValidLine_L1 n l) (0 : Int)) fun (_ : Unit) =>
  flb (iter (i_isValidLine_L2 l) (0 : Int)) fun (_ : Unit) =>
  some true
noncomputable def i_IsValidNetwork_L1 (n : Network) : Int → Option (Lp (Int) (Fl (Bool) (Unit)))
 | v1 =>
  if (decide (v1 < (n.Lines.length : Int))) = true then
   (idx n.Lines v1).bind fun e =>
   (i_isValidLine n e).bind fun r5 =>
   if (!r5) = true then
    some (.dn (.ret false))
   else
    some (.nx (w64 (v1 + 1)))
  else
   some (.dn (.go ()))
noncomputable def i_IsValidNetwork (n : Network) : Option (Bool) :=
 (i_within (n.Stops.length : Int) 2 8).bind fun r =>
 (if (!r) = true then some true else (i_within (n.Lines.length : Int) 1 5).bind fun r1 =>
 if (!r1) = true then some true else (i_areNames n.Stops).bind fun r2 =>
 if (!r2) = true then some true else (i_lineNames n).bind fun r3 =>
 (i_areNames r3).bind fun r4 =>
 some (!r4)).bind fun (v : Bool) =>
 if v = true then
  some false
 else
  flb (iter (i_IsValidNetwork_L1 n) (0 : Int)) fun (_ : Unit) =>
  some true
noncomputable def i_isLine (n : Network) (line : Int) : Option (Bool) :=
 (if (decide (0 ≤ line)) = true then some (decide (line < (n.Lines.length : Int))) else some false).bind fun (v : Bool) =>
 some v
noncomputable def i_IsValidTime (t : Int) : Option (Bool) :=
 (i_within t 0 1799).bind fun r =>
 some r
noncomputable def i_total_L1 (list : List Int) : Int × Int → Option (Lp (Int × Int) (Int))
 | (v, v1) =>
  if (decide (v1 < (list.length : Int))) = true then
   (idx list v1).bind fun e =>
   some (.nx ((w64 (v + e)), (w64 (v1 + 1))))
  else
   some (.dn v)
noncomputable def i_total (list : List Int) : Option (Int) :=
 (iter (i_total_L1 list) ((0 : Int), (0 : Int))).bind fun (v2 : Int) =>
 some v2
noncomputable def i_endOf (t : Timetable) (x : Trip) : Option (Int) :=
 (idx t.Network.Lines x.Line).bind fun e1 =>
 (i_total e1.Runs).bind fun r1 =>
 some (w64 (x.Start + r1))
noncomputable def i_areTrips_L1 (t : Timetable) : Int × Int → Option (Lp (Int × Int) (Fl (Bool) (Unit)))
 | (v, v1) =>
  if (decide (v1 < (t.Trips.length : Int))) = true then
   (idx t.Trips v1).bind fun e =>
   (if (decide (e.Id ≤ v)) = true then some true else if (decide (999 < e.Id)) = true then some true else (i_isLine t.Network e.Line).bind fun r =>
   if (!r) = true then some true else (i_IsValidTime e.Start).bind fun r1 =>
   if (!r1) = true then some true else (i_endOf t e).bind fun r2 =>
   (i_IsValidTime r2).bind fun r3 =>
   some (!r3)).bind fun (v2 : Bool) =>
   if v2 = true then
    some (.dn (.ret false))
   else
    some (.nx (e.Id, (w64 (v1 + 1))))
  else
   some (.dn (.go ()))
noncomputable def i_areTrips (t : Timetable) : Option (Bool) :=
 if (decide (12 < (t.Trips.length : Int))) = true then
  some false
 else
  flb (iter (i_areTrips_L1 t) ((0 : Int), (0 : Int))) fun (_ : Unit) =>
  some true
noncomputable def i_IsValidTimetable (t : Timetable) : Option (Bool) :=
 (i_IsValidNetwork t.Network).bind fun r =>
 (if r = true then (i_areTrips t).bind fun r1 =>
 some r1 else some false).bind fun (v : Bool) =>
 some v
noncomputable def slices_Clone_string (s : List ByteArray) : Option ((List ByteArray)) :=
 (chk (([] : List ByteArray).length + s.length ≤ 4294967296)).bind fun u =>
 some s
noncomputable def slices_Clone_int (s : List Int) : Option ((List Int)) :=
 (chk (([] : List Int).length + s.length ≤ 4294967296)).bind fun u =>
 some s
noncomputable def i_copyLine (l : Line) : Option (Line) :=
 (slices_Clone_int l.Stops).bind fun r2 =>
 (slices_Clone_int l.Runs).bind fun r3 =>
 some (⟨l.Name, r2, r3⟩ : Line)
noncomputable def i_copyNetwork_L1 (n : Network) : Int × (List Line) → Option (Lp (Int × (List Line)) ((List Line)))
 | (v, v1) =>
  if (decide (v < (n.Lines.length : Int))) = true then
   (idx n.Lines v).bind fun e =>
   (i_copyLine e).bind fun r3 =>
   (idx v1 v).bind fun e2 =>
   some (.nx ((w64 (v + 1)), (v1.set v.toNat r3)))
  else
   some (.dn v1)
noncomputable def i_copyNetwork (n : Network) : Option (Network) :=
 (slices_Clone_string n.Stops).bind fun r1 =>
 (chk ((0 : Int) ≤ (n.Lines.length : Int) ∧ ((n.Lines.length : Int) : Int) ≤ 4294967296)).bind fun u1 =>
 (iter (i_copyNetwork_L1 n) ((0 : Int), (List.replicate (n.Lines.length : Int).toNat ((⟨ByteArray.empty, ([] : List Int), ([] : List Int)⟩ : Line) : Line)))).bind fun (v2 : List Line) =>
 some (⟨r1, v2⟩ : Network)
noncomputable def slices_Clone_Trip (s : List Trip) : Option ((List Trip)) :=
 (chk (([] : List Trip).length + s.length ≤ 4294967296)).bind fun u =>
 some s
noncomputable def i_copyTimetable (t : Timetable) : Option (Timetable) :=
 (i_copyNetwork t.Network).bind fun r2 =>
 (slices_Clone_Trip t.Trips).bind fun r3 =>
 some (⟨(⟨r2.Stops, r2.Lines⟩ : Network), r3⟩ : Timetable)
noncomputable def i_tripIndex_1 (x : Trip) (c1 : Int) : Option (Bool) :=
 some (x.Id == c1)
noncomputable def slices_IndexFunc_Trip_L1 (s : List Trip) (f : Trip → Option (Bool)) : Int → Option (Lp (Int) (Fl (Int) (Unit)))
 | v =>
  if (decide (v < (s.length : Int))) = true then
   (idx s v).bind fun e =>
   (f e).bind fun r =>
   if r = true then
    some (.dn (.ret v))
   else
    some (.nx (w64 (v + 1)))
  else
   some (.dn (.go ()))
noncomputable def slices_IndexFunc_Trip (s : List Trip) (f : Trip → Option (Bool)) : Option (Int) :=
 flb (iter (slices_IndexFunc_Trip_L1 s f) (0 : Int)) fun (_ : Unit) =>
 some (-1)
noncomputable def slices_IndexFunc_Trip__i_tripIndex_1 (s : List Trip) (c1 : Int) : Option (Int) :=
 slices_IndexFunc_Trip s (fun (z0 : Trip) => i_tripIndex_1 z0 c1)
noncomputable def i_tripIndex (t : Timetable) (id : Int) : Option (Int) :=
 (slices_IndexFunc_Trip__i_tripIndex_1 t.Trips id).bind fun r =>
 some r
noncomputable def i_freeId_L1 (t : Timetable) : Int → Option (Lp (Int) (Int))
 | v =>
  (i_tripIndex t v).bind fun r =>
  if (decide (0 ≤ r)) = true then
   some (.nx (w64 (v + 1)))
  else
   some (.dn v)
noncomputable def i_freeId (t : Timetable) : Option (Int) :=
 (iter (i_freeId_L1 t) (1 : Int)).bind fun (v1 : Int) =>
 some v1
noncomputable def slices_Insert_Trip_m (s : List Trip) (i : Int) (v : List Trip) : Option ((List Trip)) :=
 insM s i v
noncomputable def i_withTrip_L1 (t : Timetable) (x : Trip) : Int → Option (Lp (Int) (Int))
 | v =>
  (if (decide (v < (t.Trips.length : Int))) = true then (idx t.Trips v).bind fun e1 =>
  some (decide (e1.Id < x.Id)) else some false).bind fun (v1 : Bool) =>
  if v1 = true then
   some (.nx (w64 (v + 1)))
  else
   some (.dn v)
noncomputable def i_withTrip (t : Timetable) (x : Trip) : Option (Timetable) :=
 (iter (i_withTrip_L1 t x) (0 : Int)).bind fun (v2 : Int) =>
 (i_copyTimetable t).bind fun r =>
 (slices_Insert_Trip_m r.Trips v2 ([x] : List Trip)).bind fun r1 =>
 some (⟨(⟨r.Network.Stops, r.Network.Lines⟩ : Network), r1⟩ : Timetable)
noncomputable def i_RepeatTrips_L1 (line : Int) (to : Int) (headway : Int) : Int × Int × (List ByteArray) × (List Line) × (List Trip) → Option (Lp (Int × Int × (List ByteArray) × (List Line) × (List Trip)) (Fl (Fl (Timetable × Int × Bool) (Int × (List ByteArray) × (List Line) × (List Trip))) (Int × (List ByteArray) × (List Line) × (List Trip))))
 | (v5, v6, v7, v8, v9) =>
  if (decide (v6 ≤ to)) = true then
   (i_freeId (⟨(⟨v7, v8⟩ : Network), v9⟩ : Timetable)).bind fun r6 =>
   (i_withTrip (⟨(⟨v7, v8⟩ : Network), v9⟩ : Timetable) (⟨r6, line, v6⟩ : Trip)).bind fun r7 =>
   (i_areTrips (⟨(⟨r7.Network.Stops, r7.Network.Lines⟩ : Network), r7.Trips⟩ : Timetable)).bind fun r8 =>
   if (!r8) = true then
    some (.dn (.ret (.ret ((⟨(⟨([] : List ByteArray), ([] : List Line)⟩ : Network), ([] : List Trip)⟩ : Timetable), 0, false))))
   else
    if (decide ((w64 (to - v6)) < headway)) = true then
     some (.dn (.go ((w64 (v5 + 1)), r7.Network.Stops, r7.Network.Lines, r7.Trips)))
    else
     some (.nx ((w64 (v5 + 1)), (w64 (v6 + headway)), r7.Network.Stops, r7.Network.Lines, r7.Trips))
  else
   some (.dn (.go (v5, v7, v8, v9)))
noncomputable def i_RepeatTrips (t : Timetable) (line : Int) (from_ : Int) (to : Int) (headway : Int) : Option (Timetable × Int × Bool) :=
 (i_IsValidTimetable t).bind fun r =>
 (if (!r) = true then some true else (i_isLine t.Network line).bind fun r1 =>
 if (!r1) = true then some true else if (decide (headway ≤ 0)) = true then some true else (i_IsValidTime from_).bind fun r2 =>
 some (!r2)).bind fun (v : Bool) =>
 if v = true then
  some ((⟨(⟨([] : List ByteArray), ([] : List Line)⟩ : Network), ([] : List Trip)⟩ : Timetable), 0, false)
 else
  (i_copyTimetable t).bind fun r3 =>
  flb (flb (iter (i_RepeatTrips_L1 line to headway) ((0 : Int), from_, r3.Network.Stops, r3.Network.Lines, r3.Trips)) fun ((v10, v11, v12, v13) : Int × (List ByteArray) × (List Line) × (List Trip)) =>
  some (.go (v10, v11, v12, v13))) fun ((v1, v2, v3, v4) : Int × (List ByteArray) × (List Line) × (List Trip)) =>
  some ((⟨(⟨v2, v3⟩ : Network), v4⟩ : Timetable), v1, true)
noncomputable def s_l1In (x : Int) (a : Int) (b : Int) : Option (Bool) :=
 (if (decide (a ≤ x)) = true then some (decide (x ≤ b)) else some false).bind fun (v : Bool) =>
 some v
noncomputable def s_l2Name_L1 (s : ByteArray) : Int → Option (Lp (Int) (Fl (Bool) (Unit)))
 | v1 =>
  if (decide (v1 < (s.size : Int))) = true then
   (chk ((0 : Int) ≤ v1 ∧ v1 < (s.size : Int))).bind fun u2 =>
   (if (decide (((s.data.toList.getD v1.toNat 0).toNat : Int) < 97)) = true then (chk ((0 : Int) ≤ v1 ∧ v1 < (s.size : Int))).bind fun u3 =>
   if (decide (((s.data.toList.getD v1.toNat 0).toNat : Int) < 48)) = true then some true else (chk ((0 : Int) ≤ v1 ∧ v1 < (s.size : Int))).bind fun u4 =>
   some (decide (57 < ((s.data.toList.getD v1.toNat 0).toNat : Int))) else (chk ((0 : Int) ≤ v1 ∧ v1 < (s.size : Int))).bind fun u5 =>
   if (decide (122 < ((s.data.toList.getD v1.toNat 0).toNat : Int))) = true then (chk ((0 : Int) ≤ v1 ∧ v1 < (s.size : Int))).bind fun u6 =>
   if (decide (((s.data.toList.getD v1.toNat 0).toNat : Int) < 48)) = true then some true else (chk ((0 : Int) ≤ v1 ∧ v1 < (s.size : Int))).bind fun u7 =>
   some (decide (57 < ((s.data.toList.getD v1.toNat 0).toNat : Int))) else some false).bind fun (v2 : Bool) =>
   if v2 = true then
    some (.dn (.ret false))
   else
    some (.nx (w64 (v1 + 1)))
  else
   some (.dn (.go ()))
noncomputable def s_l2Name (s : ByteArray) : Option (Bool) :=
 (s_l1In (s.size : Int) 1 8).bind fun r =>
 (if (!r) = true then some true else (chk ((0 : Int) ≤ 0 ∧ 0 < (s.size : Int))).bind fun u =>
 if (decide (((s.data.toList.getD (0 : Int).toNat 0).toNat : Int) < 97)) = true then some true else (chk ((0 : Int) ≤ 0 ∧ 0 < (s.size : Int))).bind fun u1 =>
 some (decide (122 < ((s.data.toList.getD (0 : Int).toNat 0).toNat : Int)))).bind fun (v : Bool) =>
 if v = true then
  some false
 else
  flb (iter (s_l2Name_L1 s) (0 : Int)) fun (_ : Unit) =>
  some true
noncomputable def s_l2Find_L1 (list : List ByteArray) (name : ByteArray) : Int → Option (Lp (Int) (Fl (Int) (Unit)))
 | v =>
  if (decide (v < (list.length : Int))) = true then
   (idx list v).bind fun e =>
   if (e.toList == name.toList) = true then
    some (.dn (.ret v))
   else
    some (.nx (w64 (v + 1)))
  else
   some (.dn (.go ()))
noncomputable def s_l2Find (list : List ByteArray) (name : ByteArray) : Option (Int) :=
 flb (iter (s_l2Find_L1 list name) (0 : Int)) fun (_ : Unit) =>
 some (-1)
noncomputable def s_l2Line_L1 (x : Line) (stops : Int) : Int → Option (Lp (Int) (Fl (Bool) (Unit)))
 | v1 =>
  if (decide (v1 < (x.Stops.length : Int))) = true then
   (idx x.Stops v1).bind fun e2 =>
   (s_l1In e2 0 (w64 (stops - 1))).bind fun r4 =>
   (if (!r4) = true then some true else (idx x.Stops v1).bind fun e3 =>
   (s_l2Place x e3).bind fun r5 =>
   some (r5 != v1)).bind fun (v2 : Bool) =>
   if v2 = true then
    some (.dn (.ret false))
   else
    some (.nx (w64 (v1 + 1)))
  else
   some (.dn (.go ()))
noncomputable def s_l2Line_L2 (x : Line) : Int → Option (Lp (Int) (Fl (Bool) (Unit)))
 | v3 =>
  if (decide (v3 < (x.Runs.length : Int))) = true then
   (idx x.Runs v3).bind fun e5 =>
   (s_l1In e5 1 60).bind fun r7 =>
   if (!r7) = true then
    some (.dn (.ret false))
   else
    some (.nx (w64 (v3 + 1)))
  else
   some (.dn (.go ()))
noncomputable def s_l2Line (x : Line) (stops : Int) : Option (Bool) :=
 (s_l2Name x.Name).bind fun r =>
 (if (!r) = true then some true else (s_l1In (x.Stops.length : Int) 2 6).bind fun r1 =>
 if (!r1) = true then some true else some ((x.Runs.length : Int) != (w64 ((x.Stops.length : Int) - 1)))).bind fun (v : Bool) =>
 if v = true then
  some false
 else
  flb (iter (s_l2Line_L1 x stops) (0 : Int)) fun (_ : Unit) =>
  flb (iter (s_l2Line_L2 x) (0 : Int)) fun (_ : Unit) =>
  some true
noncomputable def s_l2LineNamed_L1 (n : Network) (name : ByteArray) : Int → Option (Lp (Int) (Fl (Int) (Unit)))
 | v =>
  if (decide (v < (n.Lines.length : Int))) = true then
   (idx n.Lines v).bind fun e =>
   if (e.Name.toList == name.toList) = true then
    some (.dn (.ret v))
   else
    some (.nx (w64 (v + 1)))
  else
   some (.dn (.go ()))
noncomputable def s_l2LineNamed (n : Network) (name : ByteArray) : Option (Int) :=
 flb (iter (s_l2LineNamed_L1 n name) (0 : Int)) fun (_ : Unit) =>
 some (-1)
noncomputable def s_l2Good_L1 (n : Network) : Int → Option (Lp (Int) (Fl (Bool) (Unit)))
 | i =>
  if (decide (i < (n.Stops.length : Int))) = true then
   (idx n.Stops i).bind fun e2 =>
   (s_l2Name e2).bind fun r4 =>
   (if (!r4) = true then some true else (idx n.Stops i).bind fun e3 =>
   (s_l2Find n.Stops e3).bind fun r5 =>
   some (r5 != i)).bind fun (v1 : Bool) =>
   if v1 = true then
    some (.dn (.ret false))
   else
    some (.nx (w64 (i + 1)))
  else
   some (.dn (.go ()))
noncomputable def s_l2Good_L2 (n : Network) : Int → Option (Lp (Int) (Fl (Bool) (Unit)))
 | v2 =>
  if (decide (v2 < (n.Lines.length : Int))) = true then
   (idx n.Lines v2).bind fun e7 =>
   (s_l2Line e7 (n.Stops.length : Int)).bind fun r9 =>
   (if (!r9) = true then some true else (idx n.Lines v2).bind fun e8 =>
   (s_l2LineNamed n e8.Name).bind fun r10 =>
   some (r10 != v2)).bind fun (v3 : Bool) =>
   if v3 = true then
    some (.dn (.ret false))
   else
    some (.nx (w64 (v2 + 1)))
  else
   some (.dn (.go ()))
noncomputable def s_l2Good (n : Network) : Option (Bool) :=
 (s_l1In (n.Stops.length : Int) 2 8).bind fun r =>
 (if (!r) = true then some true else (s_l1In (n.Lines.length : Int) 1 5).bind fun r1 =>
 some (!r1)).bind fun (v : Bool) =>
 if v = true then
  some false
 else
  flb (iter (s_l2Good_L1 n) (0 : Int)) fun (_ : Unit) =>
  flb (iter (s_l2Good_L2 n) (0 : Int)) fun (_ : Unit) =>
  some true
noncomputable def s_l4Time (t : Int) : Option (Bool) :=
 (s_l1In t 0 1799).bind fun r =>
 some r
noncomputable def s_l5Line (t : Timetable) (i : Int) : Option (Line) :=
 (idx t.Trips i).bind fun e2 =>
 (idx t.Network.Lines e2.Line).bind fun e3 =>
 some e3
noncomputable def s_l5Stops (t : Timetable) (i : Int) : Option ((List Int)) :=
 (s_l5Line t i).bind fun r =>
 some r.Stops
noncomputable def s_l2Run_L1 (x : Line) (to : Int) : Int × Int → Option (Lp (Int × Int) (Int))
 | (v, v1) =>
  if (decide (v1 < to)) = true then
   (idx x.Runs v1).bind fun e =>
   some (.nx ((w64 (v + e)), (w64 (v1 + 1))))
  else
   some (.dn v)
noncomputable def s_l2Run (x : Line) (from_ : Int) (to : Int) : Option (Int) :=
 (iter (s_l2Run_L1 x to) ((0 : Int), from_)).bind fun (v2 : Int) =>
 some v2
noncomputable def s_l5At (t : Timetable) (i : Int) (k : Int) : Option (Int) :=
 (idx t.Trips i).bind fun e1 =>
 (s_l5Line t i).bind fun r2 =>
 (s_l2Run r2 0 k).bind fun r3 =>
 some (w64 (e1.Start + r3))
noncomputable def s_l5End (t : Timetable) (i : Int) : Option (Int) :=
 (s_l5Stops t i).bind fun r2 =>
 (s_l5At t i (w64 ((r2.length : Int) - 1))).bind fun r3 =>
 some r3
noncomputable def s_l5Good_L1 (t : Timetable) : Int → Option (Lp (Int) (Fl (Bool) (Unit)))
 | x =>
  if (decide (x < (t.Trips.length : Int))) = true then
   (idx t.Trips x).bind fun e =>
   (s_l1In e.Id 1 999).bind fun r6 =>
   (if (!r6) = true then some true else (s_l1In e.Line 0 (w64 ((t.Network.Lines.length : Int) - 1))).bind fun r7 =>
   if (!r7) = true then some true else (s_l4Time e.Start).bind fun r8 =>
   if (!r8) = true then some true else (s_l5End t x).bind fun r9 =>
   (s_l4Time r9).bind fun r10 =>
   if (!r10) = true then some true else if (decide (0 < x)) = true then (idx t.Trips (w64 (x - 1))).bind fun e2 =>
   some (decide (e.Id ≤ e2.Id)) else some false).bind fun (v1 : Bool) =>
   if v1 = true then
    some (.dn (.ret false))
   else
    some (.nx (w64 (x + 1)))
  else
   some (.dn (.go ()))
noncomputable def s_l5Good (t : Timetable) : Option (Bool) :=
 (s_l2Good t.Network).bind fun r =>
 (if (!r) = true then some true else some (decide (12 < (t.Trips.length : Int)))).bind fun (v : Bool) =>
 if v = true then
  some false
 else
  flb (iter (s_l5Good_L1 t) (0 : Int)) fun (_ : Unit) =>
  some true
noncomputable def s_l5Own (t : Timetable) : Option (Timetable) :=
 (s_l2Own t.Network).bind fun r1 =>
 (chk (([] : List Trip).length + t.Trips.length ≤ 4294967296)).bind fun u1 =>
 some (⟨(⟨r1.Stops, r1.Lines⟩ : Network), (([] : List Trip) ++ t.Trips)⟩ : Timetable)
noncomputable def s_l5Id_L1 (t : Timetable) : Int × Int → Option (Lp (Int × Int) (Int))
 | (i, v) =>
  (if (decide (v < (t.Trips.length : Int))) = true then (idx t.Trips v).bind fun e =>
  some (e.Id == i) else some false).bind fun (v1 : Bool) =>
  if v1 = true then
   some (.nx ((w64 (i + 1)), (w64 (v + 1))))
  else
   some (.dn i)
noncomputable def s_l5Id (t : Timetable) : Option (Int) :=
 (iter (s_l5Id_L1 t) ((1 : Int), (0 : Int))).bind fun (i1 : Int) =>
 some i1
noncomputable def s_l5Put_L1 (t : Timetable) (x : Trip) : Int → Option (Lp (Int) (Int))
 | v =>
  (if (decide (v < (t.Trips.length : Int))) = true then (idx t.Trips v).bind fun e1 =>
  some (decide (e1.Id < x.Id)) else some false).bind fun (v1 : Bool) =>
  if v1 = true then
   some (.nx (w64 (v + 1)))
  else
   some (.dn v)
noncomputable def s_l5Put (t : Timetable) (x : Trip) : Option (Timetable) :=
 (iter (s_l5Put_L1 t x) (0 : Int)).bind fun (v2 : Int) =>
 (s_l5Own t).bind fun r =>
 (chk ((0 : Int) ≤ 0 ∧ 0 ≤ v2 ∧ v2 ≤ (t.Trips.length : Int))).bind fun u5 =>
 (chk (([] : List Trip).length + ((t.Trips.take v2.toNat).drop (0 : Int).toNat).length ≤ 4294967296)).bind fun u6 =>
 (chk ((([] : List Trip) ++ ((t.Trips.take v2.toNat).drop (0 : Int).toNat)).length + ([x] : List Trip).length ≤ 4294967296)).bind fun u7 =>
 (chk ((0 : Int) ≤ v2 ∧ v2 ≤ (t.Trips.length : Int))).bind fun u8 =>
 (chk (((([] : List Trip) ++ ((t.Trips.take v2.toNat).drop (0 : Int).toNat)) ++ ([x] : List Trip)).length + (t.Trips.drop v2.toNat).length ≤ 4294967296)).bind fun u9 =>
 some (⟨(⟨r.Network.Stops, r.Network.Lines⟩ : Network), (((([] : List Trip) ++ ((t.Trips.take v2.toNat).drop (0 : Int).toNat)) ++ ([x] : List Trip)) ++ (t.Trips.drop v2.toNat))⟩ : Timetable)
noncomputable def s_RepeatTrips_L1 (line : Int) (from_ : Int) (to : Int) (headway : Int) : Int × Int × (List ByteArray) × (List Line) × (List Trip) → Option (Lp (Int × Int × (List ByteArray) × (List Line) × (List Trip)) (Fl (Fl (Timetable × Int × Bool) (Int × (List ByteArray) × (List Line) × (List Trip))) (Int × (List ByteArray) × (List Line) × (List Trip))))
 | (v5, v6, v7, v8, v9) =>
  if (decide (from_ ≤ to)) = true then
   (s_l5Id (⟨(⟨v7, v8⟩ : Network), v9⟩ : Timetable)).bind fun r6 =>
   (s_l5Put (⟨(⟨v7, v8⟩ : Network), v9⟩ : Timetable) (⟨r6, line, v6⟩ : Trip)).bind fun r7 =>
   (s_l5Good (⟨(⟨r7.Network.Stops, r7.Network.Lines⟩ : Network), r7.Trips⟩ : Timetable)).bind fun r8 =>
   if (!r8) = true then
    some (.dn (.ret (.ret ((⟨(⟨([] : List ByteArray), ([] : List Line)⟩ : Network), ([] : List Trip)⟩ : Timetable), 0, false))))
   else
    if (decide ((w64 (to - v6)) < headway)) = true then
     some (.dn (.go ((w64 (v5 + 1)), r7.Network.Stops, r7.Network.Lines, r7.Trips)))
    else
     some (.nx ((w64 (v5 + 1)), (w64 (v6 + headway)), r7.Network.Stops, r7.Network.Lines, r7.Trips))
  else
   some (.dn (.go (v5, v7, v8, v9)))
noncomputable def s_RepeatTrips (t : Timetable) (line : Int) (from_ : Int) (to : Int) (headway : Int) : Option (Timetable × Int × Bool) :=
 (s_l5Good t).bind fun r =>
 (if (!r) = true then some true else (s_l1In line 0 (w64 ((t.Network.Lines.length : Int) - 1))).bind fun r1 =>
 if (!r1) = true then some true else (s_l4Time from_).bind fun r2 =>
 if (!r2) = true then some true else some (decide (headway < 1))).bind fun (v : Bool) =>
 if v = true then
  some ((⟨(⟨([] : List ByteArray), ([] : List Line)⟩ : Network), ([] : List Trip)⟩ : Timetable), 0, false)
 else
  (s_l5Own t).bind fun r3 =>
  flb (flb (iter (s_RepeatTrips_L1 line from_ to headway) ((0 : Int), from_, r3.Network.Stops, r3.Network.Lines, r3.Trips)) fun ((v10, v11, v12, v13) : Int × (List ByteArray) × (List Line) × (List Trip)) =>
  some (.go (v10, v11, v12, v13))) fun ((v1, v2, v3, v4) : Int × (List ByteArray) × (List Line) × (List Trip)) =>
  some ((⟨(⟨v2, v3⟩ : Network), v4⟩ : Timetable), v1, true)
noncomputable def v_vTexts_L1 (a : List ByteArray) (b : List ByteArray) : Int → Option (Lp (Int) (Fl (Bool) (Unit)))
 | v =>
  if (decide (v < (a.length : Int))) = true then
   (idx a v).bind fun e2 =>
   (idx b v).bind fun e3 =>
   if (!(e2.toList == e3.toList)) = true then
    some (.dn (.ret false))
   else
    some (.nx (w64 (v + 1)))
  else
   some (.dn (.go ()))
noncomputable def v_vTexts (a : List ByteArray) (b : List ByteArray) : Option (Bool) :=
 if ((a.length : Int) != (b.length : Int)) = true then
  some false
 else
  flb (iter (v_vTexts_L1 a b) (0 : Int)) fun (_ : Unit) =>
  some true
noncomputable def v_vInts_L1 (a : List Int) (b : List Int) : Int → Option (Lp (Int) (Fl (Bool) (Unit)))
 | v =>
  if (decide (v < (a.length : Int))) = true then
   (idx a v).bind fun e2 =>
   (idx b v).bind fun e3 =>
   if (e2 != e3) = true then
    some (.dn (.ret false))
   else
    some (.nx (w64 (v + 1)))
  else
   some (.dn (.go ()))
noncomputable def v_vInts (a : List Int) (b : List Int) : Option (Bool) :=
 if ((a.length : Int) != (b.length : Int)) = true then
  some false
 else
  flb (iter (v_vInts_L1 a b) (0 : Int)) fun (_ : Unit) =>
  some true
noncomputable def v_vNetwork_L1 (a : Network) (b : Network) : Int → Option (Lp (Int) (Fl (Bool) (Unit)))
 | v1 =>
  if (decide (v1 < (a.Lines.length : Int))) = true then
   (idx a.Lines v1).bind fun e6 =>
   (idx b.Lines v1).bind fun e7 =>
   (if (!(e6.Name.toList == e7.Name.toList)) = true then some true else (idx a.Lines v1).bind fun e8 =>
   (idx b.Lines v1).bind fun e9 =>
   (v_vInts e8.Stops e9.Stops).bind fun r3 =>
   if (!r3) = true then some true else (idx a.Lines v1).bind fun e10 =>
   (idx b.Lines v1).bind fun e11 =>
   (v_vInts e10.Runs e11.Runs).bind fun r4 =>
   some (!r4)).bind fun (v2 : Bool) =>
   if v2 = true then
    some (.dn (.ret false))
   else
    some (.nx (w64 (v1 + 1)))
  else
   some (.dn (.go ()))
noncomputable def v_vNetwork (a : Network) (b : Network) : Option (Bool) :=
 (v_vTexts a.Stops b.Stops).bind fun r =>
 (if (!r) = true then some true else some ((a.Lines.length : Int) != (b.Lines.length : Int))).bind fun (v : Bool) =>
 if v = true then
  some false
 else
  flb (iter (v_vNetwork_L1 a b) (0 : Int)) fun (_ : Unit) =>
  some true
noncomputable def v_vTimetable_L1 (a : Timetable) (b : Timetable) : Int → Option (Lp (Int) (Fl (Bool) (Unit)))
 | v1 =>
  if (decide (v1 < (a.Trips.length : Int))) = true then
   (idx a.Trips v1).bind fun e2 =>
   (idx b.Trips v1).bind fun e3 =>
   if (!((e2.Id == e3.Id) && ((e2.Line == e3.Line) && ((e2.Start == e3.Start) && true)))) = true then
    some (.dn (.ret false))
   else
    some (.nx (w64 (v1 + 1)))
  else
   some (.dn (.go ()))
noncomputable def v_vTimetable (a : Timetable) (b : Timetable) : Option (Bool) :=
 (v_vNetwork a.Network b.Network).bind fun r =>
 (if (!r) = true then some true else some ((a.Trips.length : Int) != (b.Trips.length : Int))).bind fun (v : Bool) =>
 if v = true then
  some false
 else
  flb (iter (v_vTimetable_L1 a b) (0 : Int)) fun (_ : Unit) =>
  some true
noncomputable def cmp_isNaN_int (x : Int) : Option (Bool) :=
 some (x != x)
noncomputable def cmp_Compare_int (x : Int) (y_ : Int) : Option (Int) :=
 (cmp_isNaN_int x).bind fun r =>
 (cmp_isNaN_int y_).bind fun r1 =>
 if r = true then
  if r1 = true then
   some 0
  else
   some (-1)
 else
  if r1 = true then
   some 1
  else
   if (decide (x < y_)) = true then
    some (-1)
   else
    if (decide (y_ < x)) = true then
     some 1
    else
     some 0
noncomputable def i_tripsOf_1 (a : Trip) (b : Trip) : Option (Int) :=
 (cmp_Compare_int a.Start b.Start).bind fun r =>
 some r
noncomputable def slices_insertionSortCmpFunc_Trip_w_L1 (a : Int) (cmp : Trip → Trip → Option (Int)) : Int × (List Trip) → Option (Lp (Int × (List Trip)) ((List Trip)))
 | (v1, data2) =>
  (if (decide (a < v1)) = true then (idx data2 v1).bind fun e2 =>
  (idx data2 (w64 (v1 - 1))).bind fun e3 =>
  (cmp e2 e3).bind fun r1 =>
  some (decide (r1 < 0)) else some false).bind fun (v2 : Bool) =>
  if v2 = true then
   (idx data2 (w64 (v1 - 1))).bind fun e8 =>
   (idx data2 v1).bind fun e9 =>
   (idx data2 v1).bind fun e10 =>
   (idx (data2.set v1.toNat e8) (w64 (v1 - 1))).bind fun e11 =>
   some (.nx ((w64 (v1 - 1)), ((data2.set v1.toNat e8).set (w64 (v1 - 1)).toNat e9)))
  else
   some (.dn data2)
noncomputable def slices_insertionSortCmpFunc_Trip_w_L2 (a : Int) (b : Int) (cmp : Trip → Trip → Option (Int)) : Int × (List Trip) → Option (Lp (Int × (List Trip)) ((List Trip)))
 | (v, data1) =>
  if (decide (v < b)) = true then
   (iter (slices_insertionSortCmpFunc_Trip_w_L1 a cmp) (v, data1)).bind fun (data3 : List Trip) =>
   some (.nx ((w64 (v + 1)), data3))
  else
   some (.dn data1)
noncomputable def slices_insertionSortCmpFunc_Trip_w (data : List Trip) (a : Int) (b : Int) (cmp : Trip → Trip → Option (Int)) : Option ((List Trip)) :=
 iter (slices_insertionSortCmpFunc_Trip_w_L2 a b cmp) ((w64 (a + 1)), data)
noncomputable def slices_insertionSortCmpFunc_Trip_w__i_tripsOf_1 (data : List Trip) (a : Int) (b : Int) : Option ((List Trip)) :=
 slices_insertionSortCmpFunc_Trip_w data a b (fun (z0 : Trip) (z1 : Trip) => i_tripsOf_1 z0 z1)
noncomputable def slices_swapRangeCmpFunc_Trip_w_L1 (a : Int) (b : Int) (n : Int) : Int × (List Trip) → Option (Lp (Int × (List Trip)) ((List Trip)))
 | (v, data1) =>
  if (decide (v < n)) = true then
   (idx data1 (w64 (b + v))).bind fun e4 =>
   (idx data1 (w64 (a + v))).bind fun e5 =>
   (idx data1 (w64 (a + v))).bind fun e6 =>
   (idx (data1.set (w64 (a + v)).toNat e4) (w64 (b + v))).bind fun e7 =>
   some (.nx ((w64 (v + 1)), ((data1.set (w64 (a + v)).toNat e4).set (w64 (b + v)).toNat e5)))
  else
   some (.dn data1)
noncomputable def slices_swapRangeCmpFunc_Trip_w (data : List Trip) (a : Int) (b : Int) (n : Int) (cmp : Trip → Trip → Option (Int)) : Option ((List Trip)) :=
 iter (slices_swapRangeCmpFunc_Trip_w_L1 a b n) ((0 : Int), data)
noncomputable def slices_swapRangeCmpFunc_Trip_w__i_tripsOf_1 (data : List Trip) (a : Int) (b : Int) (n : Int) : Option ((List Trip)) :=
 slices_swapRangeCmpFunc_Trip_w data a b n (fun (z0 : Trip) (z1 : Trip) => i_tripsOf_1 z0 z1)
noncomputable def slices_rotateCmpFunc_Trip_w_L1 (m : Int) (cmp : Trip → Trip → Option (Int)) : Int × Int × (List Trip) → Option (Lp (Int × Int × (List Trip)) (Int × (List Trip)))
 | (v, v1, data1) =>
  if (v != v1) = true then
   if (decide (v1 < v)) = true then
    (slices_swapRangeCmpFunc_Trip_w data1 (w64 (m - v)) m v1 cmp).bind fun r =>
    some (.nx ((w64 (v - v1)), v1, r))
   else
    (slices_swapRangeCmpFunc_Trip_w data1 (w64 (m - v)) (w64 ((w64 (m + v1)) - v)) v cmp).bind fun r1 =>
    some (.nx (v, (w64 (v1 - v)), r1))
  else
   some (.dn (v, data1))
noncomputable def slices_rotateCmpFunc_Trip_w (data : List Trip) (a : Int) (m : Int) (b : Int) (cmp : Trip → Trip → Option (Int)) : Option ((List Trip)) :=
 (iter (slices_rotateCmpFunc_Trip_w_L1 m cmp) ((w64 (m - a)), (w64 (b - m)), data)).bind fun ((v2, data2) : Int × (List Trip)) =>
 (slices_swapRangeCmpFunc_Trip_w data2 (w64 (m - v2)) m v2 cmp).bind fun r2 =>
 some r2
noncomputable def slices_rotateCmpFunc_Trip_w__i_tripsOf_1 (data : List Trip) (a : Int) (m : Int) (b : Int) : Option ((List Trip)) :=
 slices_rotateCmpFunc_Trip_w data a m b (fun (z0 : Trip) (z1 : Trip) => i_tripsOf_1 z0 z1)
noncomputable def slices_symMergeCmpFunc_Trip_w__i_tripsOf_1_L1 (data : List Trip) (a : Int) : Int × Int → Option (Lp (Int × Int) (Int))
 | (j, h) =>
  if (decide (j < h)) = true then
   (chk ((0 : Int) ≤ 1)).bind fun u =>
   (idx data (w64 (((IntKind.u64.wrap ((w64 (j + h)))).fdiv (2 ^ (min (1 : Int).toNat (IntKind.u64).bits)))))).bind fun e2 =>
   (idx data a).bind fun e3 =>
   (i_tripsOf_1 e2 e3).bind fun r1 =>
   if (decide (r1 < 0)) = true then
    some (.nx ((w64 ((w64 (((IntKind.u64.wrap ((w64 (j + h)))).fdiv (2 ^ (min (1 : Int).toNat (IntKind.u64).bits))))) + 1)), h))
   else
    some (.nx (j, (w64 (((IntKind.u64.wrap ((w64 (j + h)))).fdiv (2 ^ (min (1 : Int).toNat (IntKind.u64).bits)))))))
  else
   some (.dn j)
noncomputable def slices_symMergeCmpFunc_Trip_w__i_tripsOf_1_L2 (j1 : Int) : Int × (List Trip) → Option (Lp (Int × (List Trip)) ((List Trip)))
 | (mid, data1) =>
  if (decide (mid < (w64 (j1 - 1)))) = true then
   (idx data1 (w64 (mid + 1))).bind fun e8 =>
   (idx data1 mid).bind fun e9 =>
   (idx data1 mid).bind fun e10 =>
   (idx (data1.set mid.toNat e8) (w64 (mid + 1))).bind fun e11 =>
   some (.nx ((w64 (mid + 1)), ((data1.set mid.toNat e8).set (w64 (mid + 1)).toNat e9)))
  else
   some (.dn data1)
noncomputable def slices_symMergeCmpFunc_Trip_w__i_tripsOf_1_L3 (data : List Trip) (m : Int) : Int × Int → Option (Lp (Int × Int) (Int))
 | (n, start) =>
  if (decide (n < start)) = true then
   (chk ((0 : Int) ≤ 1)).bind fun u1 =>
   (idx data m).bind fun e14 =>
   (idx data (w64 (((IntKind.u64.wrap ((w64 (n + start)))).fdiv (2 ^ (min (1 : Int).toNat (IntKind.u64).bits)))))).bind fun e15 =>
   (i_tripsOf_1 e14 e15).bind fun r3 =>
   if (!(decide (r3 < 0))) = true then
    some (.nx ((w64 ((w64 (((IntKind.u64.wrap ((w64 (n + start)))).fdiv (2 ^ (min (1 : Int).toNat (IntKind.u64).bits))))) + 1)), start))
   else
    some (.nx (n, (w64 (((IntKind.u64.wrap ((w64 (n + start)))).fdiv (2 ^ (min (1 : Int).toNat (IntKind.u64).bits)))))))
  else
   some (.dn n)
noncomputable def slices_symMergeCmpFunc_Trip_w__i_tripsOf_1_L4 (n1 : Int) : Int × (List Trip) → Option (Lp (Int × (List Trip)) ((List Trip)))
 | (p, data3) =>
  if (decide (n1 < p)) = true then
   (idx data3 (w64 (p - 1))).bind fun e20 =>
   (idx data3 p).bind fun e21 =>
   (idx data3 p).bind fun e22 =>
   (idx (data3.set p.toNat e20) (w64 (p - 1))).bind fun e23 =>
   some (.nx ((w64 (p - 1)), ((data3.set p.toNat e20).set (w64 (p - 1)).toNat e21)))
  else
   some (.dn data3)
noncomputable def slices_symMergeCmpFunc_Trip_w__i_tripsOf_1_L5 (data : List Trip) (a : Int) (m : Int) (b : Int) : Int × Int → Option (Lp (Int × Int) (Int))
 | (v2, v3) =>
  if (decide (v2 < v3)) = true then
   (chk ((0 : Int) ≤ 1)).bind fun u3 =>
   (idx data (w64 ((w64 ((w64 ((w64 (((IntKind.u64.wrap ((w64 (a + b)))).fdiv (2 ^ (min (1 : Int).toNat (IntKind.u64).bits))))) + m)) - 1)) - (w64 (((IntKind.u64.wrap ((w64 (v2 + v3)))).fdiv (2 ^ (min (1 : Int).toNat (IntKind.u64).bits)))))))).bind fun e26 =>
   (idx data (w64 (((IntKind.u64.wrap ((w64 (v2 + v3)))).fdiv (2 ^ (min (1 : Int).toNat (IntKind.u64).bits)))))).bind fun e27 =>
   (i_tripsOf_1 e26 e27).bind fun r5 =>
   if (!(decide (r5 < 0))) = true then
    some (.nx ((w64 ((w64 (((IntKind.u64.wrap ((w64 (v2 + v3)))).fdiv (2 ^ (min (1 : Int).toNat (IntKind.u64).bits))))) + 1)), v3))
   else
    some (.nx (v2, (w64 (((IntKind.u64.wrap ((w64 (v2 + v3)))).fdiv (2 ^ (min (1 : Int).toNat (IntKind.u64).bits)))))))
  else
   some (.dn v2)
noncomputable def slices_symMergeCmpFunc_Trip_w__i_tripsOf_1_F (rec_ : (List Trip) → Int → Int → Int → Option ((List Trip))) (data : List Trip) (a : Int) (m : Int) (b : Int) : Option ((List Trip)) :=
 if ((w64 (m - a)) == 1) = true then
  (iter (slices_symMergeCmpFunc_Trip_w__i_tripsOf_1_L1 data a) (m, b)).bind fun (j1 : Int) =>
  (iter (slices_symMergeCmpFunc_Trip_w__i_tripsOf_1_L2 j1) (a, data)).bind fun (data2 : List Trip) =>
  some data2
 else
  if ((w64 (b - m)) == 1) = true then
   (iter (slices_symMergeCmpFunc_Trip_w__i_tripsOf_1_L3 data m) (a, m)).bind fun (n1 : Int) =>
   (iter (slices_symMergeCmpFunc_Trip_w__i_tripsOf_1_L4 n1) (m, data)).bind fun (data4 : List Trip) =>
   some data4
  else
   (chk ((0 : Int) ≤ 1)).bind fun u2 =>
   (if (decide ((w64 (((IntKind.u64.wrap ((w64 (a + b)))).fdiv (2 ^ (min (1 : Int).toNat (IntKind.u64).bits))))) < m)) = true then
    some ((w64 ((w64 ((w64 (((IntKind.u64.wrap ((w64 (a + b)))).fdiv (2 ^ (min (1 : Int).toNat (IntKind.u64).bits))))) + m)) - b)), (w64 (((IntKind.u64.wrap ((w64 (a + b)))).fdiv (2 ^ (min (1 : Int).toNat (IntKind.u64).bits))))))
   else
    some (a, m)).bind fun ((v, v1) : Int × Int) =>
   (iter (slices_symMergeCmpFunc_Trip_w__i_tripsOf_1_L5 data a m b) (v, v1)).bind fun (v4 : Int) =>
   ((if (decide (v4 < m)) = true then some (decide (m < (w64 ((w64 ((w64 (((IntKind.u64.wrap ((w64 (a + b)))).fdiv (2 ^ (min (1 : Int).toNat (IntKind.u64).bits))))) + m)) - v4)))) else some false).bind fun (v5 : Bool) =>
   if v5 = true then
    (slices_rotateCmpFunc_Trip_w__i_tripsOf_1 data v4 m (w64 ((w64 ((w64 (((IntKind.u64.wrap ((w64 (a + b)))).fdiv (2 ^ (min (1 : Int).toNat (IntKind.u64).bits))))) + m)) - v4))).bind fun r6 =>
    some r6
   else
    some data).bind fun (data5 : List Trip) =>
   ((if (decide (a < v4)) = true then some (decide (v4 < (w64 (((IntKind.u64.wrap ((w64 (a + b)))).fdiv (2 ^ (min (1 : Int).toNat (IntKind.u64).bits))))))) else some false).bind fun (v6 : Bool) =>
   if v6 = true then
    (rec_ data5 a v4 (w64 (((IntKind.u64.wrap ((w64 (a + b)))).fdiv (2 ^ (min (1 : Int).toNat (IntKind.u64).bits)))))).bind fun r7 =>
    some r7
   else
    some data5).bind fun (data6 : List Trip) =>
   (if (decide ((w64 (((IntKind.u64.wrap ((w64 (a + b)))).fdiv (2 ^ (min (1 : Int).toNat (IntKind.u64).bits))))) < (w64 ((w64 ((w64 (((IntKind.u64.wrap ((w64 (a + b)))).fdiv (2 ^ (min (1 : Int).toNat (IntKind.u64).bits))))) + m)) - v4)))) = true then some (decide ((w64 ((w64 ((w64 (((IntKind.u64.wrap ((w64 (a + b)))).fdiv (2 ^ (min (1 : Int).toNat (IntKind.u64).bits))))) + m)) - v4)) < b)) else some false).bind fun (v7 : Bool) =>
   if v7 = true then
    (rec_ data6 (w64 (((IntKind.u64.wrap ((w64 (a + b)))).fdiv (2 ^ (min (1 : Int).toNat (IntKind.u64).bits))))) (w64 ((w64 ((w64 (((IntKind.u64.wrap ((w64 (a + b)))).fdiv (2 ^ (min (1 : Int).toNat (IntKind.u64).bits))))) + m)) - v4)) b).bind fun r8 =>
    some r8
   else
    some data6
noncomputable def slices_symMergeCmpFunc_Trip_w__i_tripsOf_1_k : Nat → (List Trip) → Int → Int → Int → Option ((List Trip))
 | 0 => fun _ _ _ _ => none
 | n + 1 => slices_symMergeCmpFunc_Trip_w__i_tripsOf_1_F (slices_symMergeCmpFunc_Trip_w__i_tripsOf_1_k n)
noncomputable def slices_symMergeCmpFunc_Trip_w__i_tripsOf_1 (data : List Trip) (a : Int) (m : Int) (b : Int) : Option ((List Trip)) := slices_symMergeCmpFunc_Trip_w__i_tripsOf_1_k 4294967296 data a m b
noncomputable def slices_stableCmpFunc_Trip_w__i_tripsOf_1_L1 (n : Int) : Int × Int × (List Trip) → Option (Lp (Int × Int × (List Trip)) (Int × (List Trip)))
 | (v, v1, data1) =>
  if (decide (v1 ≤ n)) = true then
   (slices_insertionSortCmpFunc_Trip_w__i_tripsOf_1 data1 v v1).bind fun r =>
   some (.nx (v1, (w64 (v1 + 20)), r))
  else
   some (.dn (v, data1))
noncomputable def slices_stableCmpFunc_Trip_w__i_tripsOf_1_L2 (n : Int) (m : Int) : Int × Int × (List Trip) → Option (Lp (Int × Int × (List Trip)) (Int × (List Trip)))
 | (v3, v4, data4) =>
  if (decide (v4 ≤ n)) = true then
   (slices_symMergeCmpFunc_Trip_w__i_tripsOf_1 data4 v3 (w64 (v3 + m)) v4).bind fun r2 =>
   some (.nx (v4, (w64 (v4 + (w64 (2 * m)))), r2))
  else
   some (.dn (v3, data4))
noncomputable def slices_stableCmpFunc_Trip_w__i_tripsOf_1_L3 (n : Int) : Int × (List Trip) → Option (Lp (Int × (List Trip)) ((List Trip)))
 | (m, data3) =>
  if (decide (m < n)) = true then
   (iter (slices_stableCmpFunc_Trip_w__i_tripsOf_1_L2 n m) ((0 : Int), (w64 (2 * m)), data3)).bind fun ((v5, data5) : Int × (List Trip)) =>
   (if (decide ((w64 (v5 + m)) < n)) = true then
    (slices_symMergeCmpFunc_Trip_w__i_tripsOf_1 data5 v5 (w64 (v5 + m)) n).bind fun r3 =>
    some r3
   else
    some data5).bind fun (data6 : List Trip) =>
   some (.nx ((w64 (m * 2)), data6))
  else
   some (.dn data3)
noncomputable def slices_stableCmpFunc_Trip_w__i_tripsOf_1 (data : List Trip) (n : Int) : Option ((List Trip)) :=
 (iter (slices_stableCmpFunc_Trip_w__i_tripsOf_1_L1 n) ((0 : Int), (20 : Int), data)).bind fun ((v2, data2) : Int × (List Trip)) =>
 (slices_insertionSortCmpFunc_Trip_w__i_tripsOf_1 data2 v2 n).bind fun r1 =>
 iter (slices_stableCmpFunc_Trip_w__i_tripsOf_1_L3 n) ((20 : Int), r1)
noncomputable def slices_SortStableFunc_Trip_w__i_tripsOf_1 (x : List Trip) : Option ((List Trip)) :=
 (slices_stableCmpFunc_Trip_w__i_tripsOf_1 x (x.length : Int)).bind fun r =>
 some r
noncomputable def i_tripsOf_L1 (t : Timetable) (line : Int) : Int × (List Trip) → Option (Lp (Int × (List Trip)) ((List Trip)))
 | (v, x) =>
  if (decide (v < (t.Trips.length : Int))) = true then
   ((idx t.Trips v).bind fun e =>
   if (e.Line == line) = true then
    (chk (x.length + ([e] : List Trip).length ≤ 4294967296)).bind fun u =>
    some (x ++ ([e] : List Trip))
   else
    some x).bind fun (x1 : List Trip) =>
   some (.nx ((w64 (v + 1)), x1))
  else
   some (.dn x)
noncomputable def i_tripsOf (t : Timetable) (line : Int) : Option ((List Trip)) :=
 (iter (i_tripsOf_L1 t line) ((0 : Int), ([] : List Trip))).bind fun (x2 : List Trip) =>
 (slices_SortStableFunc_Trip_w__i_tripsOf_1 x2).bind fun r =>
 some r
noncomputable def i_HeadwaysOf_L1 (r2 : (List Trip)) : Int × (List Int) → Option (Lp (Int × (List Int)) ((List Int)))
 | (v1, i) =>
  if (decide (v1 < (r2.length : Int))) = true then
   (idx r2 v1).bind fun e2 =>
   (idx r2 (w64 (v1 - 1))).bind fun e3 =>
   (chk (i.length + ([(w64 (e2.Start - e3.Start))] : List Int).length ≤ 4294967296)).bind fun u1 =>
   some (.nx ((w64 (v1 + 1)), (i ++ ([(w64 (e2.Start - e3.Start))] : List Int))))
  else
   some (.dn i)
noncomputable def i_HeadwaysOf (t : Timetable) (line : Int) : Option ((List Int) × Bool) :=
 (i_IsValidTimetable t).bind fun r =>
 (if (!r) = true then some true else (i_isLine t.Network line).bind fun r1 =>
 some (!r1)).bind fun (v : Bool) =>
 if v = true then
  some (([] : List Int), false)
 else
  (i_tripsOf t line).bind fun r2 =>
  (iter (i_HeadwaysOf_L1 r2) ((1 : Int), ([] : List Int))).bind fun (i1 : List Int) =>
  some (i1, true)
noncomputable def v_FnRepeat_L1 (r5 : (List Int) × Bool) : Int × Int → Option (Lp (Int × Int) (Int))
 | (i, v1) =>
  if (decide (v1 < (r5.1.length : Int))) = true then
   (idx r5.1 v1).bind fun e =>
   some (.nx ((w64 (i + e)), (w64 (v1 + 1))))
  else
   some (.dn i)
noncomputable def v_FnRepeat (code : List UInt8) : Option (Bool) :=
 (v_vBig code).bind fun r =>
 if r = true then
  some true
 else
  (s_DrawRepeatTrips code).bind fun r1 =>
  (i_RepeatTrips r1.1 r1.2.1 r1.2.2.1 r1.2.2.2.1 r1.2.2.2.2).bind fun r2 =>
  (s_RepeatTrips r1.1 r1.2.1 r1.2.2.1 r1.2.2.2.1 r1.2.2.2.2).bind fun r3 =>
  (if (!(r2.2.2 == r3.2.2)) = true then some true else if (r2.2.1 != r3.2.1) = true then some true else (v_vTimetable r2.1 r3.1).bind fun r4 =>
  some (!r4)).bind fun (v : Bool) =>
  if v = true then
   some false
  else
   if (!r2.2.2) = true then
    some (r2.2.1 == 0)
   else
    (i_HeadwaysOf r2.1 r1.2.1).bind fun r5 =>
    (iter (v_FnRepeat_L1 r5) ((0 : Int), (0 : Int))).bind fun (i1 : Int) =>
    (if r5.2 = true then if ((r2.1.Trips.length : Int) == (w64 ((r1.1.Trips.length : Int) + r2.2.1))) = true then if (decide (r2.2.1 < 2)) = true then some true else some (decide ((w64 ((w64 (r2.2.1 - 1)) * r1.2.2.2.2)) ≤ i1)) else some false else some false).bind fun (t : Bool) =>
    some t
end Go.Proofs.Ytfknbpimkleimaa
