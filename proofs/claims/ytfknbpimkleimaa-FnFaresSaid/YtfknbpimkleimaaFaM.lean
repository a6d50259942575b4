/- Models of the functions that the law reaches: plain Lean; none where the function would panic or not end. Made by program (dec.py). -/
import Derived.Test.YtfknbpimkleimaaAbC0
namespace Go.Proofs.Ytfknbpimkleimaa
open Go Go.Ab
set_option maxRecDepth 100000
set_option maxHeartbeats 4000000
set_option linter.unusedVariables false
set_option linter.unusedSimpArgs false
structure l1Cur where
 code_ : List UInt8
 at_ : Int
 seed_ : IK .u64
instance enc_l1Cur : Enc l1Cur := ⟨3, fun x => .agg [Enc.e x.code_, .sc (.int .i64 x.at_), .sc (.int .u64 x.seed_.v)], fun a b h => by
 simp only [D.agg.injEq, List.cons.injEq, and_true] at h
 obtain ⟨a1, a2, a3⟩ := a
 obtain ⟨b1, b2, b3⟩ := b
 obtain ⟨h1, h2, h3⟩ := h
 have q1 := Enc.inj (α := List UInt8) a1 b1 h1
 have q2 := Enc.inj (α := Int) a2 b2 h2
 have q3 := Enc.inj (α := IK .u64) a3 b3 h3
 subst q1; subst q2; subst q3; rfl⟩
structure Line where
 Name : ByteArray
 Stops : List Int
 Runs : List Int
instance enc_Line : Enc Line := ⟨3, fun x => .agg [.sc (.string x.Name), Enc.e x.Stops, Enc.e x.Runs], fun a b h => by
 simp only [D.agg.injEq, List.cons.injEq, and_true] at h
 obtain ⟨a1, a2, a3⟩ := a
 obtain ⟨b1, b2, b3⟩ := b
 obtain ⟨h1, h2, h3⟩ := h
 have q1 := Enc.inj (α := ByteArray) a1 b1 h1
 have q2 := Enc.inj (α := List Int) a2 b2 h2
 have q3 := Enc.inj (α := List Int) a3 b3 h3
 subst q1; subst q2; subst q3; rfl⟩
structure Network where
 Stops : List ByteArray
 Lines : List Line
instance enc_Network : Enc Network := ⟨2, fun x => .agg [Enc.e x.Stops, Enc.e x.Lines], fun a b h => by
 simp only [D.agg.injEq, List.cons.injEq, and_true] at h
 obtain ⟨a1, a2⟩ := a
 obtain ⟨b1, b2⟩ := b
 obtain ⟨h1, h2⟩ := h
 have q1 := Enc.inj (α := List ByteArray) a1 b1 h1
 have q2 := Enc.inj (α := List Line) a2 b2 h2
 subst q1; subst q2; rfl⟩
structure Prices where
 Zones : List Int
 Day : Int
 Week : Int
instance enc_Prices : Enc Prices := ⟨3, fun x => .agg [Enc.e x.Zones, .sc (.int .i64 x.Day), .sc (.int .i64 x.Week)], fun a b h => by
 simp only [D.agg.injEq, List.cons.injEq, and_true] at h
 obtain ⟨a1, a2, a3⟩ := a
 obtain ⟨b1, b2, b3⟩ := b
 obtain ⟨h1, h2, h3⟩ := h
 have q1 := Enc.inj (α := List Int) a1 b1 h1
 have q2 := Enc.inj (α := Int) a2 b2 h2
 have q3 := Enc.inj (α := Int) a3 b3 h3
 subst q1; subst q2; subst q3; rfl⟩
instance : BxE l1Cur := ⟨fun x y h => Enc.inj x y (congrArg D.agg h)⟩
instance : BxE Line := ⟨fun x y h => Enc.inj x y (congrArg D.agg h)⟩
instance : BxE Network := ⟨fun x y h => Enc.inj x y (congrArg D.agg h)⟩
instance : BxE Prices := ⟨fun x y h => Enc.inj x y (congrArg D.agg h)⟩
noncomputable def v_rBig (code : List UInt8) : Option (Bool) :=
 some (decide (65536 < (code.length : Int)))
noncomputable def s_l1Cur_next (c : l1Cur) : Option (Int × l1Cur) :=
 (if (decide (c.at_ < (c.code_.length : Int))) = true then
  (idx c.code_ c.at_).bind fun e1 =>
  some (w64 ((e1.toNat : Int)))
 else
  some (0 : Int)).bind fun (v : Int) =>
 if (decide ((w64 (c.at_ + 1)) ≤ (c.code_.length : Int))) = true then
  some (v, (⟨c.code_, (w64 (c.at_ + 1)), (⟨(IntKind.u64.wrap ((IntKind.u64.wrap ((IntKind.u64.wrap (c.seed_.v * 6364136223846793005)) + (IntKind.u64.wrap (v)))) + 900900))⟩ : IK .u64)⟩ : l1Cur))
 else
  (chk ((0 : Int) ≤ 40)).bind fun u =>
  some ((w64 ((IntKind.u64.wrap ((BitVec.ofInt (IntKind.u64).bits ((IntKind.u64.wrap ((IntKind.u64.wrap ((IntKind.u64.wrap (c.seed_.v * 6364136223846793005)) + (IntKind.u64.wrap (v)))) + 900900)).fdiv (2 ^ (min (40 : Int).toNat (IntKind.u64).bits))) &&& BitVec.ofInt (IntKind.u64).bits 255).toNat : Int)))), (⟨c.code_, (w64 (c.at_ + 1)), (⟨(IntKind.u64.wrap ((IntKind.u64.wrap ((IntKind.u64.wrap (c.seed_.v * 6364136223846793005)) + (IntKind.u64.wrap (v)))) + 900900))⟩ : IK .u64)⟩ : l1Cur))
noncomputable def s_l1Cur_pick (c : l1Cur) (n : Int) : Option (Int × l1Cur) :=
 if (decide (n ≤ 1)) = true then
  some (0, c)
 else
  (s_l1Cur_next c).bind fun r =>
  (if (decide (200 < n)) = true then
   (s_l1Cur_next r.2).bind fun r1 =>
   some ((w64 ((w64 (r.1 * 256)) + r1.1)), r1.2.code_, r1.2.at_, r1.2.seed_.v)
  else
   some (r.1, r.2.code_, r.2.at_, r.2.seed_.v)).bind fun ((v, v1, v2, v3) : Int × (List UInt8) × Int × Int) =>
  (chk ((n : Int) ≠ 0)).bind fun u =>
  some ((v.tmod n), (⟨v1, v2, (⟨v3⟩ : IK .u64)⟩ : l1Cur))
noncomputable def s_l1Num_F (rec_ : Int → Option (ByteArray)) (n : Int) : Option (ByteArray) :=
 if (decide (n < 0)) = true then
  (rec_ (w64 (0 - n))).bind fun r =>
  (chk ((str [45]).size + r.size ≤ 4294967296)).bind fun u =>
  some ((str [45]) ++ r)
 else
  if (decide (n < 10)) = true then
   (chk ((0 : Int) ≤ n ∧ n ≤ (w64 (n + 1)) ∧ (w64 (n + 1)) ≤ ((str [48, 49, 50, 51, 52, 53, 54, 55, 56, 57]).size : Int))).bind fun u1 =>
   some ((str [48, 49, 50, 51, 52, 53, 54, 55, 56, 57]).extract n.toNat (w64 (n + 1)).toNat)
  else
   (chk ((10 : Int) ≠ 0)).bind fun u7 =>
   (rec_ (w64 (n.tdiv 10))).bind fun r2 =>
   (chk ((10 : Int) ≠ 0)).bind fun u8 =>
   (chk ((10 : Int) ≠ 0)).bind fun u9 =>
   (chk ((0 : Int) ≤ (n.tmod 10) ∧ (n.tmod 10) ≤ (w64 ((n.tmod 10) + 1)) ∧ (w64 ((n.tmod 10) + 1)) ≤ ((str [48, 49, 50, 51, 52, 53, 54, 55, 56, 57]).size : Int))).bind fun u10 =>
   (chk (r2.size + ((str [48, 49, 50, 51, 52, 53, 54, 55, 56, 57]).extract (n.tmod 10).toNat (w64 ((n.tmod 10) + 1)).toNat).size ≤ 4294967296)).bind fun u11 =>
   some (r2 ++ ((str [48, 49, 50, 51, 52, 53, 54, 55, 56, 57]).extract (n.tmod 10).toNat (w64 ((n.tmod 10) + 1)).toNat))
noncomputable def s_l1Num_k : Nat → Int → Option (ByteArray)
 | 0 => fun _ => none
 | n + 1 => s_l1Num_F (s_l1Num_k n)
noncomputable def s_l1Num (n : Int) : Option (ByteArray) := s_l1Num_k 4294967296 n
noncomputable def s_l2Place_L1 (x : Line) (stop : Int) : Int → Option (Lp (Int) (Fl (Int) (Unit)))
 | v =>
  if (decide (v < (x.Stops.length : Int))) = true then
   (idx x.Stops v).bind fun e =>
   if (e == stop) = true then
    some (.dn (.ret v))
   else
    some (.nx (w64 (v + 1)))
  else
   some (.dn (.go ()))
noncomputable def s_l2Place (x : Line) (stop : Int) : Option (Int) :=
 flb (iter (s_l2Place_L1 x stop) (0 : Int)) fun (_ : Unit) =>
 some (-1)
noncomputable def s_l1Cur_line_L1 (name : ByteArray) (stops : Int) : Int × Int × (List UInt8) × Int × Int × (List Int) → Option (Lp (Int × Int × (List UInt8) × Int × Int × (List Int)) ((List UInt8) × Int × Int × (List Int)))
 | (v, v1, v2, v3, v4, v5) =>
  if (decide (0 < v1)) = true then
   ((s_l2Place (⟨name, v5, ([] : List Int)⟩ : Line) v).bind fun r2 =>
   if (decide (r2 < 0)) = true then
    (chk (v5.length + ([v] : List Int).length ≤ 4294967296)).bind fun u =>
    some (v5 ++ ([v] : List Int))
   else
    some v5).bind fun (v6 : List Int) =>
   (s_l1Cur_pick (⟨v2, v3, (⟨v4⟩ : IK .u64)⟩ : l1Cur) 2).bind fun r3 =>
   (chk ((stops : Int) ≠ 0)).bind fun u1 =>
   some (.nx (((w64 ((w64 (v + 1)) + r3.1)).tmod stops), (w64 (v1 - 1)), r3.2.code_, r3.2.at_, r3.2.seed_.v, v6))
  else
   some (.dn (v2, v3, v4, v5))
noncomputable def s_l1Cur_line_L2 (v11 : List Int) : Int × (List UInt8) × Int × Int × (List Int) → Option (Lp (Int × (List UInt8) × Int × Int × (List Int)) ((List UInt8) × Int × Int × (List Int)))
 | (v12, v13, v14, v15, v16) =>
  if (decide (v12 < (v11.length : Int))) = true then
   (s_l1Cur_pick (⟨v13, v14, (⟨v15⟩ : IK .u64)⟩ : l1Cur) 12).bind fun r5 =>
   (chk (v16.length + ([(w64 (3 + r5.1))] : List Int).length ≤ 4294967296)).bind fun u7 =>
   some (.nx ((w64 (v12 + 1)), r5.2.code_, r5.2.at_, r5.2.seed_.v, (v16 ++ ([(w64 (3 + r5.1))] : List Int))))
  else
   some (.dn (v13, v14, v15, v16))
noncomputable def s_l1Cur_line (c : l1Cur) (name : ByteArray) (stops : Int) : Option (Line × l1Cur) :=
 (s_l1Cur_pick c stops).bind fun r =>
 (s_l1Cur_pick r.2 3).bind fun r1 =>
 (iter (s_l1Cur_line_L1 name stops) (r.1, (w64 (2 + r1.1)), r1.2.code_, r1.2.at_, r1.2.seed_.v, ([] : List Int))).bind fun ((v7, v8, v9, v10) : (List UInt8) × Int × Int × (List Int)) =>
 (if (decide ((v10.length : Int) < 2)) = true then
  (idx v10 0).bind fun e1 =>
  (chk ((stops : Int) ≠ 0)).bind fun u4 =>
  (chk (v10.length + ([((w64 (e1 + 1)).tmod stops)] : List Int).length ≤ 4294967296)).bind fun u5 =>
  some (v10 ++ ([((w64 (e1 + 1)).tmod stops)] : List Int))
 else
  some v10).bind fun (v11 : List Int) =>
 (iter (s_l1Cur_line_L2 v11) ((1 : Int), v7, v8, v9, ([] : List Int))).bind fun ((v17, v18, v19, v20) : (List UInt8) × Int × Int × (List Int)) =>
 some ((⟨name, v11, v20⟩ : Line), (⟨v17, v18, (⟨v19⟩ : IK .u64)⟩ : l1Cur))
noncomputable def s_l1Cur_line_f_L1 (name : ByteArray) (stops : Int) : Int × Int × (List UInt8) × Int × Int × (List Int) → Option (Lp (Int × Int × (List UInt8) × Int × Int × (List Int)) ((List UInt8) × Int × Int × (List Int)))
 | (v, v1, v2, v3, v4, v5) =>
  if (decide (0 < v1)) = true then
   ((s_l2Place (⟨name, v5, ([] : List Int)⟩ : Line) v).bind fun r2 =>
   if (decide (r2 < 0)) = true then
    (chk (v5.length + ([v] : List Int).length ≤ 4294967296)).bind fun u =>
    some (v5 ++ ([v] : List Int))
   else
    some v5).bind fun (v6 : List Int) =>
   (s_l1Cur_pick (⟨v2, v3, (⟨v4⟩ : IK .u64)⟩ : l1Cur) 2).bind fun r3 =>
   (chk ((stops : Int) ≠ 0)).bind fun u1 =>
   some (.nx (((w64 ((w64 (v + 1)) + r3.1)).tmod stops), (w64 (v1 - 1)), r3.2.code_, r3.2.at_, r3.2.seed_.v, v6))
  else
   some (.dn (v2, v3, v4, v5))
noncomputable def s_l1Cur_line_f_L2 (v11 : List Int) : Int × (List UInt8) × Int × Int × (List Int) → Option (Lp (Int × (List UInt8) × Int × Int × (List Int)) ((List UInt8) × Int × Int × (List Int)))
 | (v12, v13, v14, v15, v16) =>
  if (decide (v12 < (v11.length : Int))) = true then
   (s_l1Cur_pick (⟨v13, v14, (⟨v15⟩ : IK .u64)⟩ : l1Cur) 12).bind fun r5 =>
   (chk (v16.length + ([(w64 (3 + r5.1))] : List Int).length ≤ 4294967296)).bind fun u7 =>
   some (.nx ((w64 (v12 + 1)), r5.2.code_, r5.2.at_, r5.2.seed_.v, (v16 ++ ([(w64 (3 + r5.1))] : List Int))))
  else
   some (.dn (v13, v14, v15, v16))
noncomputable def s_l1Cur_line_f (c : l1Cur) (name : ByteArray) (stops : Int) : Option (Line × l1Cur) :=
 (s_l1Cur_pick c stops).bind fun r =>
 (s_l1Cur_pick r.2 3).bind fun r1 =>
 (iter (s_l1Cur_line_f_L1 name stops) (r.1, (w64 (2 + r1.1)), r1.2.code_, r1.2.at_, r1.2.seed_.v, ([] : List Int))).bind fun ((v7, v8, v9, v10) : (List UInt8) × Int × Int × (List Int)) =>
 (if (decide ((v10.length : Int) < 2)) = true then
  (idx v10 0).bind fun e1 =>
  (chk ((stops : Int) ≠ 0)).bind fun u4 =>
  (chk (v10.length + ([((w64 (e1 + 1)).tmod stops)] : List Int).length ≤ 4294967296)).bind fun u5 =>
  some (v10 ++ ([((w64 (e1 + 1)).tmod stops)] : List Int))
 else
  some v10).bind fun (v11 : List Int) =>
 (iter (s_l1Cur_line_f_L2 v11) ((1 : Int), v7, v8, v9, ([] : List Int))).bind fun ((v17, v18, v19, v20) : (List UInt8) × Int × Int × (List Int)) =>
 some ((⟨name, v11, v20⟩ : Line), (⟨v17, v18, (⟨v19⟩ : IK .u64)⟩ : l1Cur))
noncomputable def s_l1Cur_one (c : l1Cur) (n : Int) : Option (Bool × l1Cur) :=
 (s_l1Cur_pick c n).bind fun r =>
 some ((r.1 == 0), r.2)
noncomputable def s_l2Back_L1 (list : List Int) : Int × (List Int) → Option (Lp (Int × (List Int)) ((List Int)))
 | (v, i) =>
  if (decide (0 ≤ v)) = true then
   (idx list v).bind fun e =>
   (chk (i.length + ([e] : List Int).length ≤ 4294967296)).bind fun u =>
   some (.nx ((w64 (v - 1)), (i ++ ([e] : List Int))))
  else
   some (.dn i)
noncomputable def s_l2Back (list : List Int) : Option ((List Int)) :=
 (iter (s_l2Back_L1 list) ((w64 ((list.length : Int) - 1)), ([] : List Int))).bind fun (i1 : List Int) =>
 some i1
noncomputable def s_l2Back_f_L1 (list : List Int) : Int × (List Int) → Option (Lp (Int × (List Int)) ((List Int)))
 | (v, i) =>
  if (decide (0 ≤ v)) = true then
   (idx list v).bind fun e =>
   (chk (i.length + ([e] : List Int).length ≤ 4294967296)).bind fun u =>
   some (.nx ((w64 (v - 1)), (i ++ ([e] : List Int))))
  else
   some (.dn i)
noncomputable def s_l2Back_f (list : List Int) : Option ((List Int)) :=
 (iter (s_l2Back_f_L1 list) ((w64 ((list.length : Int) - 1)), ([] : List Int))).bind fun (i1 : List Int) =>
 some i1
noncomputable def s_l1Own (l : List Int) : Option ((List Int)) :=
 (chk (([] : List Int).length + l.length ≤ 4294967296)).bind fun u =>
 some (([] : List Int) ++ l)
noncomputable def s_l1Own_f (l : List Int) : Option ((List Int)) :=
 (chk (([] : List Int).length + l.length ≤ 4294967296)).bind fun u =>
 some (([] : List Int) ++ l)
noncomputable def s_l2Own_L1 (n : Network) : Int × (List Line) → Option (Lp (Int × (List Line)) ((List Line)))
 | (v, v1) =>
  if (decide (v < (n.Lines.length : Int))) = true then
   (idx n.Lines v).bind fun e3 =>
   (idx n.Lines v).bind fun e4 =>
   (s_l1Own_f e4.Stops).bind fun r2 =>
   (idx n.Lines v).bind fun e5 =>
   (s_l1Own_f e5.Runs).bind fun r3 =>
   (chk (v1.length + ([(⟨e3.Name, r2, r3⟩ : Line)] : List Line).length ≤ 4294967296)).bind fun u2 =>
   some (.nx ((w64 (v + 1)), (v1 ++ ([(⟨e3.Name, r2, r3⟩ : Line)] : List Line))))
  else
   some (.dn v1)
noncomputable def s_l2Own (n : Network) : Option (Network) :=
 (chk (([] : List ByteArray).length + n.Stops.length ≤ 4294967296)).bind fun u =>
 (iter (s_l2Own_L1 n) ((0 : Int), ([] : List Line))).bind fun (v2 : List Line) =>
 some (⟨(([] : List ByteArray) ++ n.Stops), v2⟩ : Network)
noncomputable def s_l1Cur_network_L1 (r : Int × l1Cur) : Int × (List UInt8) × Int × Int × (List Line) → Option (Lp (Int × (List UInt8) × Int × Int × (List Line)) ((List UInt8) × Int × Int × (List Line)))
 | (x, v, v1, v2, v3) =>
  if (decide (0 < x)) = true then
   (s_l1Num x).bind fun r4 =>
   (chk ((str [108]).size + r4.size ≤ 4294967296)).bind fun u3 =>
   (s_l1Cur_line_f (⟨v, v1, (⟨v2⟩ : IK .u64)⟩ : l1Cur) ((str [108]) ++ r4) (w64 (2 + r.1))).bind fun r5 =>
   (chk (v3.length + ([r5.1] : List Line).length ≤ 4294967296)).bind fun u4 =>
   some (.nx ((w64 (x - 1)), r5.2.code_, r5.2.at_, r5.2.seed_.v, (v3 ++ ([r5.1] : List Line))))
  else
   some (.dn (v, v1, v2, v3))
noncomputable def s_l1Cur_network (c : l1Cur) : Option (Network × l1Cur) :=
 (s_l1Cur_pick c 5).bind fun r =>
 (chk ((0 : Int) ≤ 0 ∧ 0 ≤ (w64 (2 + r.1)) ∧ (w64 (2 + r.1)) ≤ (([(str [112, 111, 114, 116]), (str [109, 105, 108, 108]), (str [112, 97, 114, 107]), (str [104, 97, 108, 108]), (str [100, 111, 99, 107]), (str [102, 97, 105, 114])] : List ByteArray).length : Int))).bind fun u =>
 (s_l1Cur_pick r.2 3).bind fun r1 =>
 (iter (s_l1Cur_network_L1 r) ((w64 (1 + r1.1)), r1.2.code_, r1.2.at_, r1.2.seed_.v, ([] : List Line))).bind fun ((v4, v5, v6, v7) : (List UInt8) × Int × Int × (List Line)) =>
 ((s_l1Cur_one (⟨v4, v5, (⟨v6⟩ : IK .u64)⟩ : l1Cur) 2).bind fun r6 =>
 if r6.1 = true then
  (idx v7 0).bind fun e =>
  (s_l2Back_f e.Stops).bind fun r9 =>
  (s_l2Back_f e.Runs).bind fun r10 =>
  (chk (v7.length + ([(⟨(str [114, 49]), r9, r10⟩ : Line)] : List Line).length ≤ 4294967296)).bind fun u6 =>
  some (r6.2.code_, r6.2.at_, r6.2.seed_.v, (v7 ++ ([(⟨(str [114, 49]), r9, r10⟩ : Line)] : List Line)))
 else
  some (r6.2.code_, r6.2.at_, r6.2.seed_.v, v7)).bind fun ((v8, v9, v10, v11) : (List UInt8) × Int × Int × (List Line)) =>
 (s_l2Own (⟨((([(str [112, 111, 114, 116]), (str [109, 105, 108, 108]), (str [112, 97, 114, 107]), (str [104, 97, 108, 108]), (str [100, 111, 99, 107]), (str [102, 97, 105, 114])] : List ByteArray).take (w64 (2 + r.1)).toNat).drop (0 : Int).toNat), v11⟩ : Network)).bind fun r11 =>
 some ((⟨r11.Stops, r11.Lines⟩ : Network), (⟨v8, v9, (⟨v10⟩ : IK .u64)⟩ : l1Cur))
noncomputable def s_l1Cur_of (c : l1Cur) (list : List ByteArray) : Option (ByteArray × l1Cur) :=
 (s_l1Cur_pick c (list.length : Int)).bind fun r =>
 (idx list r.1).bind fun e =>
 some (e, r.2)
noncomputable def s_l1Cur_of_w (c : l1Cur) (list : List ByteArray) : Option (ByteArray × l1Cur) :=
 (s_l1Cur_pick c (list.length : Int)).bind fun r =>
 (idx list r.1).bind fun e =>
 some (e, r.2)
noncomputable def s_l2Own_t_L1 (n : Network) : Int × (List Line) → Option (Lp (Int × (List Line)) ((List Line)))
 | (v, v1) =>
  if (decide (v < (n.Lines.length : Int))) = true then
   (idx n.Lines v).bind fun e3 =>
   (idx n.Lines v).bind fun e4 =>
   (s_l1Own e4.Stops).bind fun r2 =>
   (idx n.Lines v).bind fun e5 =>
   (s_l1Own e5.Runs).bind fun r3 =>
   (chk (v1.length + ([(⟨e3.Name, r2, r3⟩ : Line)] : List Line).length ≤ 4294967296)).bind fun u2 =>
   some (.nx ((w64 (v + 1)), (v1 ++ ([(⟨e3.Name, r2, r3⟩ : Line)] : List Line))))
  else
   some (.dn v1)
noncomputable def s_l2Own_t (n : Network) : Option (Network) :=
 (chk (([] : List ByteArray).length + n.Stops.length ≤ 4294967296)).bind fun u =>
 (iter (s_l2Own_t_L1 n) ((0 : Int), ([] : List Line))).bind fun (v2 : List Line) =>
 some (⟨(([] : List ByteArray) ++ n.Stops), v2⟩ : Network)
noncomputable def s_l1Cur_network_t_L1 (r : Int × l1Cur) : Int × (List UInt8) × Int × Int × (List Line) → Option (Lp (Int × (List UInt8) × Int × Int × (List Line)) ((List UInt8) × Int × Int × (List Line)))
 | (x, v, v1, v2, v3) =>
  if (decide (0 < x)) = true then
   (s_l1Num x).bind fun r4 =>
   (chk ((str [108]).size + r4.size ≤ 4294967296)).bind fun u3 =>
   (s_l1Cur_line_f (⟨v, v1, (⟨v2⟩ : IK .u64)⟩ : l1Cur) ((str [108]) ++ r4) (w64 (2 + r.1))).bind fun r5 =>
   (chk (v3.length + ([r5.1] : List Line).length ≤ 4294967296)).bind fun u4 =>
   some (.nx ((w64 (x - 1)), r5.2.code_, r5.2.at_, r5.2.seed_.v, (v3 ++ ([r5.1] : List Line))))
  else
   some (.dn (v, v1, v2, v3))
noncomputable def s_l1Cur_network_t (c : l1Cur) : Option (Network × l1Cur) :=
 (s_l1Cur_pick c 5).bind fun r =>
 (chk ((0 : Int) ≤ 0 ∧ 0 ≤ (w64 (2 + r.1)) ∧ (w64 (2 + r.1)) ≤ (([(str [112, 111, 114, 116]), (str [109, 105, 108, 108]), (str [112, 97, 114, 107]), (str [104, 97, 108, 108]), (str [100, 111, 99, 107]), (str [102, 97, 105, 114])] : List ByteArray).length : Int))).bind fun u =>
 (s_l1Cur_pick r.2 3).bind fun r1 =>
 (iter (s_l1Cur_network_t_L1 r) ((w64 (1 + r1.1)), r1.2.code_, r1.2.at_, r1.2.seed_.v, ([] : List Line))).bind fun ((v4, v5, v6, v7) : (List UInt8) × Int × Int × (List Line)) =>
 ((s_l1Cur_one (⟨v4, v5, (⟨v6⟩ : IK .u64)⟩ : l1Cur) 2).bind fun r6 =>
 if r6.1 = true then
  (idx v7 0).bind fun e =>
  (s_l2Back_f e.Stops).bind fun r9 =>
  (s_l2Back_f e.Runs).bind fun r10 =>
  (chk (v7.length + ([(⟨(str [114, 49]), r9, r10⟩ : Line)] : List Line).length ≤ 4294967296)).bind fun u6 =>
  some (r6.2.code_, r6.2.at_, r6.2.seed_.v, (v7 ++ ([(⟨(str [114, 49]), r9, r10⟩ : Line)] : List Line)))
 else
  some (r6.2.code_, r6.2.at_, r6.2.seed_.v, v7)).bind fun ((v8, v9, v10, v11) : (List UInt8) × Int × Int × (List Line)) =>
 (s_l2Own_t (⟨((([(str [112, 111, 114, 116]), (str [109, 105, 108, 108]), (str [112, 97, 114, 107]), (str [104, 97, 108, 108]), (str [100, 111, 99, 107]), (str [102, 97, 105, 114])] : List ByteArray).take (w64 (2 + r.1)).toNat).drop (0 : Int).toNat), v11⟩ : Network)).bind fun r11 =>
 some ((⟨r11.Stops, r11.Lines⟩ : Network), (⟨v8, v9, (⟨v10⟩ : IK .u64)⟩ : l1Cur))
noncomputable def s_l1Cur_among (c : l1Cur) (list : List Int) : Option (Int × l1Cur) :=
 (s_l1Cur_pick c (list.length : Int)).bind fun r =>
 (idx list r.1).bind fun e =>
 some (e, r.2)
noncomputable def s_l1Cur_among_w (c : l1Cur) (list : List Int) : Option (Int × l1Cur) :=
 (s_l1Cur_pick c (list.length : Int)).bind fun r =>
 (idx list r.1).bind fun e =>
 some (e, r.2)
noncomputable def s_l1Cur_anyNetwork_L1 (r : Network × l1Cur) : Int × (List UInt8) × Int × Int × (List Line) → Option (Lp (Int × (List UInt8) × Int × Int × (List Line)) ((List UInt8) × Int × Int × (List Line)))
 | (v7, v8, v9, v10, v11) =>
  (s_l1Cur_pick (⟨v8, v9, (⟨v10⟩ : IK .u64)⟩ : l1Cur) 2).bind fun r16 =>
  (if (decide ((v11.length : Int) < (w64 (5 + r16.1)))) = true then some (decide (v7 < 7)) else some false).bind fun (v12 : Bool) =>
  if v12 = true then
   (s_l1Num v7).bind fun r19 =>
   (chk ((str [120]).size + r19.size ≤ 4294967296)).bind fun u3 =>
   (s_l1Cur_line r16.2 ((str [120]) ++ r19) (r.1.Stops.length : Int)).bind fun r20 =>
   (chk (v11.length + ([(⟨r20.1.Name, r20.1.Stops, r20.1.Runs⟩ : Line)] : List Line).length ≤ 4294967296)).bind fun u4 =>
   some (.nx ((w64 (v7 + 1)), r20.2.code_, r20.2.at_, r20.2.seed_.v, (v11 ++ ([(⟨r20.1.Name, r20.1.Stops, r20.1.Runs⟩ : Line)] : List Line))))
  else
   some (.dn (r16.2.code_, r16.2.at_, r16.2.seed_.v, v11))
noncomputable def s_l1Cur_anyNetwork (c : l1Cur) : Option (Network × l1Cur) :=
 (s_l1Cur_network_t c).bind fun r =>
 (s_l1Cur_pick r.2 (r.1.Lines.length : Int)).bind fun r1 =>
 (idx r.1.Lines r1.1).bind fun e =>
 flb ((s_l1Cur_pick r1.2 24).bind fun r2 =>
 if (r2.1 == 0) = true then
  (s_l1Cur_of_w r2.2 ([(str [109, 105, 108, 108]), (str []), (str [65]), (str [97, 98, 99, 100, 101, 102, 103, 104]), (str [97, 98, 99, 100, 101, 102, 103, 104, 105])] : List ByteArray)).bind fun r4 =>
  (idx r.1.Stops 0).bind fun e2 =>
  some (.go (r4.2.code_, r4.2.at_, r4.2.seed_.v, e.Name, (r.1.Stops.set (0 : Int).toNat r4.1), r.1.Lines, e.Runs))
 else
  if (r2.1 == 1) = true then
   (s_l1Cur_of_w r2.2 ([(str [114, 49]), (str [108, 49]), (str []), (str [88])] : List ByteArray)).bind fun r5 =>
   some (.go (r5.2.code_, r5.2.at_, r5.2.seed_.v, r5.1, r.1.Stops, r.1.Lines, e.Runs))
  else
   if (r2.1 == 2) = true then
    (s_l1Cur_pick r2.2 (e.Stops.length : Int)).bind fun r8 =>
    (s_l1Cur_pick r8.2 10).bind fun r9 =>
    (idx e.Stops r8.1).bind fun e4 =>
    some (.go (r9.2.code_, r9.2.at_, r9.2.seed_.v, e.Name, r.1.Stops, (r.1.Lines.set r1.1.toNat (⟨e.Name, (e.Stops.set r8.1.toNat (w64 (r9.1 - 1))), e.Runs⟩ : Line)), ((⟨e.Name, (e.Stops.set r8.1.toNat (w64 (r9.1 - 1))), e.Runs⟩ : Line).Runs)))
   else
    if (r2.1 == 3) = true then
     (s_l1Cur_pick r2.2 (e.Runs.length : Int)).bind fun r12 =>
     (s_l1Cur_among_w r12.2 ([0, 60, 61, (-1)] : List Int)).bind fun r13 =>
     (idx e.Runs r12.1).bind fun e6 =>
     some (.go (r13.2.code_, r13.2.at_, r13.2.seed_.v, e.Name, r.1.Stops, (r.1.Lines.set r1.1.toNat (⟨e.Name, e.Stops, (e.Runs.set r12.1.toNat r13.1)⟩ : Line)), ((⟨e.Name, e.Stops, (e.Runs.set r12.1.toNat r13.1)⟩ : Line).Runs)))
    else
     if (r2.1 == 4) = true then
      (chk (e.Runs.length + ([3] : List Int).length ≤ 4294967296)).bind fun u =>
      some (.go (r2.2.code_, r2.2.at_, r2.2.seed_.v, e.Name, r.1.Stops, r.1.Lines, (e.Runs ++ ([3] : List Int))))
     else
      if (r2.1 == 5) = true then
       some (.ret ((⟨r.1.Stops, ([] : List Line)⟩ : Network), r2.2))
      else
       if (r2.1 == 6) = true then
        (iter (s_l1Cur_anyNetwork_L1 r) ((0 : Int), r2.2.code_, r2.2.at_, r2.2.seed_.v, r.1.Lines)).bind fun ((v13, v14, v15, v16) : (List UInt8) × Int × Int × (List Line)) =>
        some (.ret ((⟨r.1.Stops, v16⟩ : Network), (⟨v13, v14, (⟨v15⟩ : IK .u64)⟩ : l1Cur)))
       else
        some (.go (r2.2.code_, r2.2.at_, r2.2.seed_.v, e.Name, r.1.Stops, r.1.Lines, e.Runs))) fun ((v, v1, v2, v3, v4, v5, v6) : (List UInt8) × Int × Int × ByteArray × (List ByteArray) × (List Line) × (List Int)) =>
 (idx v5 r1.1).bind fun e9 =>
 some ((⟨v4, (v5.set r1.1.toNat (⟨v3, e9.Stops, v6⟩ : Line))⟩ : Network), (⟨v, v1, (⟨v2⟩ : IK .u64)⟩ : l1Cur))
noncomputable def s_l1Cur_zoned_L1 (r : Network × l1Cur) : Int × (List UInt8) × Int × Int × (List Int) → Option (Lp (Int × (List UInt8) × Int × Int × (List Int)) ((List UInt8) × Int × Int × (List Int)))
 | (v, v1, v2, v3, i) =>
  if (decide (v < (r.1.Stops.length : Int))) = true then
   (s_l1Cur_pick (⟨v1, v2, (⟨v3⟩ : IK .u64)⟩ : l1Cur) 3).bind fun r1 =>
   (chk (i.length + ([(w64 (1 + r1.1))] : List Int).length ≤ 4294967296)).bind fun u =>
   some (.nx ((w64 (v + 1)), r1.2.code_, r1.2.at_, r1.2.seed_.v, (i ++ ([(w64 (1 + r1.1))] : List Int))))
  else
   some (.dn (v1, v2, v3, i))
noncomputable def s_l1Cur_zoned (c : l1Cur) : Option (Network × (List Int) × l1Cur) :=
 (s_l1Cur_anyNetwork c).bind fun r =>
 (iter (s_l1Cur_zoned_L1 r) ((0 : Int), r.2.code_, r.2.at_, r.2.seed_.v, ([] : List Int))).bind fun ((v4, v5, v6, i1) : (List UInt8) × Int × Int × (List Int)) =>
 ((s_l1Cur_pick (⟨v4, v5, (⟨v6⟩ : IK .u64)⟩ : l1Cur) 40).bind fun r2 =>
 if (r2.1 == 0) = true then
  (chk (i1.length + ([1] : List Int).length ≤ 4294967296)).bind fun u1 =>
  some (r2.2.code_, r2.2.at_, r2.2.seed_.v, (i1 ++ ([1] : List Int)))
 else
  if (r2.1 == 1) = true then
   if (decide (0 < (i1.length : Int))) = true then
    (s_l1Cur_among r2.2 ([0, 10, 9] : List Int)).bind fun r3 =>
    (idx i1 0).bind fun e =>
    some (r3.2.code_, r3.2.at_, r3.2.seed_.v, (i1.set (0 : Int).toNat r3.1))
   else
    some (r2.2.code_, r2.2.at_, r2.2.seed_.v, i1)
  else
   some (r2.2.code_, r2.2.at_, r2.2.seed_.v, i1)).bind fun ((v7, v8, v9, i2) : (List UInt8) × Int × Int × (List Int)) =>
 some ((⟨r.1.Stops, r.1.Lines⟩ : Network), i2, (⟨v7, v8, (⟨v9⟩ : IK .u64)⟩ : l1Cur))
noncomputable def s_l1Most (a : Int) (b : Int) : Option (Int) :=
 if (decide (b < a)) = true then
  some a
 else
  some b
noncomputable def s_l1Least (a : Int) (b : Int) : Option (Int) :=
 if (decide (a < b)) = true then
  some a
 else
  some b
noncomputable def s_l1Cur_leg21 (c : l1Cur) (n : Network) : Option ((List Int) × l1Cur) :=
 if ((n.Lines.length : Int) == 0) = true then
  some (([0, 0, 0] : List Int), c)
 else
  (s_l1Cur_pick c (n.Lines.length : Int)).bind fun r =>
  (idx n.Lines r.1).bind fun e =>
  (s_l1Most (e.Stops.length : Int) 1).bind fun r1 =>
  (s_l1Cur_pick r.2 r1).bind fun r2 =>
  (s_l1Cur_pick r2.2 3).bind fun r3 =>
  (s_l1Least (w64 (r2.1 + r3.1)) (w64 (r1 - 1))).bind fun r4 =>
  ((s_l1Cur_one r3.2 40).bind fun r5 =>
  if r5.1 = true then
   (s_l1Cur_pick r5.2 3).bind fun r6 =>
   (s_l1Cur_among r6.2 ([(-1), 6] : List Int)).bind fun r7 =>
   (idx ([r.1, r2.1, r4] : List Int) r6.1).bind fun e1 =>
   some (r7.2.code_, r7.2.at_, r7.2.seed_.v, (([r.1, r2.1, r4] : List Int).set r6.1.toNat r7.1))
  else
   some (r5.2.code_, r5.2.at_, r5.2.seed_.v, ([r.1, r2.1, r4] : List Int))).bind fun ((v, v1, v2, v3) : (List UInt8) × Int × Int × (List Int)) =>
  some (v3, (⟨v, v1, (⟨v2⟩ : IK .u64)⟩ : l1Cur))
noncomputable def s_l1Cur_prices_L1 : Int × Int × (List UInt8) × Int × Int × (List Int) → Option (Lp (Int × Int × (List UInt8) × Int × Int × (List Int)) ((List UInt8) × Int × Int × (List Int)))
 | (n, v, v1, v2, v3, v4) =>
  if (decide (0 < v)) = true then
   (chk (v4.length + ([n] : List Int).length ≤ 4294967296)).bind fun u =>
   (s_l1Cur_among_w (⟨v1, v2, (⟨v3⟩ : IK .u64)⟩ : l1Cur) ([0, 50, 100] : List Int)).bind fun r4 =>
   some (.nx ((w64 (n + r4.1)), (w64 (v - 1)), r4.2.code_, r4.2.at_, r4.2.seed_.v, (v4 ++ ([n] : List Int))))
  else
   some (.dn (v1, v2, v3, v4))
noncomputable def s_l1Cur_prices (c : l1Cur) : Option (Prices × l1Cur) :=
 (s_l1Cur_among_w c ([500, 700, 300, 10000] : List Int)).bind fun r =>
 (s_l1Cur_among_w r.2 ([2000, 1500, 3000, 900, 10000] : List Int)).bind fun r1 =>
 (s_l1Cur_among_w r1.2 ([100, 200, 250] : List Int)).bind fun r2 =>
 (s_l1Cur_pick r2.2 4).bind fun r3 =>
 (iter (s_l1Cur_prices_L1) (r2.1, (w64 (1 + r3.1)), r3.2.code_, r3.2.at_, r3.2.seed_.v, ([] : List Int))).bind fun ((v5, v6, v7, v8) : (List UInt8) × Int × Int × (List Int)) =>
 ((s_l1Cur_pick (⟨v5, v6, (⟨v7⟩ : IK .u64)⟩ : l1Cur) 40).bind fun r5 =>
 if (r5.1 == 0) = true then
  (s_l1Cur_among_w r5.2 ([0, 10000, 10001] : List Int)).bind fun r7 =>
  (chk (v8.length + ([r7.1] : List Int).length ≤ 4294967296)).bind fun u2 =>
  some (r7.2.code_, r7.2.at_, r7.2.seed_.v, (v8 ++ ([r7.1] : List Int)), r.1)
 else
  if (r5.1 == 1) = true then
   (s_l1Cur_among_w r5.2 ([(-1), 10001, 0] : List Int)).bind fun r8 =>
   some (r8.2.code_, r8.2.at_, r8.2.seed_.v, v8, r8.1)
  else
   if (r5.1 == 2) = true then
    (chk ((0 : Int) ≤ 0 ∧ 0 ≤ (0 : Int) ∧ (0 : Int) ≤ (v8.length : Int))).bind fun u3 =>
    some (r5.2.code_, r5.2.at_, r5.2.seed_.v, ((v8.take (0 : Int).toNat).drop (0 : Int).toNat), r.1)
   else
    some (r5.2.code_, r5.2.at_, r5.2.seed_.v, v8, r.1)).bind fun ((v9, v10, v11, v12, v13) : (List UInt8) × Int × Int × (List Int) × Int) =>
 some ((⟨v12, v13, r1.1⟩ : Prices), (⟨v9, v10, (⟨v11⟩ : IK .u64)⟩ : l1Cur))
noncomputable def s_DrawJourneyFare_L1 (r : Network × (List Int) × l1Cur) : Int × (List UInt8) × Int × Int × (List (List Int)) → Option (Lp (Int × (List UInt8) × Int × Int × (List (List Int))) ((List UInt8) × Int × Int × (List (List Int))))
 | (v, v1, v2, v3, k) =>
  if (decide (0 < v)) = true then
   (s_l1Cur_leg21 (⟨v1, v2, (⟨v3⟩ : IK .u64)⟩ : l1Cur) r.1).bind fun r3 =>
   (chk (k.length + ([r3.1] : List (List Int)).length ≤ 4294967296)).bind fun u2 =>
   some (.nx ((w64 (v - 1)), r3.2.code_, r3.2.at_, r3.2.seed_.v, (k ++ ([r3.1] : List (List Int)))))
  else
   some (.dn (v1, v2, v3, k))
noncomputable def s_DrawJourneyFare (code : List UInt8) : Option (Network × (List Int) × Prices × (List (List Int))) :=
 (s_l1Cur_zoned (⟨code, 0, (⟨0⟩ : IK .u64)⟩ : l1Cur)).bind fun r =>
 (s_l1Cur_pick r.2.2 24).bind fun r1 =>
 (chk ((6 : Int) ≠ 0)).bind fun u =>
 (chk ((0 : Int) ≤ 0 ∧ 0 ≤ (w64 (5 + (w64 (r1.1.tdiv 6)))) ∧ (w64 (5 + (w64 (r1.1.tdiv 6)))) ≤ (([1, 2, 3, 1, 2, 0, 6, 7] : List Int).length : Int))).bind fun u1 =>
 (s_l1Cur_among r1.2 ((([1, 2, 3, 1, 2, 0, 6, 7] : List Int).take (w64 (5 + (w64 (r1.1.tdiv 6)))).toNat).drop (0 : Int).toNat)).bind fun r2 =>
 (iter (s_DrawJourneyFare_L1 r) (r2.1, r2.2.code_, r2.2.at_, r2.2.seed_.v, ([] : List (List Int)))).bind fun ((v4, v5, v6, k1) : (List UInt8) × Int × Int × (List (List Int))) =>
 (s_l1Cur_prices (⟨v4, v5, (⟨v6⟩ : IK .u64)⟩ : l1Cur)).bind fun r5 =>
 some (r.1, r.2.1, r5.1, k1)
noncomputable def i_within (n : Int) (lo : Int) (hi : Int) : Option (Bool) :=
 (if (decide (lo ≤ n)) = true then some (decide (n ≤ hi)) else some false).bind fun (v : Bool) =>
 some v
noncomputable def i_isName_L1 (s : ByteArray) : Int → Option (Lp (Int) (Fl (Bool) (Unit)))
 | v1 =>
  if (decide (v1 < (s.size : Int))) = true then
   (chk ((0 : Int) ≤ v1 ∧ v1 < (s.size : Int))).bind fun u =>
   (if (decide (97 ≤ ((s.data.toList.getD v1.toNat 0).toNat : Int))) = true then (chk ((0 : Int) ≤ v1 ∧ v1 < (s.size : Int))).bind fun u1 =>
   some (decide (((s.data.toList.getD v1.toNat 0).toNat : Int) ≤ 122)) else some false).bind fun (v2 : Bool) =>
   (if (!v2) = true then if (v1 == 0) = true then some true else (chk ((0 : Int) ≤ v1 ∧ v1 < (s.size : Int))).bind fun u2 =>
   if (decide (((s.data.toList.getD v1.toNat 0).toNat : Int) < 48)) = true then some true else (chk ((0 : Int) ≤ v1 ∧ v1 < (s.size : Int))).bind fun u3 =>
   some (decide (57 < ((s.data.toList.getD v1.toNat 0).toNat : Int))) else some false).bind fun (v3 : Bool) =>
   if v3 = true then
    some (.dn (.ret false))
   else
    some (.nx (w64 (v1 + 1)))
  else
   some (.dn (.go ()))
noncomputable def i_isName (s : ByteArray) : Option (Bool) :=
 (if (decide ((s.size : Int) < 1)) = true then some true else some (decide (8 < (s.size : Int)))).bind fun (v : Bool) =>
 if v = true then
  some false
 else
  flb (iter (i_isName_L1 s) (0 : Int)) fun (_ : Unit) =>
  some true
noncomputable def slices_Index_string_L1 (s : List ByteArray) (v : ByteArray) : Int → Option (Lp (Int) (Fl (Int) (Unit)))
 | v1 =>
  if (decide (v1 < (s.length : Int))) = true then
   (idx s v1).bind fun e =>
   if (v.toList == e.toList) = true then
    some (.dn (.ret v1))
   else
    some (.nx (w64 (v1 + 1)))
  else
   some (.dn (.go ()))
noncomputable def slices_Index_string (s : List ByteArray) (v : ByteArray) : Option (Int) :=
 flb (iter (slices_Index_string_L1 s v) (0 : Int)) fun (_ : Unit) =>
 some (-1)
noncomputable def i_areNames_L1 (names : List ByteArray) : Int → Option (Lp (Int) (Fl (Bool) (Unit)))
 | v =>
  if (decide (v < (names.length : Int))) = true then
   (idx names v).bind fun e =>
   (i_isName e).bind fun r =>
   (if (!r) = true then some true else (slices_Index_string names e).bind fun r1 =>
   some (r1 != v)).bind fun (v1 : Bool) =>
   if v1 = true then
    some (.dn (.ret false))
   else
    some (.nx (w64 (v + 1)))
  else
   some (.dn (.go ()))
noncomputable def i_areNames (names : List ByteArray) : Option (Bool) :=
 flb (iter (i_areNames_L1 names) (0 : Int)) fun (_ : Unit) =>
 some true
noncomputable def i_lineNames_L1 (n : Network) : Int × (List ByteArray) → Option (Lp (Int × (List ByteArray)) ((List ByteArray)))
 | (v, i) =>
  if (decide (v < (n.Lines.length : Int))) = true then
   (idx n.Lines v).bind fun e =>
   (idx i v).bind fun e1 =>
   some (.nx ((w64 (v + 1)), (i.set v.toNat e.Name)))
  else
   some (.dn i)
noncomputable def i_lineNames (n : Network) : Option ((List ByteArray)) :=
 (chk ((0 : Int) ≤ (n.Lines.length : Int) ∧ ((n.Lines.length : Int) : Int) ≤ 4294967296)).bind fun u =>
 (iter (i_lineNames_L1 n) ((0 : Int), (List.replicate (n.Lines.length : Int).toNat (ByteArray.empty : ByteArray)))).bind fun (i1 : List ByteArray) =>
 some i1
noncomputable def i_isStop (n : Network) (stop : Int) : Option (Bool) :=
 (if (decide (0 ≤ stop)) = true then some (decide (stop < (n.Stops.length : Int))) else some false).bind fun (v : Bool) =>
 some v
noncomputable def slices_Index_int_L1 (s : List Int) (v : Int) : Int → Option (Lp (Int) (Fl (Int) (Unit)))
 | v1 =>
  if (decide (v1 < (s.length : Int))) = true then
   (idx s v1).bind fun e =>
   if (v == e) = true then
    some (.dn (.ret v1))
   else
    some (.nx (w64 (v1 + 1)))
  else
   some (.dn (.go ()))
noncomputable def slices_Index_int (s : List Int) (v : Int) : Option (Int) :=
 flb (iter (slices_Index_int_L1 s v) (0 : Int)) fun (_ : Unit) =>
 some (-1)
noncomputable def i_isValidLine_L1 (n : Network) (l : Line) : Int → Option (Lp (Int) (Fl (Bool) (Unit)))
 | v1 =>
  if (decide (v1 < (l.Stops.length : Int))) = true then
   (idx l.Stops v1).bind fun e =>
   (i_isStop n e).bind fun r1 =>
   (if (!r1) = true then some true else (slices_Index_int l.Stops e).bind fun r2 =>
   some (r2 != v1)).bind fun (v2 : Bool) =>
   if v2 = true then
    some (.dn (.ret false))
   else
    some (.nx (w64 (v1 + 1)))
  else
   some (.dn (.go ()))
noncomputable def i_isValidLine_L2 (l : Line) : Int → Option (Lp (Int) (Fl (Bool) (Unit)))
 | v3 =>
  if (decide (v3 < (l.Runs.length : Int))) = true then
   (idx l.Runs v3).bind fun e2 =>
   (i_within e2 1 60).bind fun r4 =>
   if (!r4) = true then
    some (.dn (.ret false))
   else
    some (.nx (w64 (v3 + 1)))
  else
   some (.dn (.go ()))
noncomputable def i_isValidLine (n : Network) (l : Line) : Option (Bool) :=
 (i_within (l.Stops.length : Int) 2 6).bind fun r =>
 (if (!r) = true then some true else some ((l.Runs.length : Int) != (w64 ((l.Stops.length : Int) - 1)))).bind fun (v : Bool) =>
 if v = true then
  some false
 else
  flb (iter (i_isValidLine_L1 n l) (0 : Int)) fun (_ : Unit) =>
  flb (iter (i_isValidLine_L2 l) (0 : Int)) fun (_ : Unit) =>
  some true
noncomputable def i_IsValidNetwork_L1 (n : Network) : Int → Option (Lp (Int) (Fl (Bool) (Unit)))
 | v1 =>
  if (decide (v1 < (n.Lines.length : Int))) = true then
   (idx n.Lines v1).bind fun e =>
   (i_isValidLine n e).bind fun r5 =>
   if (!r5) = true then
    some (.dn (.ret false))
   else
    some (.nx (w64 (v1 + 1)))
  else
   some (.dn (.go ()))
noncomputable def i_IsValidNetwork (n : Network) : Option (Bool) :=
 (i_within (n.Stops.length : Int) 2 8).bind fun r =>
 (if (!r) = true then some true else (i_within (n.Lines.length : Int) 1 5).bind fun r1 =>
 if (!r1) = true then some true else (i_areNames n.Stops).bind fun r2 =>
 if (!r2) = true then some true else (i_lineNames n).bind fun r3 =>
 (i_areNames r3).bind fun r4 =>
 some (!r4)).bind fun (v : Bool) =>
 if v = true then
  some false
 else
  flb (iter (i_IsValidNetwork_L1 n) (0 : Int)) fun (_ : Unit) =>
  some true
noncomputable def i_areZones_L1 (zones : List Int) : Int → Option (Lp (Int) (Fl (Bool) (Unit)))
 | v =>
  if (decide (v < (zones.length : Int))) = true then
   (idx zones v).bind fun e =>
   (i_within e 1 9).bind fun r =>
   if (!r) = true then
    some (.dn (.ret false))
   else
    some (.nx (w64 (v + 1)))
  else
   some (.dn (.go ()))
noncomputable def i_areZones (n : Network) (zones : List Int) : Option (Bool) :=
 if ((zones.length : Int) != (n.Stops.length : Int)) = true then
  some false
 else
  flb (iter (i_areZones_L1 zones) (0 : Int)) fun (_ : Unit) =>
  some true
noncomputable def i_IsValidZones (n : Network) (zones : List Int) : Option (Bool) :=
 (i_IsValidNetwork n).bind fun r =>
 (if r = true then (i_areZones n zones).bind fun r1 =>
 some r1 else some false).bind fun (v : Bool) =>
 some v
noncomputable def i_isLine (n : Network) (line : Int) : Option (Bool) :=
 (if (decide (0 ≤ line)) = true then some (decide (line < (n.Lines.length : Int))) else some false).bind fun (v : Bool) =>
 some v
noncomputable def i_arePlaces (n : Network) (line : Int) (from_ : Int) (to : Int) : Option (Bool) :=
 (i_isLine n line).bind fun r =>
 (if r = true then if (decide (0 ≤ from_)) = true then if (decide (from_ ≤ to)) = true then (idx n.Lines line).bind fun e =>
 some (decide (to < (e.Stops.length : Int))) else some false else some false else some false).bind fun (v : Bool) =>
 some v
noncomputable def i_touched_L1 (zones : List Int) (from_ : Int) (to : Int) (e : Line) : Int × Int → Option (Lp (Int × Int) (Int))
 | (v, v1) =>
  if (decide (v1 < (((e.Stops.take (w64 (to + 1)).toNat).drop from_.toNat).length : Int))) = true then
   (idx ((e.Stops.take (w64 (to + 1)).toNat).drop from_.toNat) v1).bind fun e1 =>
   (idx zones e1).bind fun e2 =>
   (chk ((0 : Int) ≤ e2)).bind fun u1 =>
   some (.nx ((IntKind.i64.wrap ((BitVec.ofInt (IntKind.i64).bits v ||| BitVec.ofInt (IntKind.i64).bits (w64 (1 * 2 ^ (min (e2 : Int).toNat (IntKind.i64).bits)))).toNat : Int)), (w64 (v1 + 1))))
  else
   some (.dn v)
noncomputable def i_touched (n : Network) (zones : List Int) (line : Int) (from_ : Int) (to : Int) : Option (Int) :=
 (idx n.Lines line).bind fun e =>
 (chk ((0 : Int) ≤ from_ ∧ from_ ≤ (w64 (to + 1)) ∧ (w64 (to + 1)) ≤ (e.Stops.length : Int))).bind fun u =>
 (iter (i_touched_L1 zones from_ to e) ((0 : Int), (0 : Int))).bind fun (v2 : Int) =>
 some v2
noncomputable def cmp_isNaN_int (x : Int) : Option (Bool) :=
 some (x != x)
noncomputable def cmp_Less_int (x : Int) (y_ : Int) : Option (Bool) :=
 (cmp_isNaN_int x).bind fun r =>
 (if r = true then (cmp_isNaN_int y_).bind fun r1 =>
 if (!r1) = true then some true else some (decide (x < y_)) else some (decide (x < y_))).bind fun (v : Bool) =>
 some v
noncomputable def slices_IsSorted_int_L1 (x : List Int) : Int → Option (Lp (Int) (Fl (Bool) (Unit)))
 | v =>
  if (decide (0 < v)) = true then
   (idx x v).bind fun e2 =>
   (idx x (w64 (v - 1))).bind fun e3 =>
   (cmp_Less_int e2 e3).bind fun r1 =>
   if r1 = true then
    some (.dn (.ret false))
   else
    some (.nx (w64 (v - 1)))
  else
   some (.dn (.go ()))
noncomputable def slices_IsSorted_int (x : List Int) : Option (Bool) :=
 flb (iter (slices_IsSorted_int_L1 x) (w64 ((x.length : Int) - 1))) fun (_ : Unit) =>
 some true
noncomputable def i_isPrice (p : Int) : Option (Bool) :=
 (i_within p 0 10000).bind fun r =>
 some r
noncomputable def i_arePrices (p : Prices) : Option (Bool) :=
 (i_within (p.Zones.length : Int) 1 9).bind fun r =>
 (if (!r) = true then some true else (slices_IsSorted_int p.Zones).bind fun r1 =>
 if (!r1) = true then some true else (i_isPrice p.Day).bind fun r2 =>
 if (!r2) = true then some true else (i_isPrice p.Week).bind fun r3 =>
 some (!r3)).bind fun (v : Bool) =>
 if v = true then
  some false
 else
  (idx p.Zones 0).bind fun e =>
  (i_isPrice e).bind fun r4 =>
  (if r4 = true then (idx p.Zones (w64 ((p.Zones.length : Int) - 1))).bind fun e1 =>
  (i_isPrice e1).bind fun r5 =>
  some r5 else some false).bind fun (v1 : Bool) =>
  some v1
noncomputable def i_SingleFare (p : Prices) (count : Int) : Option (Int × Bool) :=
 (i_arePrices p).bind fun r =>
 (if (!r) = true then some true else (i_within count 1 9).bind fun r1 =>
 some (!r1)).bind fun (v : Bool) =>
 if v = true then
  some (0, false)
 else
  (idx p.Zones (w64 ((if (p.Zones.length : Int) < count then (p.Zones.length : Int) else count) - 1))).bind fun e =>
  some (e, true)
noncomputable def i_JourneyFare_L1 (n : Network) (zones : List Int) (legs : List (List Int)) : Int × Int → Option (Lp (Int × Int) (Fl (Int × Bool) (Int)))
 | (z, v1) =>
  if (decide (v1 < (legs.length : Int))) = true then
   (idx legs v1).bind fun e =>
   (if ((e.length : Int) != 3) = true then some true else (idx e 0).bind fun e4 =>
   (idx e 1).bind fun e5 =>
   (idx e 2).bind fun e6 =>
   (i_arePlaces n e4 e5 e6).bind fun r2 =>
   some (!r2)).bind fun (v2 : Bool) =>
   if v2 = true then
    some (.dn (.ret (0, false)))
   else
    (idx e 0).bind fun e11 =>
    (idx e 1).bind fun e12 =>
    (idx e 2).bind fun e13 =>
    (i_touched n zones e11 e12 e13).bind fun r5 =>
    some (.nx ((IntKind.i64.wrap ((BitVec.ofInt (IntKind.i64).bits z ||| BitVec.ofInt (IntKind.i64).bits r5).toNat : Int)), (w64 (v1 + 1))))
  else
   some (.dn (.go z))
noncomputable def i_JourneyFare_L2 (z1 : Int) : Int × Int → Option (Lp (Int × Int) (Int))
 | (v3, v4) =>
  if (decide (v4 < 10)) = true then
   (chk ((0 : Int) ≤ v4)).bind fun u =>
   some (.nx ((w64 (v3 + (IntKind.i64.wrap ((BitVec.ofInt (IntKind.i64).bits (z1.fdiv (2 ^ (min (v4 : Int).toNat (IntKind.i64).bits))) &&& BitVec.ofInt (IntKind.i64).bits 1).toNat : Int)))), (w64 (v4 + 1))))
  else
   some (.dn v3)
noncomputable def i_JourneyFare (n : Network) (zones : List Int) (p : Prices) (legs : List (List Int)) : Option (Int × Bool) :=
 (i_IsValidZones n zones).bind fun r =>
 (if (!r) = true then some true else some (decide (6 < (legs.length : Int)))).bind fun (v : Bool) =>
 if v = true then
  some (0, false)
 else
  flb (iter (i_JourneyFare_L1 n zones legs) ((0 : Int), (0 : Int))) fun (z1 : Int) =>
  (iter (i_JourneyFare_L2 z1) ((0 : Int), (0 : Int))).bind fun (v5 : Int) =>
  (i_SingleFare p v5).bind fun r6 =>
  some (r6.1, r6.2)
noncomputable def s_l1In (x : Int) (a : Int) (b : Int) : Option (Bool) :=
 (if (decide (a ≤ x)) = true then some (decide (x ≤ b)) else some false).bind fun (v : Bool) =>
 some v
noncomputable def s_l2Name_L1 (s : ByteArray) : Int → Option (Lp (Int) (Fl (Bool) (Unit)))
 | v1 =>
  if (decide (v1 < (s.size : Int))) = true then
   (chk ((0 : Int) ≤ v1 ∧ v1 < (s.size : Int))).bind fun u2 =>
   (if (decide (((s.data.toList.getD v1.toNat 0).toNat : Int) < 97)) = true then (chk ((0 : Int) ≤ v1 ∧ v1 < (s.size : Int))).bind fun u3 =>
   if (decide (((s.data.toList.getD v1.toNat 0).toNat : Int) < 48)) = true then some true else (chk ((0 : Int) ≤ v1 ∧ v1 < (s.size : Int))).bind fun u4 =>
   some (decide (57 < ((s.data.toList.getD v1.toNat 0).toNat : Int))) else (chk ((0 : Int) ≤ v1 ∧ v1 < (s.size : Int))).bind fun u5 =>
   if (decide (122 < ((s.data.toList.getD v1.toNat 0).toNat : Int))) = true then (chk ((0 : Int) ≤ v1 ∧ v1 < (s.size : Int))).bind fun u6 =>
   if (decide (((s.data.toList.getD v1.toNat 0).toNat : Int) < 48)) = true then some true else (chk ((0 : Int) ≤ v1 ∧ v1 < (s.size : Int))).bind fun u7 =>
   some (decide (57 < ((s.data.toList.getD v1.toNat 0).toNat : Int))) else some false).bind fun (v2 : Bool) =>
   if v2 = true then
    some (.dn (.ret false))
   else
    some (.nx (w64 (v1 + 1)))
  else
   some (.dn (.go ()))
noncomputable def s_l2Name (s : ByteArray) : Option (Bool) :=
 (s_l1In (s.size : Int) 1 8).bind fun r =>
 (if (!r) = true then some true else (chk ((0 : Int) ≤ 0 ∧ 0 < (s.size : Int))).bind fun u =>
 if (decide (((s.data.toList.getD (0 : Int).toNat 0).toNat : Int) < 97)) = true then some true else (chk ((0 : Int) ≤ 0 ∧ 0 < (s.size : Int))).bind fun u1 =>
 some (decide (122 < ((s.data.toList.getD (0 : Int).toNat 0).toNat : Int)))).bind fun (v : Bool) =>
 if v = true then
  some false
 else
  flb (iter (s_l2Name_L1 s) (0 : Int)) fun (_ : Unit) =>
  some true
noncomputable def s_l2Find_L1 (list : List ByteArray) (name : ByteArray) : Int → Option (Lp (Int) (Fl (Int) (Unit)))
 | v =>
  if (decide (v < (list.length : Int))) = true then
   (idx list v).bind fun e =>
   if (e.toList == name.toList) = true then
    some (.dn (.ret v))
   else
    some (.nx (w64 (v + 1)))
  else
   some (.dn (.go ()))
noncomputable def s_l2Find (list : List ByteArray) (name : ByteArray) : Option (Int) :=
 flb (iter (s_l2Find_L1 list name) (0 : Int)) fun (_ : Unit) =>
 some (-1)
noncomputable def s_l2Line_L1 (x : Line) (stops : Int) : Int → Option (Lp (Int) (Fl (Bool) (Unit)))
 | v1 =>
  if (decide (v1 < (x.Stops.length : Int))) = true then
   (idx x.Stops v1).bind fun e2 =>
   (s_l1In e2 0 (w64 (stops - 1))).bind fun r4 =>
   (if (!r4) = true then some true else (idx x.Stops v1).bind fun e3 =>
   (s_l2Place x e3).bind fun r5 =>
   some (r5 != v1)).bind fun (v2 : Bool) =>
   if v2 = true then
    some (.dn (.ret false))
   else
    some (.nx (w64 (v1 + 1)))
  else
   some (.dn (.go ()))
noncomputable def s_l2Line_L2 (x : Line) : Int → Option (Lp (Int) (Fl (Bool) (Unit)))
 | v3 =>
  if (decide (v3 < (x.Runs.length : Int))) = true then
   (idx x.Runs v3).bind fun e5 =>
   (s_l1In e5 1 60).bind fun r7 =>
   if (!r7) = true then
    some (.dn (.ret false))
   else
    some (.nx (w64 (v3 + 1)))
  else
   some (.dn (.go ()))
noncomputable def s_l2Line (x : Line) (stops : Int) : Option (Bool) :=
 (s_l2Name x.Name).bind fun r =>
 (if (!r) = true then some true else (s_l1In (x.Stops.length : Int) 2 6).bind fun r1 =>
 if (!r1) = true then some true else some ((x.Runs.length : Int) != (w64 ((x.Stops.length : Int) - 1)))).bind fun (v : Bool) =>
 if v = true then
  some false
 else
  flb (iter (s_l2Line_L1 x stops) (0 : Int)) fun (_ : Unit) =>
  flb (iter (s_l2Line_L2 x) (0 : Int)) fun (_ : Unit) =>
  some true
noncomputable def s_l2LineNamed_L1 (n : Network) (name : ByteArray) : Int → Option (Lp (Int) (Fl (Int) (Unit)))
 | v =>
  if (decide (v < (n.Lines.length : Int))) = true then
   (idx n.Lines v).bind fun e =>
   if (e.Name.toList == name.toList) = true then
    some (.dn (.ret v))
   else
    some (.nx (w64 (v + 1)))
  else
   some (.dn (.go ()))
noncomputable def s_l2LineNamed (n : Network) (name : ByteArray) : Option (Int) :=
 flb (iter (s_l2LineNamed_L1 n name) (0 : Int)) fun (_ : Unit) =>
 some (-1)
noncomputable def s_l2Good_L1 (n : Network) : Int → Option (Lp (Int) (Fl (Bool) (Unit)))
 | i =>
  if (decide (i < (n.Stops.length : Int))) = true then
   (idx n.Stops i).bind fun e2 =>
   (s_l2Name e2).bind fun r4 =>
   (if (!r4) = true then some true else (idx n.Stops i).bind fun e3 =>
   (s_l2Find n.Stops e3).bind fun r5 =>
   some (r5 != i)).bind fun (v1 : Bool) =>
   if v1 = true then
    some (.dn (.ret false))
   else
    some (.nx (w64 (i + 1)))
  else
   some (.dn (.go ()))
noncomputable def s_l2Good_L2 (n : Network) : Int → Option (Lp (Int) (Fl (Bool) (Unit)))
 | v2 =>
  if (decide (v2 < (n.Lines.length : Int))) = true then
   (idx n.Lines v2).bind fun e7 =>
   (s_l2Line e7 (n.Stops.length : Int)).bind fun r9 =>
   (if (!r9) = true then some true else (idx n.Lines v2).bind fun e8 =>
   (s_l2LineNamed n e8.Name).bind fun r10 =>
   some (r10 != v2)).bind fun (v3 : Bool) =>
   if v3 = true then
    some (.dn (.ret false))
   else
    some (.nx (w64 (v2 + 1)))
  else
   some (.dn (.go ()))
noncomputable def s_l2Good (n : Network) : Option (Bool) :=
 (s_l1In (n.Stops.length : Int) 2 8).bind fun r =>
 (if (!r) = true then some true else (s_l1In (n.Lines.length : Int) 1 5).bind fun r1 =>
 some (!r1)).bind fun (v : Bool) =>
 if v = true then
  some false
 else
  flb (iter (s_l2Good_L1 n) (0 : Int)) fun (_ : Unit) =>
  flb (iter (s_l2Good_L2 n) (0 : Int)) fun (_ : Unit) =>
  some true
noncomputable def s_l21Zones_L1 (zones : List Int) : Int → Option (Lp (Int) (Fl (Bool) (Unit)))
 | v1 =>
  if (decide (v1 < (zones.length : Int))) = true then
   (idx zones v1).bind fun e =>
   (s_l1In e 1 9).bind fun r1 =>
   if (!r1) = true then
    some (.dn (.ret false))
   else
    some (.nx (w64 (v1 + 1)))
  else
   some (.dn (.go ()))
noncomputable def s_l21Zones (n : Network) (zones : List Int) : Option (Bool) :=
 (s_l2Good n).bind fun r =>
 (if (!r) = true then some true else some ((zones.length : Int) != (n.Stops.length : Int))).bind fun (v : Bool) =>
 if v = true then
  some false
 else
  flb (iter (s_l21Zones_L1 zones) (0 : Int)) fun (_ : Unit) =>
  some true
noncomputable def s_l1Put_L1 (l : List Int) (n : Int) : Int → Option (Lp (Int) (Int))
 | v =>
  (if (decide (v < (l.length : Int))) = true then (idx l v).bind fun e =>
  some (decide (e < n)) else some false).bind fun (v1 : Bool) =>
  if v1 = true then
   some (.nx (w64 (v + 1)))
  else
   some (.dn v)
noncomputable def s_l1Put (l : List Int) (n : Int) : Option ((List Int)) :=
 (iter (s_l1Put_L1 l n) (0 : Int)).bind fun (v2 : Int) =>
 (if (decide (v2 < (l.length : Int))) = true then (idx l v2).bind fun e1 =>
 some (e1 == n) else some false).bind fun (v3 : Bool) =>
 if v3 = true then
  some l
 else
  (chk ((0 : Int) ≤ 0 ∧ 0 ≤ v2 ∧ v2 ≤ (l.length : Int))).bind fun u5 =>
  (chk (([] : List Int).length + ((l.take v2.toNat).drop (0 : Int).toNat).length ≤ 4294967296)).bind fun u6 =>
  (chk ((([] : List Int) ++ ((l.take v2.toNat).drop (0 : Int).toNat)).length + ([n] : List Int).length ≤ 4294967296)).bind fun u7 =>
  (chk ((0 : Int) ≤ v2 ∧ v2 ≤ (l.length : Int))).bind fun u8 =>
  (chk (((([] : List Int) ++ ((l.take v2.toNat).drop (0 : Int).toNat)) ++ ([n] : List Int)).length + (l.drop v2.toNat).length ≤ 4294967296)).bind fun u9 =>
  some (((([] : List Int) ++ ((l.take v2.toNat).drop (0 : Int).toNat)) ++ ([n] : List Int)) ++ (l.drop v2.toNat))
noncomputable def s_l21Touched_L1 (n : Network) (zones : List Int) (line : Int) (to : Int) : (List Int) × Int → Option (Lp ((List Int) × Int) ((List Int)))
 | (list1, v1) =>
  if (decide (v1 ≤ to)) = true then
   (idx n.Lines line).bind fun e1 =>
   (idx e1.Stops v1).bind fun e2 =>
   (idx zones e2).bind fun e3 =>
   (s_l1Put list1 e3).bind fun r3 =>
   some (.nx (r3, (w64 (v1 + 1))))
  else
   some (.dn list1)
noncomputable def s_l21Touched (n : Network) (zones : List Int) (list : List Int) (line : Int) (from_ : Int) (to : Int) : Option ((List Int) × Bool) :=
 (s_l1In line 0 (w64 ((n.Lines.length : Int) - 1))).bind fun r =>
 (if (!r) = true then some true else (idx n.Lines line).bind fun e =>
 (s_l1In to 0 (w64 ((e.Stops.length : Int) - 1))).bind fun r1 =>
 if (!r1) = true then some true else (s_l1In from_ 0 to).bind fun r2 =>
 some (!r2)).bind fun (v : Bool) =>
 if v = true then
  some (([] : List Int), false)
 else
  (iter (s_l21Touched_L1 n zones line to) (list, from_)).bind fun (list2 : List Int) =>
  some (list2, true)
noncomputable def s_l21Touched_m_L1 (n : Network) (zones : List Int) (line : Int) (to : Int) : (List Int) × Int → Option (Lp ((List Int) × Int) ((List Int)))
 | (list1, v1) =>
  if (decide (v1 ≤ to)) = true then
   (idx n.Lines line).bind fun e1 =>
   (idx e1.Stops v1).bind fun e2 =>
   (idx zones e2).bind fun e3 =>
   (s_l1Put list1 e3).bind fun r3 =>
   some (.nx (r3, (w64 (v1 + 1))))
  else
   some (.dn list1)
noncomputable def s_l21Touched_m (n : Network) (zones : List Int) (list : List Int) (line : Int) (from_ : Int) (to : Int) : Option ((List Int) × Bool) :=
 (s_l1In line 0 (w64 ((n.Lines.length : Int) - 1))).bind fun r =>
 (if (!r) = true then some true else (idx n.Lines line).bind fun e =>
 (s_l1In to 0 (w64 ((e.Stops.length : Int) - 1))).bind fun r1 =>
 if (!r1) = true then some true else (s_l1In from_ 0 to).bind fun r2 =>
 some (!r2)).bind fun (v : Bool) =>
 if v = true then
  some (([] : List Int), false)
 else
  (iter (s_l21Touched_m_L1 n zones line to) (list, from_)).bind fun (list2 : List Int) =>
  some (list2, true)
noncomputable def s_l21Prices_L1 (p : Prices) : Int → Option (Lp (Int) (Fl (Bool) (Unit)))
 | v =>
  if (decide (v < (p.Zones.length : Int))) = true then
   (idx p.Zones v).bind fun e3 =>
   (s_l1In e3 0 10000).bind fun r1 =>
   (if (!r1) = true then some true else if (decide (0 < v)) = true then (idx p.Zones (w64 (v - 1))).bind fun e4 =>
   (idx p.Zones v).bind fun e5 =>
   some (decide (e5 < e4)) else some false).bind fun (v1 : Bool) =>
   if v1 = true then
    some (.dn (.ret false))
   else
    some (.nx (w64 (v + 1)))
  else
   some (.dn (.go ()))
noncomputable def s_l21Prices (p : Prices) : Option (Bool) :=
 flb (iter (s_l21Prices_L1 p) (0 : Int)) fun (_ : Unit) =>
 (s_l1In (p.Zones.length : Int) 1 9).bind fun r3 =>
 (if r3 = true then (s_l1In p.Day 0 10000).bind fun r4 =>
 if r4 = true then (s_l1In p.Week 0 10000).bind fun r5 =>
 some r5 else some false else some false).bind fun (i : Bool) =>
 some i
noncomputable def s_SingleFare (p : Prices) (count : Int) : Option (Int × Bool) :=
 (s_l21Prices p).bind fun r =>
 (if (!r) = true then some true else (s_l1In count 1 9).bind fun r1 =>
 some (!r1)).bind fun (v : Bool) =>
 if v = true then
  some (0, false)
 else
  (s_l1Least count (p.Zones.length : Int)).bind fun r3 =>
  (idx p.Zones (w64 (r3 - 1))).bind fun e1 =>
  some (e1, true)
noncomputable def s_JourneyFare_L1 (n : Network) (zones : List Int) (legs : List (List Int)) : (List Int) × Int → Option (Lp ((List Int) × Int) (Fl (Int × Bool) ((List Int))))
 | (v1, v2) =>
  if (decide (v2 < (legs.length : Int))) = true then
   (idx legs v2).bind fun e =>
   if ((e.length : Int) != 3) = true then
    some (.dn (.ret (0, false)))
   else
    (idx legs v2).bind fun e8 =>
    (idx e8 0).bind fun e9 =>
    (idx legs v2).bind fun e10 =>
    (idx e10 1).bind fun e11 =>
    (idx legs v2).bind fun e12 =>
    (idx e12 2).bind fun e13 =>
    (s_l21Touched n zones v1 e9 e11 e13).bind fun r4 =>
    if (!r4.2) = true then
     some (.dn (.ret (0, false)))
    else
     some (.nx (r4.1, (w64 (v2 + 1))))
  else
   some (.dn (.go v1))
noncomputable def s_JourneyFare (n : Network) (zones : List Int) (p : Prices) (legs : List (List Int)) : Option (Int × Bool) :=
 (s_l21Zones n zones).bind fun r =>
 (if (!r) = true then some true else (s_l1In (legs.length : Int) 1 6).bind fun r1 =>
 some (!r1)).bind fun (v : Bool) =>
 if v = true then
  some (0, false)
 else
  flb (iter (s_JourneyFare_L1 n zones legs) (([] : List Int), (0 : Int))) fun (v3 : List Int) =>
  (s_SingleFare p (v3.length : Int)).bind fun r6 =>
  some (r6.1, r6.2)
noncomputable def i_ZonesTouched_L1 (r2 : Int) : Int × (List Int) → Option (Lp (Int × (List Int)) ((List Int)))
 | (v1, v2) =>
  if (decide (v1 ≤ 9)) = true then
   ((chk ((0 : Int) ≤ v1)).bind fun u =>
   if ((IntKind.i64.wrap ((BitVec.ofInt (IntKind.i64).bits (r2.fdiv (2 ^ (min (v1 : Int).toNat (IntKind.i64).bits))) &&& BitVec.ofInt (IntKind.i64).bits 1).toNat : Int)) == 1) = true then
    (chk (v2.length + ([v1] : List Int).length ≤ 4294967296)).bind fun u1 =>
    some (v2 ++ ([v1] : List Int))
   else
    some v2).bind fun (v3 : List Int) =>
   some (.nx ((w64 (v1 + 1)), v3))
  else
   some (.dn v2)
noncomputable def i_ZonesTouched (n : Network) (zones : List Int) (line : Int) (from_ : Int) (to : Int) : Option ((List Int) × Bool) :=
 (i_IsValidZones n zones).bind fun r =>
 (if (!r) = true then some true else (i_arePlaces n line from_ to).bind fun r1 =>
 some (!r1)).bind fun (v : Bool) =>
 if v = true then
  some (([] : List Int), false)
 else
  (i_touched n zones line from_ to).bind fun r2 =>
  (iter (i_ZonesTouched_L1 r2) ((1 : Int), ([] : List Int))).bind fun (v4 : List Int) =>
  some (v4, true)
noncomputable def i_ZonesTouched_w_L1 (r2 : Int) : Int × (List Int) → Option (Lp (Int × (List Int)) ((List Int)))
 | (v1, v2) =>
  if (decide (v1 ≤ 9)) = true then
   ((chk ((0 : Int) ≤ v1)).bind fun u =>
   if ((IntKind.i64.wrap ((BitVec.ofInt (IntKind.i64).bits (r2.fdiv (2 ^ (min (v1 : Int).toNat (IntKind.i64).bits))) &&& BitVec.ofInt (IntKind.i64).bits 1).toNat : Int)) == 1) = true then
    (chk (v2.length + ([v1] : List Int).length ≤ 4294967296)).bind fun u1 =>
    some (v2 ++ ([v1] : List Int))
   else
    some v2).bind fun (v3 : List Int) =>
   some (.nx ((w64 (v1 + 1)), v3))
  else
   some (.dn v2)
noncomputable def i_ZonesTouched_w (n : Network) (zones : List Int) (line : Int) (from_ : Int) (to : Int) : Option ((List Int) × Bool) :=
 (i_IsValidZones n zones).bind fun r =>
 (if (!r) = true then some true else (i_arePlaces n line from_ to).bind fun r1 =>
 some (!r1)).bind fun (v : Bool) =>
 if v = true then
  some (([] : List Int), false)
 else
  (i_touched n zones line from_ to).bind fun r2 =>
  (iter (i_ZonesTouched_w_L1 r2) ((1 : Int), ([] : List Int))).bind fun (v4 : List Int) =>
  some (v4, true)
noncomputable def v_rHas_L1 (list : List Int) (x : Int) : Int → Option (Lp (Int) (Fl (Bool) (Unit)))
 | v =>
  if (decide (v < (list.length : Int))) = true then
   (idx list v).bind fun e =>
   if (e == x) = true then
    some (.dn (.ret true))
   else
    some (.nx (w64 (v + 1)))
  else
   some (.dn (.go ()))
noncomputable def v_rHas (list : List Int) (x : Int) : Option (Bool) :=
 flb (iter (v_rHas_L1 list x) (0 : Int)) fun (_ : Unit) =>
 some false
noncomputable def s_DrawSingleFare (code : List UInt8) : Option (Prices × Int) :=
 (s_l1Cur_prices (⟨code, 0, (⟨0⟩ : IK .u64)⟩ : l1Cur)).bind fun r =>
 (s_l1Cur_pick r.2 24).bind fun r1 =>
 (chk ((11 : Int) ≠ 0)).bind fun u =>
 (chk ((0 : Int) ≤ 0 ∧ 0 ≤ (w64 (5 + (w64 (r1.1.tdiv 11)))) ∧ (w64 (5 + (w64 (r1.1.tdiv 11)))) ≤ (([1, 2, 3, 4, 9, 0, 10] : List Int).length : Int))).bind fun u1 =>
 (s_l1Cur_among r1.2 ((([1, 2, 3, 4, 9, 0, 10] : List Int).take (w64 (5 + (w64 (r1.1.tdiv 11)))).toNat).drop (0 : Int).toNat)).bind fun r2 =>
 some (r.1, r2.1)
noncomputable def s_DrawSplitRevenue_L1 : Int × (List UInt8) × Int × Int × (List Int) → Option (Lp (Int × (List UInt8) × Int × Int × (List Int)) ((List UInt8) × Int × Int × (List Int)))
 | (v, v1, v2, v3, n) =>
  if (decide (0 < v)) = true then
   (s_l1Cur_among (⟨v1, v2, (⟨v3⟩ : IK .u64)⟩ : l1Cur) ([0, 1, 7, 10, 30, 10000] : List Int)).bind fun r1 =>
   (chk (n.length + ([r1.1] : List Int).length ≤ 4294967296)).bind fun u =>
   some (.nx ((w64 (v - 1)), r1.2.code_, r1.2.at_, r1.2.seed_.v, (n ++ ([r1.1] : List Int))))
  else
   some (.dn (v1, v2, v3, n))
noncomputable def s_DrawSplitRevenue_L2 : (List UInt8) × Int × Int × (List Int) → Option (Lp ((List UInt8) × Int × Int × (List Int)) ((List UInt8) × Int × Int × (List Int)))
 | (v10, v11, v12, n3) =>
  (s_l1Cur_pick (⟨v10, v11, (⟨v12⟩ : IK .u64)⟩ : l1Cur) 2).bind fun r4 =>
  if (decide ((n3.length : Int) < (w64 (10 + r4.1)))) = true then
   (chk (n3.length + ([3] : List Int).length ≤ 4294967296)).bind fun u1 =>
   some (.nx (r4.2.code_, r4.2.at_, r4.2.seed_.v, (n3 ++ ([3] : List Int))))
  else
   some (.dn (r4.2.code_, r4.2.at_, r4.2.seed_.v, n3))
noncomputable def s_DrawSplitRevenue (code : List UInt8) : Option (Int × (List Int)) :=
 (s_l1Cur_pick (⟨code, 0, (⟨0⟩ : IK .u64)⟩ : l1Cur) 5).bind fun r =>
 (iter (s_DrawSplitRevenue_L1) ((w64 (1 + r.1)), r.2.code_, r.2.at_, r.2.seed_.v, ([] : List Int))).bind fun ((v4, v5, v6, n1) : (List UInt8) × Int × Int × (List Int)) =>
 ((s_l1Cur_pick (⟨v4, v5, (⟨v6⟩ : IK .u64)⟩ : l1Cur) 40).bind fun r2 =>
 if (r2.1 == 0) = true then
  (s_l1Cur_among r2.2 ([(-1), 10001] : List Int)).bind fun r3 =>
  (idx n1 0).bind fun e =>
  some (r3.2.code_, r3.2.at_, r3.2.seed_.v, (n1.set (0 : Int).toNat r3.1))
 else
  if (r2.1 == 1) = true then
   (iter (s_DrawSplitRevenue_L2) (r2.2.code_, r2.2.at_, r2.2.seed_.v, n1)).bind fun ((v13, v14, v15, n4) : (List UInt8) × Int × Int × (List Int)) =>
   some (v13, v14, v15, n4)
  else
   some (r2.2.code_, r2.2.at_, r2.2.seed_.v, n1)).bind fun ((v7, v8, v9, n2) : (List UInt8) × Int × Int × (List Int)) =>
 (s_l1Cur_pick (⟨v7, v8, (⟨v9⟩ : IK .u64)⟩ : l1Cur) 24).bind fun r5 =>
 (chk ((11 : Int) ≠ 0)).bind fun u2 =>
 (chk ((0 : Int) ≤ 0 ∧ 0 ≤ (w64 (6 + (w64 (r5.1.tdiv 11)))) ∧ (w64 (6 + (w64 (r5.1.tdiv 11)))) ≤ (([0, 1, 100, 1000, 999999, 1000000, (-1), 1000001] : List Int).length : Int))).bind fun u3 =>
 (s_l1Cur_among r5.2 ((([0, 1, 100, 1000, 999999, 1000000, (-1), 1000001] : List Int).take (w64 (6 + (w64 (r5.1.tdiv 11)))).toNat).drop (0 : Int).toNat)).bind fun r6 =>
 some (r6.1, n2)
noncomputable def i_total_L1 (list : List Int) : Int × Int → Option (Lp (Int × Int) (Int))
 | (v, v1) =>
  if (decide (v1 < (list.length : Int))) = true then
   (idx list v1).bind fun e =>
   some (.nx ((w64 (v + e)), (w64 (v1 + 1))))
  else
   some (.dn v)
noncomputable def i_total (list : List Int) : Option (Int) :=
 (iter (i_total_L1 list) ((0 : Int), (0 : Int))).bind fun (v2 : Int) =>
 some v2
noncomputable def cmp_Compare_int (x : Int) (y_ : Int) : Option (Int) :=
 (cmp_isNaN_int x).bind fun r =>
 (cmp_isNaN_int y_).bind fun r1 =>
 if r = true then
  if r1 = true then
   some 0
  else
   some (-1)
 else
  if r1 = true then
   some 1
  else
   if (decide (x < y_)) = true then
    some (-1)
   else
    if (decide (y_ < x)) = true then
     some 1
    else
     some 0
noncomputable def i_SplitRevenue_1 (a : Int) (b : Int) (c1 : Int) (c2 : List Int) (c3 : Int) : Option (Int) :=
 (idx c2 b).bind fun e2 =>
 (chk ((c3 : Int) ≠ 0)).bind fun u2 =>
 (idx c2 a).bind fun e3 =>
 (chk ((c3 : Int) ≠ 0)).bind fun u3 =>
 (cmp_Compare_int ((w64 (c1 * e2)).tmod c3) ((w64 (c1 * e3)).tmod c3)).bind fun r1 =>
 some r1
noncomputable def slices_insertionSortCmpFunc_int_w_L1 (a : Int) (cmp : Int → Int → Option (Int)) : Int × (List Int) → Option (Lp (Int × (List Int)) ((List Int)))
 | (v1, data2) =>
  (if (decide (a < v1)) = true then (idx data2 v1).bind fun e2 =>
  (idx data2 (w64 (v1 - 1))).bind fun e3 =>
  (cmp e2 e3).bind fun r1 =>
  some (decide (r1 < 0)) else some false).bind fun (v2 : Bool) =>
  if v2 = true then
   (idx data2 (w64 (v1 - 1))).bind fun e8 =>
   (idx data2 v1).bind fun e9 =>
   (idx data2 v1).bind fun e10 =>
   (idx (data2.set v1.toNat e8) (w64 (v1 - 1))).bind fun e11 =>
   some (.nx ((w64 (v1 - 1)), ((data2.set v1.toNat e8).set (w64 (v1 - 1)).toNat e9)))
  else
   some (.dn data2)
noncomputable def slices_insertionSortCmpFunc_int_w_L2 (a : Int) (b : Int) (cmp : Int → Int → Option (Int)) : Int × (List Int) → Option (Lp (Int × (List Int)) ((List Int)))
 | (v, data1) =>
  if (decide (v < b)) = true then
   (iter (slices_insertionSortCmpFunc_int_w_L1 a cmp) (v, data1)).bind fun (data3 : List Int) =>
   some (.nx ((w64 (v + 1)), data3))
  else
   some (.dn data1)
noncomputable def slices_insertionSortCmpFunc_int_w (data : List Int) (a : Int) (b : Int) (cmp : Int → Int → Option (Int)) : Option ((List Int)) :=
 iter (slices_insertionSortCmpFunc_int_w_L2 a b cmp) ((w64 (a + 1)), data)
noncomputable def slices_insertionSortCmpFunc_int_w__i_SplitRevenue_1 (data : List Int) (a : Int) (b : Int) (c1 : Int) (c2 : List Int) (c3 : Int) : Option ((List Int)) :=
 slices_insertionSortCmpFunc_int_w data a b (fun (z0 : Int) (z1 : Int) => i_SplitRevenue_1 z0 z1 c1 c2 c3)
noncomputable def slices_swapRangeCmpFunc_int_w_L1 (a : Int) (b : Int) (n : Int) : Int × (List Int) → Option (Lp (Int × (List Int)) ((List Int)))
 | (v, data1) =>
  if (decide (v < n)) = true then
   (idx data1 (w64 (b + v))).bind fun e4 =>
   (idx data1 (w64 (a + v))).bind fun e5 =>
   (idx data1 (w64 (a + v))).bind fun e6 =>
   (idx (data1.set (w64 (a + v)).toNat e4) (w64 (b + v))).bind fun e7 =>
   some (.nx ((w64 (v + 1)), ((data1.set (w64 (a + v)).toNat e4).set (w64 (b + v)).toNat e5)))
  else
   some (.dn data1)
noncomputable def slices_swapRangeCmpFunc_int_w (data : List Int) (a : Int) (b : Int) (n : Int) (cmp : Int → Int → Option (Int)) : Option ((List Int)) :=
 iter (slices_swapRangeCmpFunc_int_w_L1 a b n) ((0 : Int), data)
noncomputable def slices_swapRangeCmpFunc_int_w__i_SplitRevenue_1 (data : List Int) (a : Int) (b : Int) (n : Int) (c1 : Int) (c2 : List Int) (c3 : Int) : Option ((List Int)) :=
 slices_swapRangeCmpFunc_int_w data a b n (fun (z0 : Int) (z1 : Int) => i_SplitRevenue_1 z0 z1 c1 c2 c3)
noncomputable def slices_rotateCmpFunc_int_w_L1 (m : Int) (cmp : Int → Int → Option (Int)) : Int × Int × (List Int) → Option (Lp (Int × Int × (List Int)) (Int × (List Int)))
 | (v, v1, data1) =>
  if (v != v1) = true then
   if (decide (v1 < v)) = true then
    (slices_swapRangeCmpFunc_int_w data1 (w64 (m - v)) m v1 cmp).bind fun r =>
    some (.nx ((w64 (v - v1)), v1, r))
   else
    (slices_swapRangeCmpFunc_int_w data1 (w64 (m - v)) (w64 ((w64 (m + v1)) - v)) v cmp).bind fun r1 =>
    some (.nx (v, (w64 (v1 - v)), r1))
  else
   some (.dn (v, data1))
noncomputable def slices_rotateCmpFunc_int_w (data : List Int) (a : Int) (m : Int) (b : Int) (cmp : Int → Int → Option (Int)) : Option ((List Int)) :=
 (iter (slices_rotateCmpFunc_int_w_L1 m cmp) ((w64 (m - a)), (w64 (b - m)), data)).bind fun ((v2, data2) : Int × (List Int)) =>
 (slices_swapRangeCmpFunc_int_w data2 (w64 (m - v2)) m v2 cmp).bind fun r2 =>
 some r2
noncomputable def slices_rotateCmpFunc_int_w__i_SplitRevenue_1 (data : List Int) (a : Int) (m : Int) (b : Int) (c1 : Int) (c2 : List Int) (c3 : Int) : Option ((List Int)) :=
 slices_rotateCmpFunc_int_w data a m b (fun (z0 : Int) (z1 : Int) => i_SplitRevenue_1 z0 z1 c1 c2 c3)
noncomputable def slices_symMergeCmpFunc_int_w__i_SplitRevenue_1_L1 (data : List Int) (a : Int) (c1 : Int) (c2 : List Int) (c3 : Int) : Int × Int → Option (Lp (Int × Int) (Int))
 | (j, h) =>
  if (decide (j < h)) = true then
   (chk ((0 : Int) ≤ 1)).bind fun u =>
   (idx data (w64 (((IntKind.u64.wrap ((w64 (j + h)))).fdiv (2 ^ (min (1 : Int).toNat (IntKind.u64).bits)))))).bind fun e2 =>
   (idx data a).bind fun e3 =>
   (i_SplitRevenue_1 e2 e3 c1 c2 c3).bind fun r1 =>
   if (decide (r1 < 0)) = true then
    some (.nx ((w64 ((w64 (((IntKind.u64.wrap ((w64 (j + h)))).fdiv (2 ^ (min (1 : Int).toNat (IntKind.u64).bits))))) + 1)), h))
   else
    some (.nx (j, (w64 (((IntKind.u64.wrap ((w64 (j + h)))).fdiv (2 ^ (min (1 : Int).toNat (IntKind.u64).bits)))))))
  else
   some (.dn j)
noncomputable def slices_symMergeCmpFunc_int_w__i_SplitRevenue_1_L2 (j1 : Int) : Int × (List Int) → Option (Lp (Int × (List Int)) ((List Int)))
 | (mid, data1) =>
  if (decide (mid < (w64 (j1 - 1)))) = true then
   (idx data1 (w64 (mid + 1))).bind fun e8 =>
   (idx data1 mid).bind fun e9 =>
   (idx data1 mid).bind fun e10 =>
   (idx (data1.set mid.toNat e8) (w64 (mid + 1))).bind fun e11 =>
   some (.nx ((w64 (mid + 1)), ((data1.set mid.toNat e8).set (w64 (mid + 1)).toNat e9)))
  else
   some (.dn data1)
noncomputable def slices_symMergeCmpFunc_int_w__i_SplitRevenue_1_L3 (data : List Int) (m : Int) (c1 : Int) (c2 : List Int) (c3 : Int) : Int × Int → Option (Lp (Int × Int) (Int))
 | (n, start) =>
  if (decide (n < start)) = true then
   (chk ((0 : Int) ≤ 1)).bind fun u1 =>
   (idx data m).bind fun e14 =>
   (idx data (w64 (((IntKind.u64.wrap ((w64 (n + start)))).fdiv (2 ^ (min (1 : Int).toNat (IntKind.u64).bits)))))).bind fun e15 =>
   (i_SplitRevenue_1 e14 e15 c1 c2 c3).bind fun r3 =>
   if (!(decide (r3 < 0))) = true then
    some (.nx ((w64 ((w64 (((IntKind.u64.wrap ((w64 (n + start)))).fdiv (2 ^ (min (1 : Int).toNat (IntKind.u64).bits))))) + 1)), start))
   else
    some (.nx (n, (w64 (((IntKind.u64.wrap ((w64 (n + start)))).fdiv (2 ^ (min (1 : Int).toNat (IntKind.u64).bits)))))))
  else
   some (.dn n)
noncomputable def slices_symMergeCmpFunc_int_w__i_SplitRevenue_1_L4 (n1 : Int) : Int × (List Int) → Option (Lp (Int × (List Int)) ((List Int)))
 | (p, data3) =>
  if (decide (n1 < p)) = true then
   (idx data3 (w64 (p - 1))).bind fun e20 =>
   (idx data3 p).bind fun e21 =>
   (idx data3 p).bind fun e22 =>
   (idx (data3.set p.toNat e20) (w64 (p - 1))).bind fun e23 =>
   some (.nx ((w64 (p - 1)), ((data3.set p.toNat e20).set (w64 (p - 1)).toNat e21)))
  else
   some (.dn data3)
noncomputable def slices_symMergeCmpFunc_int_w__i_SplitRevenue_1_L5 (data : List Int) (a : Int) (m : Int) (b : Int) (c1 : Int) (c2 : List Int) (c3 : Int) : Int × Int → Option (Lp (Int × Int) (Int))
 | (v2, v3) =>
  if (decide (v2 < v3)) = true then
   (chk ((0 : Int) ≤ 1)).bind fun u3 =>
   (idx data (w64 ((w64 ((w64 ((w64 (((IntKind.u64.wrap ((w64 (a + b)))).fdiv (2 ^ (min (1 : Int).toNat (IntKind.u64).bits))))) + m)) - 1)) - (w64 (((IntKind.u64.wrap ((w64 (v2 + v3)))).fdiv (2 ^ (min (1 : Int).toNat (IntKind.u64).bits)))))))).bind fun e26 =>
   (idx data (w64 (((IntKind.u64.wrap ((w64 (v2 + v3)))).fdiv (2 ^ (min (1 : Int).toNat (IntKind.u64).bits)))))).bind fun e27 =>
   (i_SplitRevenue_1 e26 e27 c1 c2 c3).bind fun r5 =>
   if (!(decide (r5 < 0))) = true then
    some (.nx ((w64 ((w64 (((IntKind.u64.wrap ((w64 (v2 + v3)))).fdiv (2 ^ (min (1 : Int).toNat (IntKind.u64).bits))))) + 1)), v3))
   else
    some (.nx (v2, (w64 (((IntKind.u64.wrap ((w64 (v2 + v3)))).fdiv (2 ^ (min (1 : Int).toNat (IntKind.u64).bits)))))))
  else
   some (.dn v2)
noncomputable def slices_symMergeCmpFunc_int_w__i_SplitRevenue_1_F (rec_ : (List Int) → Int → Int → Int → Int → (List Int) → Int → Option ((List Int))) (data : List Int) (a : Int) (m : Int) (b : Int) (c1 : Int) (c2 : List Int) (c3 : Int) : Option ((List Int)) :=
 if ((w64 (m - a)) == 1) = true then
  (iter (slices_symMergeCmpFunc_int_w__i_SplitRevenue_1_L1 data a c1 c2 c3) (m, b)).bind fun (j1 : Int) =>
  (iter (slices_symMergeCmpFunc_int_w__i_SplitRevenue_1_L2 j1) (a, data)).bind fun (data2 : List Int) =>
  some data2
 else
  if ((w64 (b - m)) == 1) = true then
   (iter (slices_symMergeCmpFunc_int_w__i_SplitRevenue_1_L3 data m c1 c2 c3) (a, m)).bind fun (n1 : Int) =>
   (iter (slices_symMergeCmpFunc_int_w__i_SplitRevenue_1_L4 n1) (m, data)).bind fun (data4 : List Int) =>
   some data4
  else
   (chk ((0 : Int) ≤ 1)).bind fun u2 =>
   (if (decide ((w64 (((IntKind.u64.wrap ((w64 (a + b)))).fdiv (2 ^ (min (1 : Int).toNat (IntKind.u64).bits))))) < m)) = true then
    some ((w64 ((w64 ((w64 (((IntKind.u64.wrap ((w64 (a + b)))).fdiv (2 ^ (min (1 : Int).toNat (IntKind.u64).bits))))) + m)) - b)), (w64 (((IntKind.u64.wrap ((w64 (a + b)))).fdiv (2 ^ (min (1 : Int).toNat (IntKind.u64).bits))))))
   else
    some (a, m)).bind fun ((v, v1) : Int × Int) =>
   (iter (slices_symMergeCmpFunc_int_w__i_SplitRevenue_1_L5 data a m b c1 c2 c3) (v, v1)).bind fun (v4 : Int) =>
   ((if (decide (v4 < m)) = true then some (decide (m < (w64 ((w64 ((w64 (((IntKind.u64.wrap ((w64 (a + b)))).fdiv (2 ^ (min (1 : Int).toNat (IntKind.u64).bits))))) + m)) - v4)))) else some false).bind fun (v5 : Bool) =>
   if v5 = true then
    (slices_rotateCmpFunc_int_w__i_SplitRevenue_1 data v4 m (w64 ((w64 ((w64 (((IntKind.u64.wrap ((w64 (a + b)))).fdiv (2 ^ (min (1 : Int).toNat (IntKind.u64).bits))))) + m)) - v4)) c1 c2 c3).bind fun r6 =>
    some r6
   else
    some data).bind fun (data5 : List Int) =>
   ((if (decide (a < v4)) = true then some (decide (v4 < (w64 (((IntKind.u64.wrap ((w64 (a + b)))).fdiv (2 ^ (min (1 : Int).toNat (IntKind.u64).bits))))))) else some false).bind fun (v6 : Bool) =>
   if v6 = true then
    (rec_ data5 a v4 (w64 (((IntKind.u64.wrap ((w64 (a + b)))).fdiv (2 ^ (min (1 : Int).toNat (IntKind.u64).bits))))) c1 c2 c3).bind fun r7 =>
    some r7
   else
    some data5).bind fun (data6 : List Int) =>
   (if (decide ((w64 (((IntKind.u64.wrap ((w64 (a + b)))).fdiv (2 ^ (min (1 : Int).toNat (IntKind.u64).bits))))) < (w64 ((w64 ((w64 (((IntKind.u64.wrap ((w64 (a + b)))).fdiv (2 ^ (min (1 : Int).toNat (IntKind.u64).bits))))) + m)) - v4)))) = true then some (decide ((w64 ((w64 ((w64 (((IntKind.u64.wrap ((w64 (a + b)))).fdiv (2 ^ (min (1 : Int).toNat (IntKind.u64).bits))))) + m)) - v4)) < b)) else some false).bind fun (v7 : Bool) =>
   if v7 = true then
    (rec_ data6 (w64 (((IntKind.u64.wrap ((w64 (a + b)))).fdiv (2 ^ (min (1 : Int).toNat (IntKind.u64).bits))))) (w64 ((w64 ((w64 (((IntKind.u64.wrap ((w64 (a + b)))).fdiv (2 ^ (min (1 : Int).toNat (IntKind.u64).bits))))) + m)) - v4)) b c1 c2 c3).bind fun r8 =>
    some r8
   else
    some data6
noncomputable def slices_symMergeCmpFunc_int_w__i_SplitRevenue_1_k : Nat → (List Int) → Int → Int → Int → Int → (List Int) → Int → Option ((List Int))
 | 0 => fun _ _ _ _ _ _ _ => none
 | n + 1 => slices_symMergeCmpFunc_int_w__i_SplitRevenue_1_F (slices_symMergeCmpFunc_int_w__i_SplitRevenue_1_k n)
noncomputable def slices_symMergeCmpFunc_int_w__i_SplitRevenue_1 (data : List Int) (a : Int) (m : Int) (b : Int) (c1 : Int) (c2 : List Int) (c3 : Int) : Option ((List Int)) := slices_symMergeCmpFunc_int_w__i_SplitRevenue_1_k 4294967296 data a m b c1 c2 c3
noncomputable def slices_stableCmpFunc_int_w__i_SplitRevenue_1_L1 (n : Int) (c1 : Int) (c2 : List Int) (c3 : Int) : Int × Int × (List Int) → Option (Lp (Int × Int × (List Int)) (Int × (List Int)))
 | (v, v1, data1) =>
  if (decide (v1 ≤ n)) = true then
   (slices_insertionSortCmpFunc_int_w__i_SplitRevenue_1 data1 v v1 c1 c2 c3).bind fun r =>
   some (.nx (v1, (w64 (v1 + 20)), r))
  else
   some (.dn (v, data1))
noncomputable def slices_stableCmpFunc_int_w__i_SplitRevenue_1_L2 (n : Int) (c1 : Int) (c2 : List Int) (c3 : Int) (m : Int) : Int × Int × (List Int) → Option (Lp (Int × Int × (List Int)) (Int × (List Int)))
 | (v3, v4, data4) =>
  if (decide (v4 ≤ n)) = true then
   (slices_symMergeCmpFunc_int_w__i_SplitRevenue_1 data4 v3 (w64 (v3 + m)) v4 c1 c2 c3).bind fun r2 =>
   some (.nx (v4, (w64 (v4 + (w64 (2 * m)))), r2))
  else
   some (.dn (v3, data4))
noncomputable def slices_stableCmpFunc_int_w__i_SplitRevenue_1_L3 (n : Int) (c1 : Int) (c2 : List Int) (c3 : Int) : Int × (List Int) → Option (Lp (Int × (List Int)) ((List Int)))
 | (m, data3) =>
  if (decide (m < n)) = true then
   (iter (slices_stableCmpFunc_int_w__i_SplitRevenue_1_L2 n c1 c2 c3 m) ((0 : Int), (w64 (2 * m)), data3)).bind fun ((v5, data5) : Int × (List Int)) =>
   (if (decide ((w64 (v5 + m)) < n)) = true then
    (slices_symMergeCmpFunc_int_w__i_SplitRevenue_1 data5 v5 (w64 (v5 + m)) n c1 c2 c3).bind fun r3 =>
    some r3
   else
    some data5).bind fun (data6 : List Int) =>
   some (.nx ((w64 (m * 2)), data6))
  else
   some (.dn data3)
noncomputable def slices_stableCmpFunc_int_w__i_SplitRevenue_1 (data : List Int) (n : Int) (c1 : Int) (c2 : List Int) (c3 : Int) : Option ((List Int)) :=
 (iter (slices_stableCmpFunc_int_w__i_SplitRevenue_1_L1 n c1 c2 c3) ((0 : Int), (20 : Int), data)).bind fun ((v2, data2) : Int × (List Int)) =>
 (slices_insertionSortCmpFunc_int_w__i_SplitRevenue_1 data2 v2 n c1 c2 c3).bind fun r1 =>
 iter (slices_stableCmpFunc_int_w__i_SplitRevenue_1_L3 n c1 c2 c3) ((20 : Int), r1)
noncomputable def slices_SortStableFunc_int_w__i_SplitRevenue_1 (x : List Int) (c1 : Int) (c2 : List Int) (c3 : Int) : Option ((List Int)) :=
 (slices_stableCmpFunc_int_w__i_SplitRevenue_1 x (x.length : Int) c1 c2 c3).bind fun r =>
 some r
noncomputable def i_SplitRevenue_L1 (minutes : List Int) : Int → Option (Lp (Int) (Fl ((List Int) × Bool) (Unit)))
 | v1 =>
  if (decide (v1 < (minutes.length : Int))) = true then
   (idx minutes v1).bind fun e =>
   (i_within e 0 10000).bind fun r2 =>
   if (!r2) = true then
    some (.dn (.ret (([] : List Int), false)))
   else
    some (.nx (w64 (v1 + 1)))
  else
   some (.dn (.go ()))
noncomputable def i_SplitRevenue_L2 (amount : Int) (minutes : List Int) (r4 : Int) : Int × (List Int) × (List Int) → Option (Lp (Int × (List Int) × (List Int)) ((List Int) × (List Int)))
 | (v2, i, m) =>
  if (decide (v2 < (minutes.length : Int))) = true then
   (idx minutes v2).bind fun e2 =>
   (chk ((r4 : Int) ≠ 0)).bind fun u4 =>
   (idx i v2).bind fun e3 =>
   (idx m v2).bind fun e4 =>
   some (.nx ((w64 (v2 + 1)), (i.set v2.toNat (w64 ((w64 (amount * e2)).tdiv r4))), (m.set v2.toNat v2)))
  else
   some (.dn (i, m))
noncomputable def i_SplitRevenue_L3 (amount : Int) (r5 : (List Int)) (r7 : Int) : Int × (List Int) → Option (Lp (Int × (List Int)) ((List Int)))
 | (v3, i2) =>
  if (decide (v3 < (((r5.take (w64 (amount - r7)).toNat).drop (0 : Int).toNat).length : Int))) = true then
   (idx ((r5.take (w64 (amount - r7)).toNat).drop (0 : Int).toNat) v3).bind fun e5 =>
   (idx i2 e5).bind fun e6 =>
   (idx i2 e5).bind fun e7 =>
   some (.nx ((w64 (v3 + 1)), (i2.set e5.toNat (w64 (e6 + 1)))))
  else
   some (.dn i2)
noncomputable def i_SplitRevenue (amount : Int) (minutes : List Int) : Option ((List Int) × Bool) :=
 (i_within amount 0 1000000).bind fun r =>
 (if (!r) = true then some true else (i_within (minutes.length : Int) 1 10).bind fun r1 =>
 some (!r1)).bind fun (v : Bool) =>
 if v = true then
  some (([] : List Int), false)
 else
  flb (iter (i_SplitRevenue_L1 minutes) (0 : Int)) fun (_ : Unit) =>
  (i_total minutes).bind fun r4 =>
  if (r4 == 0) = true then
   some (([] : List Int), false)
  else
   (chk ((0 : Int) ≤ (minutes.length : Int) ∧ ((minutes.length : Int) : Int) ≤ 4294967296)).bind fun u2 =>
   (chk ((0 : Int) ≤ (minutes.length : Int) ∧ ((minutes.length : Int) : Int) ≤ 4294967296)).bind fun u3 =>
   (iter (i_SplitRevenue_L2 amount minutes r4) ((0 : Int), (List.replicate (minutes.length : Int).toNat (0 : Int)), (List.replicate (minutes.length : Int).toNat (0 : Int)))).bind fun ((i1, m1) : (List Int) × (List Int)) =>
   (slices_SortStableFunc_int_w__i_SplitRevenue_1 m1 amount minutes r4).bind fun r5 =>
   (i_total i1).bind fun r7 =>
   (chk ((0 : Int) ≤ 0 ∧ 0 ≤ (w64 (amount - r7)) ∧ (w64 (amount - r7)) ≤ (r5.length : Int))).bind fun u6 =>
   (iter (i_SplitRevenue_L3 amount r5 r7) ((0 : Int), i1)).bind fun (i3 : List Int) =>
   some (i3, true)
noncomputable def s_SplitRevenue_L1 (minutes : List Int) : Int × Int → Option (Lp (Int × Int) (Fl ((List Int) × Bool) (Int)))
 | (out, rest) =>
  if (decide (rest < (minutes.length : Int))) = true then
   (idx minutes rest).bind fun e =>
   (s_l1In e 0 10000).bind fun r2 =>
   if (!r2) = true then
    some (.dn (.ret (([] : List Int), false)))
   else
    (idx minutes rest).bind fun e2 =>
    some (.nx ((w64 (out + e2)), (w64 (rest + 1))))
  else
   some (.dn (.go out))
noncomputable def s_SplitRevenue_L2 (amount : Int) (minutes : List Int) (out1 : Int) : Int × Int × (List Int) × (List Int) → Option (Lp (Int × Int × (List Int) × (List Int)) (Int × (List Int) × (List Int)))
 | (best, i, left, i1) =>
  if (decide (i < (minutes.length : Int))) = true then
   (idx minutes i).bind fun e3 =>
   (chk ((out1 : Int) ≠ 0)).bind fun u =>
   (chk (left.length + ([(w64 ((w64 (amount * e3)).tdiv out1))] : List Int).length ≤ 4294967296)).bind fun u1 =>
   (idx minutes i).bind fun e4 =>
   (chk ((out1 : Int) ≠ 0)).bind fun u2 =>
   (chk (i1.length + ([((w64 (amount * e4)).tmod out1)] : List Int).length ≤ 4294967296)).bind fun u3 =>
   (idx (left ++ ([(w64 ((w64 (amount * e3)).tdiv out1))] : List Int)) i).bind fun e5 =>
   some (.nx ((w64 (best - e5)), (w64 (i + 1)), (left ++ ([(w64 ((w64 (amount * e3)).tdiv out1))] : List Int)), (i1 ++ ([((w64 (amount * e4)).tmod out1)] : List Int))))
  else
   some (.dn (best, left, i1))
noncomputable def s_SplitRevenue_L3 (i3 : List Int) : Int × Int → Option (Lp (Int × Int) (Int))
 | (v1, v2) =>
  if (decide (v2 < (i3.length : Int))) = true then
   ((idx i3 v2).bind fun e8 =>
   (idx i3 v1).bind fun e9 =>
   if (decide (e9 < e8)) = true then
    some v2
   else
    some v1).bind fun (v3 : Int) =>
   some (.nx (v3, (w64 (v2 + 1))))
  else
   some (.dn v1)
noncomputable def s_SplitRevenue_L4 : Int × (List Int) × (List Int) → Option (Lp (Int × (List Int) × (List Int)) ((List Int)))
 | (best2, left2, i3) =>
  if (decide (0 < best2)) = true then
   (iter (s_SplitRevenue_L3 i3) ((0 : Int), (1 : Int))).bind fun (v4 : Int) =>
   (idx left2 v4).bind fun e10 =>
   (idx left2 v4).bind fun e11 =>
   (idx i3 v4).bind fun e12 =>
   some (.nx ((w64 (best2 - 1)), (left2.set v4.toNat (w64 (e10 + 1))), (i3.set v4.toNat (-1))))
  else
   some (.dn left2)
noncomputable def s_SplitRevenue (amount : Int) (minutes : List Int) : Option ((List Int) × Bool) :=
 (s_l1In amount 0 1000000).bind fun r =>
 (if (!r) = true then some true else (s_l1In (minutes.length : Int) 1 10).bind fun r1 =>
 some (!r1)).bind fun (v : Bool) =>
 if v = true then
  some (([] : List Int), false)
 else
  flb (iter (s_SplitRevenue_L1 minutes) ((0 : Int), (0 : Int))) fun (out1 : Int) =>
  if (out1 == 0) = true then
   some (([] : List Int), false)
  else
   (iter (s_SplitRevenue_L2 amount minutes out1) (amount, (0 : Int), ([] : List Int), ([] : List Int))).bind fun ((best1, left1, i2) : Int × (List Int) × (List Int)) =>
   (iter (s_SplitRevenue_L4) (best1, left1, i2)).bind fun (left3 : List Int) =>
   some (left3, true)
noncomputable def v_rInts_L1 (a : List Int) (b : List Int) : Int → Option (Lp (Int) (Fl (Bool) (Unit)))
 | v =>
  if (decide (v < (a.length : Int))) = true then
   (idx a v).bind fun e2 =>
   (idx b v).bind fun e3 =>
   if (e2 != e3) = true then
    some (.dn (.ret false))
   else
    some (.nx (w64 (v + 1)))
  else
   some (.dn (.go ()))
noncomputable def v_rInts (a : List Int) (b : List Int) : Option (Bool) :=
 if ((a.length : Int) != (b.length : Int)) = true then
  some false
 else
  flb (iter (v_rInts_L1 a b) (0 : Int)) fun (_ : Unit) =>
  some true
noncomputable def v_rSum_L1 (list : List Int) : Int × Int → Option (Lp (Int × Int) (Int))
 | (i, v) =>
  if (decide (v < (list.length : Int))) = true then
   (idx list v).bind fun e =>
   some (.nx ((w64 (i + e)), (w64 (v + 1))))
  else
   some (.dn i)
noncomputable def v_rSum (list : List Int) : Option (Int) :=
 (iter (v_rSum_L1 list) ((0 : Int), (0 : Int))).bind fun (i1 : Int) =>
 some i1
noncomputable def v_FnFares_L1 (r1 : Network × (List Int) × Prices × (List (List Int))) (r8 : (List Int) × Bool) : Int → Option (Lp (Int) (Fl (Lp (Int) (Fl (Bool) (Unit))) (Unit)))
 | q =>
  if (decide (q < (r8.1.length : Int))) = true then
   (idx r8.1 q).bind fun e13 =>
   (v_rHas r1.2.1 e13).bind fun r10 =>
   if (!r10) = true then
    some (.dn (.ret (.dn (.ret false))))
   else
    some (.nx (w64 (q + 1)))
  else
   some (.dn (.go ()))
noncomputable def v_FnFares_L2 (r1 : Network × (List Int) × Prices × (List (List Int))) (r2 : Int × Bool) : Int → Option (Lp (Int) (Fl (Bool) (Unit)))
 | one =>
  (if (decide (one < (r1.2.2.2.length : Int))) = true then some r2.2 else some false).bind fun (v1 : Bool) =>
  if v1 = true then
   (chk ((0 : Int) ≤ one ∧ one ≤ (w64 (one + 1)) ∧ (w64 (one + 1)) ≤ (r1.2.2.2.length : Int))).bind fun u1 =>
   (i_JourneyFare r1.1 r1.2.1 r1.2.2.1 ((r1.2.2.2.take (w64 (one + 1)).toNat).drop one.toNat)).bind fun r6 =>
   (idx r1.2.2.2 one).bind fun e6 =>
   (idx e6 0).bind fun e7 =>
   (idx r1.2.2.2 one).bind fun e8 =>
   (idx e8 1).bind fun e9 =>
   (idx r1.2.2.2 one).bind fun e10 =>
   (idx e10 2).bind fun e11 =>
   (i_ZonesTouched_w r1.1 r1.2.1 e7 e9 e11).bind fun r8 =>
   (if (!r6.2) = true then some true else if (!r8.2) = true then some true else some (decide (r2.1 < r6.1))).bind fun (v2 : Bool) =>
   if v2 = true then
    some (.dn (.ret false))
   else
    flb (iter (v_FnFares_L1 r1 r8) (0 : Int)) fun (_ : Unit) =>
    some (.nx (w64 (one + 1)))
  else
   some (.dn (.go ()))
noncomputable def v_FnFares (code : List UInt8) : Option (Bool) :=
 (v_rBig code).bind fun r =>
 if r = true then
  some true
 else
  (s_DrawJourneyFare code).bind fun r1 =>
  (i_JourneyFare r1.1 r1.2.1 r1.2.2.1 r1.2.2.2).bind fun r2 =>
  (s_JourneyFare r1.1 r1.2.1 r1.2.2.1 r1.2.2.2).bind fun r3 =>
  (if (r2.1 != r3.1) = true then some true else if (!(r2.2 == r3.2)) = true then some true else if r2.2 = true then (i_IsValidZones r1.1 r1.2.1).bind fun r4 =>
  some (!r4) else some false).bind fun (v : Bool) =>
  if v = true then
   some false
  else
   flb (iter (v_FnFares_L2 r1 r2) (0 : Int)) fun (_ : Unit) =>
   (s_DrawSingleFare code).bind fun r13 =>
   (i_SingleFare r13.1 r13.2).bind fun r14 =>
   (s_SingleFare r13.1 r13.2).bind fun r15 =>
   (if (r14.1 != r15.1) = true then some true else some (!(r14.2 == r15.2))).bind fun (v4 : Bool) =>
   if v4 = true then
    some false
   else
    (i_SingleFare r13.1 (w64 (r13.2 + 1))).bind fun r16 =>
    (if r14.2 = true then if r16.2 = true then some (decide (r16.1 < r14.1)) else some false else some false).bind fun (v5 : Bool) =>
    if v5 = true then
     some false
    else
     (s_DrawSplitRevenue code).bind fun r17 =>
     (i_SplitRevenue r17.1 r17.2).bind fun r18 =>
     (s_SplitRevenue r17.1 r17.2).bind fun r19 =>
     (if (r18.2 == r19.2) = true then (v_rInts r18.1 r19.1).bind fun r20 =>
     if r20 = true then if (!r18.2) = true then some true else (v_rSum r18.1).bind fun r21 =>
     some (r21 == r17.1) else some false else some false).bind fun (n : Bool) =>
     some n
end Go.Proofs.Ytfknbpimkleimaa
