/- Models of the functions that the law reaches: plain Lean; none where the function would panic or not end. Made by program (dec.py). -/
import Derived.Test.YtfknbpimkleimaaAbC0
namespace Go.Proofs.Ytfknbpimkleimaa
open Go Go.Ab
set_option maxRecDepth 100000
set_option maxHeartbeats 4000000
set_option linter.unusedVariables false
set_option linter.unusedSimpArgs false
structure l1Cur where
 code_ : List UInt8
 at_ : Int
 seed_ : IK .u64
instance enc_l1Cur : Enc l1Cur := ⟨3, fun x => .agg [Enc.e x.code_, .sc (.int .i64 x.at_), .sc (.int .u64 x.seed_.v)], fun a b h => by
 simp only [D.agg.injEq, List.cons.injEq, and_true] at h
 obtain ⟨a1, a2, a3⟩ := a
 obtain ⟨b1, b2, b3⟩ := b
 obtain ⟨h1, h2, h3⟩ := h
 have q1 := Enc.inj (α := List UInt8) a1 b1 h1
 have q2 := Enc.inj (α := Int) a2 b2 h2
 have q3 := Enc.inj (α := IK .u64) a3 b3 h3
 subst q1; subst q2; subst q3; rfl⟩
structure Line where
 Name : ByteArray
 Stops : List Int
 Runs : List Int
instance enc_Line : Enc Line := ⟨3, fun x => .agg [.sc (.string x.Name), Enc.e x.Stops, Enc.e x.Runs], fun a b h => by
 simp only [D.agg.injEq, List.cons.injEq, and_true] at h
 obtain ⟨a1, a2, a3⟩ := a
 obtain ⟨b1, b2, b3⟩ := b
 obtain ⟨h1, h2, h3⟩ := h
 have q1 := Enc.inj (α := ByteArray) a1 b1 h1
 have q2 := Enc.inj (α := List Int) a2 b2 h2
 have q3 := Enc.inj (α := List Int) a3 b3 h3
 subst q1; subst q2; subst q3; rfl⟩
structure Network where
 Stops : List ByteArray
 Lines : List Line
instance enc_Network : Enc Network := ⟨2, fun x => .agg [Enc.e x.Stops, Enc.e x.Lines], fun a b h => by
 simp only [D.agg.injEq, List.cons.injEq, and_true] at h
 obtain ⟨a1, a2⟩ := a
 obtain ⟨b1, b2⟩ := b
 obtain ⟨h1, h2⟩ := h
 have q1 := Enc.inj (α := List ByteArray) a1 b1 h1
 have q2 := Enc.inj (α := List Line) a2 b2 h2
 subst q1; subst q2; rfl⟩
structure Walk where
 A : Int
 B : Int
 Minutes : Int
instance enc_Walk : Enc Walk := ⟨3, fun x => .agg [.sc (.int .i64 x.A), .sc (.int .i64 x.B), .sc (.int .i64 x.Minutes)], fun a b h => by
 simp only [D.agg.injEq, List.cons.injEq, and_true] at h
 obtain ⟨a1, a2, a3⟩ := a
 obtain ⟨b1, b2, b3⟩ := b
 obtain ⟨h1, h2, h3⟩ := h
 have q1 := Enc.inj (α := Int) a1 b1 h1
 have q2 := Enc.inj (α := Int) a2 b2 h2
 have q3 := Enc.inj (α := Int) a3 b3 h3
 subst q1; subst q2; subst q3; rfl⟩
instance : BxE l1Cur := ⟨fun x y h => Enc.inj x y (congrArg D.agg h)⟩
instance : BxE Line := ⟨fun x y h => Enc.inj x y (congrArg D.agg h)⟩
instance : BxE Network := ⟨fun x y h => Enc.inj x y (congrArg D.agg h)⟩
instance : BxE Walk := ⟨fun x y h => Enc.inj x y (congrArg D.agg h)⟩
instance : FlatEnc Walk := ⟨fun _ => flatDB_ok rfl⟩
noncomputable def v_rBig (code : List UInt8) : Option (Bool) :=
 some (decide (65536 < (code.length : Int)))
noncomputable def s_l1Cur_next (c : l1Cur) : Option (Int × l1Cur) :=
 (if (decide (c.at_ < (c.code_.length : Int))) = true then
  (idx c.code_ c.at_).bind fun e1 =>
  some (w64 ((e1.toNat : Int)))
 else
  some (0 : Int)).bind fun (v : Int) =>
 if (decide ((w64 (c.at_ + 1)) ≤ (c.code_.length : Int))) = true then
  some (v, (⟨c.code_, (w64 (c.at_ + 1)), (⟨(IntKind.u64.wrap ((IntKind.u64.wrap ((IntKind.u64.wrap (c.seed_.v * 6364136223846793005)) + (IntKind.u64.wrap (v)))) + 900900))⟩ : IK .u64)⟩ : l1Cur))
 else
  (chk ((0 : Int) ≤ 40)).bind fun u =>
  some ((w64 ((IntKind.u64.wrap ((BitVec.ofInt (IntKind.u64).bits ((IntKind.u64.wrap ((IntKind.u64.wrap ((IntKind.u64.wrap (c.seed_.v * 6364136223846793005)) + (IntKind.u64.wrap (v)))) + 900900)).fdiv (2 ^ (min (40 : Int).toNat (IntKind.u64).bits))) &&& BitVec.ofInt (IntKind.u64).bits 255).toNat : Int)))), (⟨c.code_, (w64 (c.at_ + 1)), (⟨(IntKind.u64.wrap ((IntKind.u64.wrap ((IntKind.u64.wrap (c.seed_.v * 6364136223846793005)) + (IntKind.u64.wrap (v)))) + 900900))⟩ : IK .u64)⟩ : l1Cur))
noncomputable def s_l1Cur_pick (c : l1Cur) (n : Int) : Option (Int × l1Cur) :=
 if (decide (n ≤ 1)) = true then
  some (0, c)
 else
  (s_l1Cur_next c).bind fun r =>
  (if (decide (200 < n)) = true then
   (s_l1Cur_next r.2).bind fun r1 =>
   some ((w64 ((w64 (r.1 * 256)) + r1.1)), r1.2.code_, r1.2.at_, r1.2.seed_.v)
  else
   some (r.1, r.2.code_, r.2.at_, r.2.seed_.v)).bind fun ((v, v1, v2, v3) : Int × (List UInt8) × Int × Int) =>
  (chk ((n : Int) ≠ 0)).bind fun u =>
  some ((v.tmod n), (⟨v1, v2, (⟨v3⟩ : IK .u64)⟩ : l1Cur))
noncomputable def s_l1Num_F (rec_ : Int → Option (ByteArray)) (n : Int) : Option (ByteArray) :=
 if (decide (n < 0)) = true then
  (rec_ (w64 (0 - n))).bind fun r =>
  (chk ((str [45]).size + r.size ≤ 4294967296)).bind fun u =>
  some ((str [45]) ++ r)
 else
  if (decide (n < 10)) = true then
   (chk ((0 : Int) ≤ n ∧ n ≤ (w64 (n + 1)) ∧ (w64 (n + 1)) ≤ ((str [48, 49, 50, 51, 52, 53, 54, 55, 56, 57]).size : Int))).bind fun u1 =>
   some ((str [48, 49, 50, 51, 52, 53, 54, 55, 56, 57]).extract n.toNat (w64 (n + 1)).toNat)
  else
   (chk ((10 : Int) ≠ 0)).bind fun u7 =>
   (rec_ (w64 (n.tdiv 10))).bind fun r2 =>
   (chk ((10 : Int) ≠ 0)).bind fun u8 =>
   (chk ((10 : Int) ≠ 0)).bind fun u9 =>
   (chk ((0 : Int) ≤ (n.tmod 10) ∧ (n.tmod 10) ≤ (w64 ((n.tmod 10) + 1)) ∧ (w64 ((n.tmod 10) + 1)) ≤ ((str [48, 49, 50, 51, 52, 53, 54, 55, 56, 57]).size : Int))).bind fun u10 =>
   (chk (r2.size + ((str [48, 49, 50, 51, 52, 53, 54, 55, 56, 57]).extract (n.tmod 10).toNat (w64 ((n.tmod 10) + 1)).toNat).size ≤ 4294967296)).bind fun u11 =>
   some (r2 ++ ((str [48, 49, 50, 51, 52, 53, 54, 55, 56, 57]).extract (n.tmod 10).toNat (w64 ((n.tmod 10) + 1)).toNat))
noncomputable def s_l1Num_k : Nat → Int → Option (ByteArray)
 | 0 => fun _ => none
 | n + 1 => s_l1Num_F (s_l1Num_k n)
noncomputable def s_l1Num (n : Int) : Option (ByteArray) := s_l1Num_k 4294967296 n
noncomputable def s_l2Place_L1 (x : Line) (stop : Int) : Int → Option (Lp (Int) (Fl (Int) (Unit)))
 | v =>
  if (decide (v < (x.Stops.length : Int))) = true then
   (idx x.Stops v).bind fun e =>
   if (e == stop) = true then
    some (.dn (.ret v))
   else
    some (.nx (w64 (v + 1)))
  else
   some (.dn (.go ()))
noncomputable def s_l2Place (x : Line) (stop : Int) : Option (Int) :=
 flb (iter (s_l2Place_L1 x stop) (0 : Int)) fun (_ : Unit) =>
 some (-1)
noncomputable def s_l1Cur_line_L1 (name : ByteArray) (stops : Int) : Int × Int × (List UInt8) × Int × Int × (List Int) → Option (Lp (Int × Int × (List UInt8) × Int × Int × (List Int)) ((List UInt8) × Int × Int × (List Int)))
 | (v, v1, v2, v3, v4, v5) =>
  if (decide (0 < v1)) = true then
   ((s_l2Place (⟨name, v5, ([] : List Int)⟩ : Line) v).bind fun r2 =>
   if (decide (r2 < 0)) = true then
    (chk (v5.length + ([v] : List Int).length ≤ 4294967296)).bind fun u =>
    some (v5 ++ ([v] : List Int))
   else
    some v5).bind fun (v6 : List Int) =>
   (s_l1Cur_pick (⟨v2, v3, (⟨v4⟩ : IK .u64)⟩ : l1Cur) 2).bind fun r3 =>
   (chk ((stops : Int) ≠ 0)).bind fun u1 =>
   some (.nx (((w64 ((w64 (v + 1)) + r3.1)).tmod stops), (w64 (v1 - 1)), r3.2.code_, r3.2.at_, r3.2.seed_.v, v6))
  else
   some (.dn (v2, v3, v4, v5))
noncomputable def s_l1Cur_line_L2 (v11 : List Int) : Int × (List UInt8) × Int × Int × (List Int) → Option (Lp (Int × (List UInt8) × Int × Int × (List Int)) ((List UInt8) × Int × Int × (List Int)))
 | (v12, v13, v14, v15, v16) =>
  if (decide (v12 < (v11.length : Int))) = true then
   (s_l1Cur_pick (⟨v13, v14, (⟨v15⟩ : IK .u64)⟩ : l1Cur) 12).bind fun r5 =>
   (chk (v16.length + ([(w64 (3 + r5.1))] : List Int).length ≤ 4294967296)).bind fun u7 =>
   some (.nx ((w64 (v12 + 1)), r5.2.code_, r5.2.at_, r5.2.seed_.v, (v16 ++ ([(w64 (3 + r5.1))] : List Int))))
  else
   some (.dn (v13, v14, v15, v16))
noncomputable def s_l1Cur_line (c : l1Cur) (name : ByteArray) (stops : Int) : Option (Line × l1Cur) :=
 (s_l1Cur_pick c stops).bind fun r =>
 (s_l1Cur_pick r.2 3).bind fun r1 =>
 (iter (s_l1Cur_line_L1 name stops) (r.1, (w64 (2 + r1.1)), r1.2.code_, r1.2.at_, r1.2.seed_.v, ([] : List Int))).bind fun ((v7, v8, v9, v10) : (List UInt8) × Int × Int × (List Int)) =>
 (if (decide ((v10.length : Int) < 2)) = true then
  (idx v10 0).bind fun e1 =>
  (chk ((stops : Int) ≠ 0)).bind fun u4 =>
  (chk (v10.length + ([((w64 (e1 + 1)).tmod stops)] : List Int).length ≤ 4294967296)).bind fun u5 =>
  some (v10 ++ ([((w64 (e1 + 1)).tmod stops)] : List Int))
 else
  some v10).bind fun (v11 : List Int) =>
 (iter (s_l1Cur_line_L2 v11) ((1 : Int), v7, v8, v9, ([] : List Int))).bind fun ((v17, v18, v19, v20) : (List UInt8) × Int × Int × (List Int)) =>
 some ((⟨name, v11, v20⟩ : Line), (⟨v17, v18, (⟨v19⟩ : IK .u64)⟩ : l1Cur))
noncomputable def s_l1Cur_line_f_L1 (name : ByteArray) (stops : Int) : Int × Int × (List UInt8) × Int × Int × (List Int) → Option (Lp (Int × Int × (List UInt8) × Int × Int × (List Int)) ((List UInt8) × Int × Int × (List Int)))
 | (v, v1, v2, v3, v4, v5) =>
  if (decide (0 < v1)) = true then
   ((s_l2Place (⟨name, v5, ([] : List Int)⟩ : Line) v).bind fun r2 =>
   if (decide (r2 < 0)) = true then
    (chk (v5.length + ([v] : List Int).length ≤ 4294967296)).bind fun u =>
    some (v5 ++ ([v] : List Int))
   else
    some v5).bind fun (v6 : List Int) =>
   (s_l1Cur_pick (⟨v2, v3, (⟨v4⟩ : IK .u64)⟩ : l1Cur) 2).bind fun r3 =>
   (chk ((stops : Int) ≠ 0)).bind fun u1 =>
   some (.nx (((w64 ((w64 (v + 1)) + r3.1)).tmod stops), (w64 (v1 - 1)), r3.2.code_, r3.2.at_, r3.2.seed_.v, v6))
  else
   some (.dn (v2, v3, v4, v5))
noncomputable def s_l1Cur_line_f_L2 (v11 : List Int) : Int × (List UInt8) × Int × Int × (List Int) → Option (Lp (Int × (List UInt8) × Int × Int × (List Int)) ((List UInt8) × Int × Int × (List Int)))
 | (v12, v13, v14, v15, v16) =>
  if (decide (v12 < (v11.length : Int))) = true then
   (s_l1Cur_pick (⟨v13, v14, (⟨v15⟩ : IK .u64)⟩ : l1Cur) 12).bind fun r5 =>
   (chk (v16.length + ([(w64 (3 + r5.1))] : List Int).length ≤ 4294967296)).bind fun u7 =>
   some (.nx ((w64 (v12 + 1)), r5.2.code_, r5.2.at_, r5.2.seed_.v, (v16 ++ ([(w64 (3 + r5.1))] : List Int))))
  else
   some (.dn (v13, v14, v15, v16))
noncomputable def s_l1Cur_line_f (c : l1Cur) (name : ByteArray) (stops : Int) : Option (Line × l1Cur) :=
 (s_l1Cur_pick c stops).bind fun r =>
 (s_l1Cur_pick r.2 3).bind fun r1 =>
 (iter (s_l1Cur_line_f_L1 name stops) (r.1, (w64 (2 + r1.1)), r1.2.code_, r1.2.at_, r1.2.seed_.v, ([] : List Int))).bind fun ((v7, v8, v9, v10) : (List UInt8) × Int × Int × (List Int)) =>
 (if (decide ((v10.length : Int) < 2)) = true then
  (idx v10 0).bind fun e1 =>
  (chk ((stops : Int) ≠ 0)).bind fun u4 =>
  (chk (v10.length + ([((w64 (e1 + 1)).tmod stops)] : List Int).length ≤ 4294967296)).bind fun u5 =>
  some (v10 ++ ([((w64 (e1 + 1)).tmod stops)] : List Int))
 else
  some v10).bind fun (v11 : List Int) =>
 (iter (s_l1Cur_line_f_L2 v11) ((1 : Int), v7, v8, v9, ([] : List Int))).bind fun ((v17, v18, v19, v20) : (List UInt8) × Int × Int × (List Int)) =>
 some ((⟨name, v11, v20⟩ : Line), (⟨v17, v18, (⟨v19⟩ : IK .u64)⟩ : l1Cur))
noncomputable def s_l1Cur_one (c : l1Cur) (n : Int) : Option (Bool × l1Cur) :=
 (s_l1Cur_pick c n).bind fun r =>
 some ((r.1 == 0), r.2)
noncomputable def s_l2Back_L1 (list : List Int) : Int × (List Int) → Option (Lp (Int × (List Int)) ((List Int)))
 | (v, i) =>
  if (decide (0 ≤ v)) = true then
   (idx list v).bind fun e =>
   (chk (i.length + ([e] : List Int).length ≤ 4294967296)).bind fun u =>
   some (.nx ((w64 (v - 1)), (i ++ ([e] : List Int))))
  else
   some (.dn i)
noncomputable def s_l2Back (list : List Int) : Option ((List Int)) :=
 (iter (s_l2Back_L1 list) ((w64 ((list.length : Int) - 1)), ([] : List Int))).bind fun (i1 : List Int) =>
 some i1
noncomputable def s_l2Back_f_L1 (list : List Int) : Int × (List Int) → Option (Lp (Int × (List Int)) ((List Int)))
 | (v, i) =>
  if (decide (0 ≤ v)) = true then
   (idx list v).bind fun e =>
   (chk (i.length + ([e] : List Int).length ≤ 4294967296)).bind fun u =>
   some (.nx ((w64 (v - 1)), (i ++ ([e] : List Int))))
  else
   some (.dn i)
noncomputable def s_l2Back_f (list : List Int) : Option ((List Int)) :=
 (iter (s_l2Back_f_L1 list) ((w64 ((list.length : Int) - 1)), ([] : List Int))).bind fun (i1 : List Int) =>
 some i1
noncomputable def s_l1Own (l : List Int) : Option ((List Int)) :=
 (chk (([] : List Int).length + l.length ≤ 4294967296)).bind fun u =>
 some (([] : List Int) ++ l)
noncomputable def s_l1Own_f (l : List Int) : Option ((List Int)) :=
 (chk (([] : List Int).length + l.length ≤ 4294967296)).bind fun u =>
 some (([] : List Int) ++ l)
noncomputable def s_l2Own_L1 (n : Network) : Int × (List Line) → Option (Lp (Int × (List Line)) ((List Line)))
 | (v, v1) =>
  if (decide (v < (n.Lines.length : Int))) = true then
   (idx n.Lines v).bind fun e3 =>
   (idx n.Lines v).bind fun e4 =>
   (s_l1Own_f e4.Stops).bind fun r2 =>
   (idx n.Lines v).bind fun e5 =>
   (s_l1Own_f e5.Runs).bind fun r3 =>
   (chk (v1.length + ([(⟨e3.Name, r2, r3⟩ : Line)] : List Line).length ≤ 4294967296)).bind fun u2 =>
   some (.nx ((w64 (v + 1)), (v1 ++ ([(⟨e3.Name, r2, r3⟩ : Line)] : List Line))))
  else
   some (.dn v1)
noncomputable def s_l2Own (n : Network) : Option (Network) :=
 (chk (([] : List ByteArray).length + n.Stops.length ≤ 4294967296)).bind fun u =>
 (iter (s_l2Own_L1 n) ((0 : Int), ([] : List Line))).bind fun (v2 : List Line) =>
 some (⟨(([] : List ByteArray) ++ n.Stops), v2⟩ : Network)
noncomputable def s_l1Cur_network_L1 (r : Int × l1Cur) : Int × (List UInt8) × Int × Int × (List Line) → Option (Lp (Int × (List UInt8) × Int × Int × (List Line)) ((List UInt8) × Int × Int × (List Line)))
 | (x, v, v1, v2, v3) =>
  if (decide (0 < x)) = true then
   (s_l1Num x).bind fun r4 =>
   (chk ((str [108]).size + r4.size ≤ 4294967296)).bind fun u3 =>
   (s_l1Cur_line_f (⟨v, v1, (⟨v2⟩ : IK .u64)⟩ : l1Cur) ((str [108]) ++ r4) (w64 (2 + r.1))).bind fun r5 =>
   (chk (v3.length + ([r5.1] : List Line).length ≤ 4294967296)).bind fun u4 =>
   some (.nx ((w64 (x - 1)), r5.2.code_, r5.2.at_, r5.2.seed_.v, (v3 ++ ([r5.1] : List Line))))
  else
   some (.dn (v, v1, v2, v3))
noncomputable def s_l1Cur_network (c : l1Cur) : Option (Network × l1Cur) :=
 (s_l1Cur_pick c 5).bind fun r =>
 (chk ((0 : Int) ≤ 0 ∧ 0 ≤ (w64 (2 + r.1)) ∧ (w64 (2 + r.1)) ≤ (([(str [112, 111, 114, 116]), (str [109, 105, 108, 108]), (str [112, 97, 114, 107]), (str [104, 97, 108, 108]), (str [100, 111, 99, 107]), (str [102, 97, 105, 114])] : List ByteArray).length : Int))).bind fun u =>
 (s_l1Cur_pick r.2 3).bind fun r1 =>
 (iter (s_l1Cur_network_L1 r) ((w64 (1 + r1.1)), r1.2.code_, r1.2.at_, r1.2.seed_.v, ([] : List Line))).bind fun ((v4, v5, v6, v7) : (List UInt8) × Int × Int × (List Line)) =>
 ((s_l1Cur_one (⟨v4, v5, (⟨v6⟩ : IK .u64)⟩ : l1Cur) 2).bind fun r6 =>
 if r6.1 = true then
  (idx v7 0).bind fun e =>
  (s_l2Back_f e.Stops).bind fun r9 =>
  (s_l2Back_f e.Runs).bind fun r10 =>
  (chk (v7.length + ([(⟨(str [114, 49]), r9, r10⟩ : Line)] : List Line).length ≤ 4294967296)).bind fun u6 =>
  some (r6.2.code_, r6.2.at_, r6.2.seed_.v, (v7 ++ ([(⟨(str [114, 49]), r9, r10⟩ : Line)] : List Line)))
 else
  some (r6.2.code_, r6.2.at_, r6.2.seed_.v, v7)).bind fun ((v8, v9, v10, v11) : (List UInt8) × Int × Int × (List Line)) =>
 (s_l2Own (⟨((([(str [112, 111, 114, 116]), (str [109, 105, 108, 108]), (str [112, 97, 114, 107]), (str [104, 97, 108, 108]), (str [100, 111, 99, 107]), (str [102, 97, 105, 114])] : List ByteArray).take (w64 (2 + r.1)).toNat).drop (0 : Int).toNat), v11⟩ : Network)).bind fun r11 =>
 some ((⟨r11.Stops, r11.Lines⟩ : Network), (⟨v8, v9, (⟨v10⟩ : IK .u64)⟩ : l1Cur))
noncomputable def s_l1Cur_of (c : l1Cur) (list : List ByteArray) : Option (ByteArray × l1Cur) :=
 (s_l1Cur_pick c (list.length : Int)).bind fun r =>
 (idx list r.1).bind fun e =>
 some (e, r.2)
noncomputable def s_l1Cur_of_w (c : l1Cur) (list : List ByteArray) : Option (ByteArray × l1Cur) :=
 (s_l1Cur_pick c (list.length : Int)).bind fun r =>
 (idx list r.1).bind fun e =>
 some (e, r.2)
noncomputable def s_l2Own_t_L1 (n : Network) : Int × (List Line) → Option (Lp (Int × (List Line)) ((List Line)))
 | (v, v1) =>
  if (decide (v < (n.Lines.length : Int))) = true then
   (idx n.Lines v).bind fun e3 =>
   (idx n.Lines v).bind fun e4 =>
   (s_l1Own e4.Stops).bind fun r2 =>
   (idx n.Lines v).bind fun e5 =>
   (s_l1Own e5.Runs).bind fun r3 =>
   (chk (v1.length + ([(⟨e3.Name, r2, r3⟩ : Line)] : List Line).length ≤ 4294967296)).bind fun u2 =>
   some (.nx ((w64 (v + 1)), (v1 ++ ([(⟨e3.Name, r2, r3⟩ : Line)] : List Line))))
  else
   some (.dn v1)
noncomputable def s_l2Own_t (n : Network) : Option (Network) :=
 (chk (([] : List ByteArray).length + n.Stops.length ≤ 4294967296)).bind fun u =>
 (iter (s_l2Own_t_L1 n) ((0 : Int), ([] : List Line))).bind fun (v2 : List Line) =>
 some (⟨(([] : List ByteArray) ++ n.Stops), v2⟩ : Network)
noncomputable def s_l1Cur_network_t_L1 (r : Int × l1Cur) : Int × (List UInt8) × Int × Int × (List Line) → Option (Lp (Int × (List UInt8) × Int × Int × (List Line)) ((List UInt8) × Int × Int × (List Line)))
 | (x, v, v1, v2, v3) =>
  if (decide (0 < x)) = true then
   (s_l1Num x).bind fun r4 =>
   (chk ((str [108]).size + r4.size ≤ 4294967296)).bind fun u3 =>
   (s_l1Cur_line_f (⟨v, v1, (⟨v2⟩ : IK .u64)⟩ : l1Cur) ((str [108]) ++ r4) (w64 (2 + r.1))).bind fun r5 =>
   (chk (v3.length + ([r5.1] : List Line).length ≤ 4294967296)).bind fun u4 =>
   some (.nx ((w64 (x - 1)), r5.2.code_, r5.2.at_, r5.2.seed_.v, (v3 ++ ([r5.1] : List Line))))
  else
   some (.dn (v, v1, v2, v3))
noncomputable def s_l1Cur_network_t (c : l1Cur) : Option (Network × l1Cur) :=
 (s_l1Cur_pick c 5).bind fun r =>
 (chk ((0 : Int) ≤ 0 ∧ 0 ≤ (w64 (2 + r.1)) ∧ (w64 (2 + r.1)) ≤ (([(str [112, 111, 114, 116]), (str [109, 105, 108, 108]), (str [112, 97, 114, 107]), (str [104, 97, 108, 108]), (str [100, 111, 99, 107]), (str [102, 97, 105, 114])] : List ByteArray).length : Int))).bind fun u =>
 (s_l1Cur_pick r.2 3).bind fun r1 =>
 (iter (s_l1Cur_network_t_L1 r) ((w64 (1 + r1.1)), r1.2.code_, r1.2.at_, r1.2.seed_.v, ([] : List Line))).bind fun ((v4, v5, v6, v7) : (List UInt8) × Int × Int × (List Line)) =>
 ((s_l1Cur_one (⟨v4, v5, (⟨v6⟩ : IK .u64)⟩ : l1Cur) 2).bind fun r6 =>
 if r6.1 = true then
  (idx v7 0).bind fun e =>
  (s_l2Back_f e.Stops).bind fun r9 =>
  (s_l2Back_f e.Runs).bind fun r10 =>
  (chk (v7.length + ([(⟨(str [114, 49]), r9, r10⟩ : Line)] : List Line).length ≤ 4294967296)).bind fun u6 =>
  some (r6.2.code_, r6.2.at_, r6.2.seed_.v, (v7 ++ ([(⟨(str [114, 49]), r9, r10⟩ : Line)] : List Line)))
 else
  some (r6.2.code_, r6.2.at_, r6.2.seed_.v, v7)).bind fun ((v8, v9, v10, v11) : (List UInt8) × Int × Int × (List Line)) =>
 (s_l2Own_t (⟨((([(str [112, 111, 114, 116]), (str [109, 105, 108, 108]), (str [112, 97, 114, 107]), (str [104, 97, 108, 108]), (str [100, 111, 99, 107]), (str [102, 97, 105, 114])] : List ByteArray).take (w64 (2 + r.1)).toNat).drop (0 : Int).toNat), v11⟩ : Network)).bind fun r11 =>
 some ((⟨r11.Stops, r11.Lines⟩ : Network), (⟨v8, v9, (⟨v10⟩ : IK .u64)⟩ : l1Cur))
noncomputable def s_l1Cur_among (c : l1Cur) (list : List Int) : Option (Int × l1Cur) :=
 (s_l1Cur_pick c (list.length : Int)).bind fun r =>
 (idx list r.1).bind fun e =>
 some (e, r.2)
noncomputable def s_l1Cur_among_w (c : l1Cur) (list : List Int) : Option (Int × l1Cur) :=
 (s_l1Cur_pick c (list.length : Int)).bind fun r =>
 (idx list r.1).bind fun e =>
 some (e, r.2)
noncomputable def s_l1Cur_anyNetwork_L1 (r : Network × l1Cur) : Int × (List UInt8) × Int × Int × (List Line) → Option (Lp (Int × (List UInt8) × Int × Int × (List Line)) ((List UInt8) × Int × Int × (List Line)))
 | (v7, v8, v9, v10, v11) =>
  (s_l1Cur_pick (⟨v8, v9, (⟨v10⟩ : IK .u64)⟩ : l1Cur) 2).bind fun r16 =>
  (if (decide ((v11.length : Int) < (w64 (5 + r16.1)))) = true then some (decide (v7 < 7)) else some false).bind fun (v12 : Bool) =>
  if v12 = true then
   (s_l1Num v7).bind fun r19 =>
   (chk ((str [120]).size + r19.size ≤ 4294967296)).bind fun u3 =>
   (s_l1Cur_line r16.2 ((str [120]) ++ r19) (r.1.Stops.length : Int)).bind fun r20 =>
   (chk (v11.length + ([(⟨r20.1.Name, r20.1.Stops, r20.1.Runs⟩ : Line)] : List Line).length ≤ 4294967296)).bind fun u4 =>
   some (.nx ((w64 (v7 + 1)), r20.2.code_, r20.2.at_, r20.2.seed_.v, (v11 ++ ([(⟨r20.1.Name, r20.1.Stops, r20.1.Runs⟩ : Line)] : List Line))))
  else
   some (.dn (r16.2.code_, r16.2.at_, r16.2.seed_.v, v11))
noncomputable def s_l1Cur_anyNetwork (c : l1Cur) : Option (Network × l1Cur) :=
 (s_l1Cur_network_t c).bind fun r =>
 (s_l1Cur_pick r.2 (r.1.Lines.length : Int)).bind fun r1 =>
 (idx r.1.Lines r1.1).bind fun e =>
 flb ((s_l1Cur_pick r1.2 24).bind fun r2 =>
 if (r2.1 == 0) = true then
  (s_l1Cur_of_w r2.2 ([(str [109, 105, 108, 108]), (str []), (str [65]), (str [97, 98, 99, 100, 101, 102, 103, 104]), (str [97, 98, 99, 100, 101, 102, 103, 104, 105])] : List ByteArray)).bind fun r4 =>
  (idx r.1.Stops 0).bind fun e2 =>
  some (.go (r4.2.code_, r4.2.at_, r4.2.seed_.v, e.Name, (r.1.Stops.set (0 : Int).toNat r4.1), r.1.Lines, e.Runs))
 else
  if (r2.1 == 1) = true then
   (s_l1Cur_of_w r2.2 ([(str [114, 49]), (str [108, 49]), (str []), (str [88])] : List ByteArray)).bind fun r5 =>
   some (.go (r5.2.code_, r5.2.at_, r5.2.seed_.v, r5.1, r.1.Stops, r.1.Lines, e.Runs))
  else
   if (r2.1 == 2) = true then
    (s_l1Cur_pick r2.2 (e.Stops.length : Int)).bind fun r8 =>
    (s_l1Cur_pick r8.2 10).bind fun r9 =>
    (idx e.Stops r8.1).bind fun e4 =>
    some (.go (r9.2.code_, r9.2.at_, r9.2.seed_.v, e.Name, r.1.Stops, (r.1.Lines.set r1.1.toNat (⟨e.Name, (e.Stops.set r8.1.toNat (w64 (r9.1 - 1))), e.Runs⟩ : Line)), ((⟨e.Name, (e.Stops.set r8.1.toNat (w64 (r9.1 - 1))), e.Runs⟩ : Line).Runs)))
   else
    if (r2.1 == 3) = true then
     (s_l1Cur_pick r2.2 (e.Runs.length : Int)).bind fun r12 =>
     (s_l1Cur_among_w r12.2 ([0, 60, 61, (-1)] : List Int)).bind fun r13 =>
     (idx e.Runs r12.1).bind fun e6 =>
     some (.go (r13.2.code_, r13.2.at_, r13.2.seed_.v, e.Name, r.1.Stops, (r.1.Lines.set r1.1.toNat (⟨e.Name, e.Stops, (e.Runs.set r12.1.toNat r13.1)⟩ : Line)), ((⟨e.Name, e.Stops, (e.Runs.set r12.1.toNat r13.1)⟩ : Line).Runs)))
    else
     if (r2.1 == 4) = true then
      (chk (e.Runs.length + ([3] : List Int).length ≤ 4294967296)).bind fun u =>
      some (.go (r2.2.code_, r2.2.at_, r2.2.seed_.v, e.Name, r.1.Stops, r.1.Lines, (e.Runs ++ ([3] : List Int))))
     else
      if (r2.1 == 5) = true then
       some (.ret ((⟨r.1.Stops, ([] : List Line)⟩ : Network), r2.2))
      else
       if (r2.1 == 6) = true then
        (iter (s_l1Cur_anyNetwork_L1 r) ((0 : Int), r2.2.code_, r2.2.at_, r2.2.seed_.v, r.1.Lines)).bind fun ((v13, v14, v15, v16) : (List UInt8) × Int × Int × (List Line)) =>
        some (.ret ((⟨r.1.Stops, v16⟩ : Network), (⟨v13, v14, (⟨v15⟩ : IK .u64)⟩ : l1Cur)))
       else
        some (.go (r2.2.code_, r2.2.at_, r2.2.seed_.v, e.Name, r.1.Stops, r.1.Lines, e.Runs))) fun ((v, v1, v2, v3, v4, v5, v6) : (List UInt8) × Int × Int × ByteArray × (List ByteArray) × (List Line) × (List Int)) =>
 (idx v5 r1.1).bind fun e9 =>
 some ((⟨v4, (v5.set r1.1.toNat (⟨v3, e9.Stops, v6⟩ : Line))⟩ : Network), (⟨v, v1, (⟨v2⟩ : IK .u64)⟩ : l1Cur))
noncomputable def s_l1Cur_walks_L1 (n : Network) (v : Int) : Int × (List UInt8) × Int × Int × (List Walk) → Option (Lp (Int × (List UInt8) × Int × Int × (List Walk)) ((List UInt8) × Int × Int × (List Walk)))
 | (v4, v5, v6, v7, b1) =>
  if (decide (v4 < (n.Stops.length : Int))) = true then
   ((s_l1Cur_one (⟨v5, v6, (⟨v7⟩ : IK .u64)⟩ : l1Cur) 3).bind fun r =>
   (if r.1 = true then some (decide ((b1.length : Int) < 12)) else some false).bind fun (v11 : Bool) =>
   if v11 = true then
    (s_l1Cur_among_w r.2 ([1, 2, 3, 5, 8, 20] : List Int)).bind fun r1 =>
    (chk (b1.length + ([(⟨v, v4, r1.1⟩ : Walk)] : List Walk).length ≤ 4294967296)).bind fun u =>
    some (r1.2.code_, r1.2.at_, r1.2.seed_.v, (b1 ++ ([(⟨v, v4, r1.1⟩ : Walk)] : List Walk)))
   else
    some (r.2.code_, r.2.at_, r.2.seed_.v, b1)).bind fun ((v8, v9, v10, b2) : (List UInt8) × Int × Int × (List Walk)) =>
   some (.nx ((w64 (v4 + 1)), v8, v9, v10, b2))
  else
   some (.dn (v5, v6, v7, b1))
noncomputable def s_l1Cur_walks_L2 (n : Network) : Int × (List UInt8) × Int × Int × (List Walk) → Option (Lp (Int × (List UInt8) × Int × Int × (List Walk)) ((List UInt8) × Int × Int × (List Walk)))
 | (v, v1, v2, v3, b) =>
  if (decide (v < (n.Stops.length : Int))) = true then
   (iter (s_l1Cur_walks_L1 n v) ((w64 (v + 1)), v1, v2, v3, b)).bind fun ((v12, v13, v14, b3) : (List UInt8) × Int × Int × (List Walk)) =>
   some (.nx ((w64 (v + 1)), v12, v13, v14, b3))
  else
   some (.dn (v1, v2, v3, b))
noncomputable def s_l1Cur_walks (c : l1Cur) (n : Network) : Option ((List Walk) × l1Cur) :=
 (iter (s_l1Cur_walks_L2 n) ((0 : Int), c.code_, c.at_, c.seed_.v, ([] : List Walk))).bind fun ((v15, v16, v17, b4) : (List UInt8) × Int × Int × (List Walk)) =>
 ((s_l1Cur_pick (⟨v15, v16, (⟨v17⟩ : IK .u64)⟩ : l1Cur) 40).bind fun r2 =>
 if (r2.1 == 0) = true then
  (s_l1Cur_among_w r2.2 ([0, 1, 8] : List Int)).bind fun r3 =>
  (chk (b4.length + ([(⟨0, r3.1, 5⟩ : Walk)] : List Walk).length ≤ 4294967296)).bind fun u1 =>
  some (r3.2.code_, r3.2.at_, r3.2.seed_.v, (b4 ++ ([(⟨0, r3.1, 5⟩ : Walk)] : List Walk)))
 else
  if (r2.1 == 1) = true then
   (s_l1Cur_among_w r2.2 ([0, 120, 121] : List Int)).bind fun r5 =>
   (chk (b4.length + ([(⟨(w64 ((n.Stops.length : Int) - 2)), (w64 ((n.Stops.length : Int) - 1)), r5.1⟩ : Walk)] : List Walk).length ≤ 4294967296)).bind fun u3 =>
   some (r5.2.code_, r5.2.at_, r5.2.seed_.v, (b4 ++ ([(⟨(w64 ((n.Stops.length : Int) - 2)), (w64 ((n.Stops.length : Int) - 1)), r5.1⟩ : Walk)] : List Walk)))
  else
   some (r2.2.code_, r2.2.at_, r2.2.seed_.v, b4)).bind fun ((v18, v19, v20, b5) : (List UInt8) × Int × Int × (List Walk)) =>
 some (b5, (⟨v18, v19, (⟨v20⟩ : IK .u64)⟩ : l1Cur))
noncomputable def s_DrawWalkingTimes (code : List UInt8) : Option (Network × (List Walk) × Int) :=
 (s_l1Cur_anyNetwork (⟨code, 0, (⟨0⟩ : IK .u64)⟩ : l1Cur)).bind fun r =>
 (s_l1Cur_walks r.2 r.1).bind fun r1 =>
 (s_l1Cur_pick r1.2 (w64 ((r.1.Stops.length : Int) + 1))).bind fun r4 =>
 (s_l1Cur_pick r4.2 12).bind fun r5 =>
 (chk ((11 : Int) ≠ 0)).bind fun u1 =>
 some (r.1, r1.1, (w64 (r4.1 - (w64 (r5.1.tdiv 11)))))
noncomputable def s_DrawShortestWalk (code : List UInt8) : Option (Network × (List Walk) × Int × Int) :=
 (s_DrawWalkingTimes code).bind fun r =>
 (s_l1Cur_pick (⟨code, 0, (⟨0⟩ : IK .u64)⟩ : l1Cur) (w64 ((r.1.Stops.length : Int) + 1))).bind fun r3 =>
 (s_l1Cur_pick r3.2 12).bind fun r4 =>
 (chk ((11 : Int) ≠ 0)).bind fun u1 =>
 some (r.1, r.2.1, r.2.2, (w64 (r3.1 - (w64 (r4.1.tdiv 11)))))
noncomputable def i_within (n : Int) (lo : Int) (hi : Int) : Option (Bool) :=
 (if (decide (lo ≤ n)) = true then some (decide (n ≤ hi)) else some false).bind fun (v : Bool) =>
 some v
noncomputable def i_isName_L1 (s : ByteArray) : Int → Option (Lp (Int) (Fl (Bool) (Unit)))
 | v1 =>
  if (decide (v1 < (s.size : Int))) = true then
   (chk ((0 : Int) ≤ v1 ∧ v1 < (s.size : Int))).bind fun u =>
   (if (decide (97 ≤ ((s.data.toList.getD v1.toNat 0).toNat : Int))) = true then (chk ((0 : Int) ≤ v1 ∧ v1 < (s.size : Int))).bind fun u1 =>
   some (decide (((s.data.toList.getD v1.toNat 0).toNat : Int) ≤ 122)) else some false).bind fun (v2 : Bool) =>
   (if (!v2) = true then if (v1 == 0) = true then some true else (chk ((0 : Int) ≤ v1 ∧ v1 < (s.size : Int))).bind fun u2 =>
   if (decide (((s.data.toList.getD v1.toNat 0).toNat : Int) < 48)) = true then some true else (chk ((0 : Int) ≤ v1 ∧ v1 < (s.size : Int))).bind fun u3 =>
   some (decide (57 < ((s.data.toList.getD v1.toNat 0).toNat : Int))) else some false).bind fun (v3 : Bool) =>
   if v3 = true then
    some (.dn (.ret false))
   else
    some (.nx (w64 (v1 + 1)))
  else
   some (.dn (.go ()))
noncomputable def i_isName (s : ByteArray) : Option (Bool) :=
 (if (decide ((s.size : Int) < 1)) = true then some true else some (decide (8 < (s.size : Int)))).bind fun (v : Bool) =>
 if v = true then
  some false
 else
  flb (iter (i_isName_L1 s) (0 : Int)) fun (_ : Unit) =>
  some true
noncomputable def slices_Index_string_L1 (s : List ByteArray) (v : ByteArray) : Int → Option (Lp (Int) (Fl (Int) (Unit)))
 | v1 =>
  if (decide (v1 < (s.length : Int))) = true then
   (idx s v1).bind fun e =>
   if (v.toList == e.toList) = true then
    some (.dn (.ret v1))
   else
    some (.nx (w64 (v1 + 1)))
  else
   some (.dn (.go ()))
noncomputable def slices_Index_string (s : List ByteArray) (v : ByteArray) : Option (Int) :=
 flb (iter (slices_Index_string_L1 s v) (0 : Int)) fun (_ : Unit) =>
 some (-1)
noncomputable def i_areNames_L1 (names : List ByteArray) : Int → Option (Lp (Int) (Fl (Bool) (Unit)))
 | v =>
  if (decide (v < (names.length : Int))) = true then
   (idx names v).bind fun e =>
   (i_isName e).bind fun r =>
   (if (!r) = true then some true else (slices_Index_string names e).bind fun r1 =>
   some (r1 != v)).bind fun (v1 : Bool) =>
   if v1 = true then
    some (.dn (.ret false))
   else
    some (.nx (w64 (v + 1)))
  else
   some (.dn (.go ()))
noncomputable def i_areNames (names : List ByteArray) : Option (Bool) :=
 flb (iter (i_areNames_L1 names) (0 : Int)) fun (_ : Unit) =>
 some true
noncomputable def i_lineNames_L1 (n : Network) : Int × (List ByteArray) → Option (Lp (Int × (List ByteArray)) ((List ByteArray)))
 | (v, i) =>
  if (decide (v < (n.Lines.length : Int))) = true then
   (idx n.Lines v).bind fun e =>
   (idx i v).bind fun e1 =>
   some (.nx ((w64 (v + 1)), (i.set v.toNat e.Name)))
  else
   some (.dn i)
noncomputable def i_lineNames (n : Network) : Option ((List ByteArray)) :=
 (chk ((0 : Int) ≤ (n.Lines.length : Int) ∧ ((n.Lines.length : Int) : Int) ≤ 4294967296)).bind fun u =>
 (iter (i_lineNames_L1 n) ((0 : Int), (List.replicate (n.Lines.length : Int).toNat (ByteArray.empty : ByteArray)))).bind fun (i1 : List ByteArray) =>
 some i1
noncomputable def i_isStop (n : Network) (stop : Int) : Option (Bool) :=
 (if (decide (0 ≤ stop)) = true then some (decide (stop < (n.Stops.length : Int))) else some false).bind fun (v : Bool) =>
 some v
noncomputable def slices_Index_int_L1 (s : List Int) (v : Int) : Int → Option (Lp (Int) (Fl (Int) (Unit)))
 | v1 =>
  if (decide (v1 < (s.length : Int))) = true then
   (idx s v1).bind fun e =>
   if (v == e) = true then
    some (.dn (.ret v1))
   else
    some (.nx (w64 (v1 + 1)))
  else
   some (.dn (.go ()))
noncomputable def slices_Index_int (s : List Int) (v : Int) : Option (Int) :=
 flb (iter (slices_Index_int_L1 s v) (0 : Int)) fun (_ : Unit) =>
 some (-1)
noncomputable def i_isValidLine_L1 (n : Network) (l : Line) : Int → Option (Lp (Int) (Fl (Bool) (Unit)))
 | v1 =>
  if (decide (v1 < (l.Stops.length : Int))) = true then
   (idx l.Stops v1).bind fun e =>
   (i_isStop n e).bind fun r1 =>
   (if (!r1) = true then some true else (slices_Index_int l.Stops e).bind fun r2 =>
   some (r2 != v1)).bind fun (v2 : Bool) =>
   if v2 = true then
    some (.dn (.ret false))
   else
    some (.nx (w64 (v1 + 1)))
  else
   some (.dn (.go ()))
noncomputable def i_isValidLine_L2 (l : Line) : Int → Option (Lp (Int) (Fl (Bool) (Unit)))
 | v3 =>
  if (decide (v3 < (l.Runs.length : Int))) = true then
   (idx l.Runs v3).bind fun e2 =>
   (i_within e2 1 60).bind fun r4 =>
   if (!r4) = true then
    some (.dn (.ret false))
   else
    some (.nx (w64 (v3 + 1)))
  else
   some (.dn (.go ()))
noncomputable def i_isValidLine (n : Network) (l : Line) : Option (Bool) :=
 (i_within (l.Stops.length : Int) 2 6).bind fun r =>
 (if (!r) = true then some true else some ((l.Runs.length : Int) != (w64 ((l.Stops.length : Int) - 1)))).bind fun (v : Bool) =>
 if v = true then
  some false
 else
  flb (iter (i_isValidLine_L1 n l) (0 : Int)) fun (_ : Unit) =>
  flb (iter (i_isValidLine_L2 l) (0 : Int)) fun (_ : Unit) =>
  some true
noncomputable def i_IsValidNetwork_L1 (n : Network) : Int → Option (Lp (Int) (Fl (Bool) (Unit)))
 | v1 =>
  if (decide (v1 < (n.Lines.length : Int))) = true then
   (idx n.Lines v1).bind fun e =>
   (i_isValidLine n e).bind fun r5 =>
   if (!r5) = true then
    some (.dn (.ret false))
   else
    some (.nx (w64 (v1 + 1)))
  else
   some (.dn (.go ()))
noncomputable def i_IsValidNetwork (n : Network) : Option (Bool) :=
 (i_within (n.Stops.length : Int) 2 8).bind fun r =>
 (if (!r) = true then some true else (i_within (n.Lines.length : Int) 1 5).bind fun r1 =>
 if (!r1) = true then some true else (i_areNames n.Stops).bind fun r2 =>
 if (!r2) = true then some true else (i_lineNames n).bind fun r3 =>
 (i_areNames r3).bind fun r4 =>
 some (!r4)).bind fun (v : Bool) =>
 if v = true then
  some false
 else
  flb (iter (i_IsValidNetwork_L1 n) (0 : Int)) fun (_ : Unit) =>
  some true
noncomputable def cmp_isNaN_int (x : Int) : Option (Bool) :=
 some (x != x)
noncomputable def cmp_Compare_int (x : Int) (y_ : Int) : Option (Int) :=
 (cmp_isNaN_int x).bind fun r =>
 (cmp_isNaN_int y_).bind fun r1 =>
 if r = true then
  if r1 = true then
   some 0
  else
   some (-1)
 else
  if r1 = true then
   some 1
  else
   if (decide (x < y_)) = true then
    some (-1)
   else
    if (decide (y_ < x)) = true then
     some 1
    else
     some 0
noncomputable def cmp_Or_int_L1 (vals : List Int) : Int → Option (Lp (Int) (Fl (Int) (Unit)))
 | v =>
  if (decide (v < (vals.length : Int))) = true then
   (idx vals v).bind fun e =>
   if (e != 0) = true then
    some (.dn (.ret e))
   else
    some (.nx (w64 (v + 1)))
  else
   some (.dn (.go ()))
noncomputable def cmp_Or_int (vals : List Int) : Option (Int) :=
 flb (iter (cmp_Or_int_L1 vals) (0 : Int)) fun (_ : Unit) =>
 some 0
noncomputable def i_areWalks_L1 (n : Network) (list : List Walk) : Int → Option (Lp (Int) (Fl (Bool) (Unit)))
 | v =>
  if (decide (v < (list.length : Int))) = true then
   (idx list v).bind fun e =>
   (i_isStop n e.A).bind fun r =>
   (if (!r) = true then some true else (i_isStop n e.B).bind fun r1 =>
   if (!r1) = true then some true else if (decide (e.B ≤ e.A)) = true then some true else (i_within e.Minutes 1 120).bind fun r2 =>
   some (!r2)).bind fun (v1 : Bool) =>
   if v1 = true then
    some (.dn (.ret false))
   else
    (if (decide (0 < v)) = true then (idx list (w64 (v - 1))).bind fun e4 =>
    (cmp_Compare_int e4.A e.A).bind fun r7 =>
    (idx list (w64 (v - 1))).bind fun e5 =>
    (cmp_Compare_int e5.B e.B).bind fun r8 =>
    (cmp_Or_int ([r7, r8] : List Int)).bind fun r9 =>
    some (decide (0 ≤ r9)) else some false).bind fun (v2 : Bool) =>
    if v2 = true then
     some (.dn (.ret false))
    else
     some (.nx (w64 (v + 1)))
  else
   some (.dn (.go ()))
noncomputable def i_areWalks (n : Network) (list : List Walk) : Option (Bool) :=
 if (decide (12 < (list.length : Int))) = true then
  some false
 else
  flb (iter (i_areWalks_L1 n list) (0 : Int)) fun (_ : Unit) =>
  some true
noncomputable def i_IsValidWalks (n : Network) (list : List Walk) : Option (Bool) :=
 (i_IsValidNetwork n).bind fun r =>
 (if r = true then (i_areWalks n list).bind fun r1 =>
 some r1 else some false).bind fun (v : Bool) =>
 some v
noncomputable def i_walkTable_L1 (n : Network) (v : Int) : Int × (List (List Int)) → Option (Lp (Int × (List (List Int))) ((List (List Int))))
 | (v1, j1) =>
  if (decide (v1 < ((List.replicate (n.Stops.length : Int).toNat (0 : Int)).length : Int))) = true then
   (if (v != v1) = true then
    (idx j1 v).bind fun e2 =>
    (idx e2 v1).bind fun e3 =>
    some (j1.set v.toNat (e2.set v1.toNat (-1)))
   else
    some j1).bind fun (j2 : List (List Int)) =>
   some (.nx ((w64 (v1 + 1)), j2))
  else
   some (.dn j1)
noncomputable def i_walkTable_L2 (n : Network) : Int × (List (List Int)) → Option (Lp (Int × (List (List Int))) ((List (List Int))))
 | (v, j) =>
  if (decide (v < ((List.replicate (n.Stops.length : Int).toNat (([] : List Int) : List Int)).length : Int))) = true then
   (chk ((0 : Int) ≤ (n.Stops.length : Int) ∧ ((n.Stops.length : Int) : Int) ≤ 4294967296)).bind fun u1 =>
   (idx j v).bind fun e =>
   (idx (j.set v.toNat (List.replicate (n.Stops.length : Int).toNat (0 : Int))) v).bind fun e1 =>
   (iter (i_walkTable_L1 n v) ((0 : Int), (j.set v.toNat (List.replicate (n.Stops.length : Int).toNat (0 : Int))))).bind fun (j3 : List (List Int)) =>
   some (.nx ((w64 (v + 1)), j3))
  else
   some (.dn j)
noncomputable def i_walkTable_L3 (list : List Walk) : Int × (List (List Int)) → Option (Lp (Int × (List (List Int))) ((List (List Int))))
 | (v2, j5) =>
  if (decide (v2 < (list.length : Int))) = true then
   (idx list v2).bind fun e4 =>
   (idx j5 e4.A).bind fun e10 =>
   (idx j5 e4.B).bind fun e11 =>
   (idx e10 e4.B).bind fun e12 =>
   (idx (j5.set e4.A.toNat (e10.set e4.B.toNat e4.Minutes)) e4.B).bind fun e13 =>
   (idx e13 e4.A).bind fun e14 =>
   some (.nx ((w64 (v2 + 1)), ((j5.set e4.A.toNat (e10.set e4.B.toNat e4.Minutes)).set e4.B.toNat (e13.set e4.A.toNat e4.Minutes))))
  else
   some (.dn j5)
noncomputable def i_walkTable_L4 (n : Network) (v3 : Int) (v4 : Int) : Int × (List (List Int)) → Option (Lp (Int × (List (List Int))) ((List (List Int))))
 | (v5, j9) =>
  if (decide (v5 < (n.Stops.length : Int))) = true then
   ((idx j9 v4).bind fun e15 =>
   (idx e15 v3).bind fun e16 =>
   (if (decide (e16 < 0)) = true then some true else (idx j9 v3).bind fun e17 =>
   (idx e17 v5).bind fun e18 =>
   some (decide (e18 < 0))).bind fun (v6 : Bool) =>
   if v6 = true then
    some j9
   else
    (idx j9 v4).bind fun e23 =>
    (idx e23 v3).bind fun e24 =>
    (idx j9 v3).bind fun e25 =>
    (idx e25 v5).bind fun e26 =>
    (idx j9 v4).bind fun e27 =>
    (idx e23 v5).bind fun e28 =>
    (if (decide (e28 < 0)) = true then some true else (idx j9 v4).bind fun e29 =>
    (idx e23 v5).bind fun e30 =>
    some (decide ((w64 (e24 + e26)) < e30))).bind fun (v7 : Bool) =>
    if v7 = true then
     (idx j9 v4).bind fun e31 =>
     (idx e31 v5).bind fun e32 =>
     some (j9.set v4.toNat (e31.set v5.toNat (w64 (e24 + e26))))
    else
     some j9).bind fun (j10 : List (List Int)) =>
   some (.nx ((w64 (v5 + 1)), j10))
  else
   some (.dn j9)
noncomputable def i_walkTable_L5 (n : Network) (v3 : Int) : Int × (List (List Int)) → Option (Lp (Int × (List (List Int))) ((List (List Int))))
 | (v4, j8) =>
  if (decide (v4 < (n.Stops.length : Int))) = true then
   (iter (i_walkTable_L4 n v3 v4) ((0 : Int), j8)).bind fun (j11 : List (List Int)) =>
   some (.nx ((w64 (v4 + 1)), j11))
  else
   some (.dn j8)
noncomputable def i_walkTable_L6 (n : Network) : Int × (List (List Int)) → Option (Lp (Int × (List (List Int))) ((List (List Int))))
 | (v3, j7) =>
  if (decide (v3 < (n.Stops.length : Int))) = true then
   (iter (i_walkTable_L5 n v3) ((0 : Int), j7)).bind fun (j12 : List (List Int)) =>
   some (.nx ((w64 (v3 + 1)), j12))
  else
   some (.dn j7)
noncomputable def i_walkTable (n : Network) (list : List Walk) : Option ((List (List Int))) :=
 (chk ((0 : Int) ≤ (n.Stops.length : Int) ∧ ((n.Stops.length : Int) : Int) ≤ 4294967296)).bind fun u =>
 (iter (i_walkTable_L2 n) ((0 : Int), (List.replicate (n.Stops.length : Int).toNat (([] : List Int) : List Int)))).bind fun (j4 : List (List Int)) =>
 (iter (i_walkTable_L3 list) ((0 : Int), j4)).bind fun (j6 : List (List Int)) =>
 (iter (i_walkTable_L6 n) ((0 : Int), j6)).bind fun (j13 : List (List Int)) =>
 some j13
noncomputable def i_walkMinutes_L1 (list : List Walk) (a : Int) (b : Int) : Int → Option (Lp (Int) (Fl (Int) (Unit)))
 | v =>
  if (decide (v < (list.length : Int))) = true then
   (idx list v).bind fun e =>
   (if (e.A == (if b < a then b else a)) = true then some (e.B == (if b > a then b else a)) else some false).bind fun (v1 : Bool) =>
   if v1 = true then
    some (.dn (.ret e.Minutes))
   else
    some (.nx (w64 (v + 1)))
  else
   some (.dn (.go ()))
noncomputable def i_walkMinutes (list : List Walk) (a : Int) (b : Int) : Option (Int) :=
 flb (iter (i_walkMinutes_L1 list a b) (0 : Int)) fun (_ : Unit) =>
 some 0
noncomputable def i_ShortestWalk_1 (a : Int) (b : Int) (c1 : List Walk) (c2 : List (List Int)) (c3 : Int) : Option (Bool) :=
 (i_walkMinutes c1 a b).bind fun r =>
 (if (decide (0 < r)) = true then (idx c2 b).bind fun e6 =>
 (idx e6 c3).bind fun e7 =>
 if (decide (0 ≤ e7)) = true then (idx c2 b).bind fun e8 =>
 (idx e8 c3).bind fun e9 =>
 (idx c2 a).bind fun e10 =>
 (idx e10 c3).bind fun e11 =>
 some ((w64 (r + e9)) == e11) else some false else some false).bind fun (v : Bool) =>
 some v
noncomputable def i_ShortestWalk_L1 (n : Network) : Int × (List Int) → Option (Lp (Int × (List Int)) ((List Int)))
 | (v1, out) =>
  if (decide (v1 < ((List.replicate (n.Stops.length : Int).toNat (0 : Int)).length : Int))) = true then
   (idx out v1).bind fun e4 =>
   some (.nx ((w64 (v1 + 1)), (out.set v1.toNat (-1))))
  else
   some (.dn out)
noncomputable def i_ShortestWalk_L2 (n : Network) (list : List Walk) (to : Int) (r3 : (List (List Int))) : Int × (List Int) × (List Int) → Option (Lp (Int × (List Int) × (List Int)) ((List Int) × (List Int)))
 | (v2, out3, b1) =>
  if (decide (v2 < (n.Stops.length : Int))) = true then
   ((idx out3 v2).bind fun e6 =>
   (if (decide (e6 < 0)) = true then (idx b1 0).bind fun e7 =>
   (i_ShortestWalk_1 v2 e7 list r3 to).bind fun r4 =>
   some r4 else some false).bind fun (v3 : Bool) =>
   if v3 = true then
    (idx b1 0).bind fun e8 =>
    (idx out3 e8).bind fun e9 =>
    (idx out3 v2).bind fun e10 =>
    (chk (b1.length + ([v2] : List Int).length ≤ 4294967296)).bind fun u1 =>
    some ((out3.set v2.toNat (w64 (e9 + 1))), (b1 ++ ([v2] : List Int)))
   else
    some (out3, b1)).bind fun ((out4, b2) : (List Int) × (List Int)) =>
   some (.nx ((w64 (v2 + 1)), out4, b2))
  else
   some (.dn (out3, b1))
noncomputable def i_ShortestWalk_L3 (n : Network) (list : List Walk) (to : Int) (r3 : (List (List Int))) : (List Int) × (List Int) → Option (Lp ((List Int) × (List Int)) ((List Int)))
 | (out2, b) =>
  if (decide (0 < (b.length : Int))) = true then
   (iter (i_ShortestWalk_L2 n list to r3) ((0 : Int), out2, b)).bind fun ((out5, b3) : (List Int) × (List Int)) =>
   (chk ((0 : Int) ≤ 1 ∧ 1 ≤ (b3.length : Int))).bind fun u2 =>
   some (.nx (out5, (b3.drop (1 : Int).toNat)))
  else
   some (.dn out2)
noncomputable def i_ShortestWalk_L4 (n : Network) (list : List Walk) (to : Int) (r3 : (List (List Int))) (out6 : List Int) (v4 : Int) : Int → Option (Lp (Int) (Int))
 | v7 =>
  if (decide (v7 < (n.Stops.length : Int))) = true then
   (idx out6 v7).bind fun e13 =>
   (idx out6 v4).bind fun e14 =>
   (if (e13 == (w64 (e14 - 1))) = true then (i_ShortestWalk_1 v4 v7 list r3 to).bind fun r6 =>
   some r6 else some false).bind fun (v8 : Bool) =>
   if v8 = true then
    some (.dn v7)
   else
    some (.nx (w64 (v7 + 1)))
  else
   some (.dn v4)
noncomputable def i_ShortestWalk_L5 (n : Network) (list : List Walk) (to : Int) (r3 : (List (List Int))) (out6 : List Int) : Int × (List Int) → Option (Lp (Int × (List Int)) ((List Int)))
 | (v4, v5) =>
  if (v4 != to) = true then
   ((iter (i_ShortestWalk_L4 n list to r3 out6 v4) (0 : Int)).bind fun (v9 : Int) =>
   some v9).bind fun (v6 : Int) =>
   (chk (v5.length + ([v6] : List Int).length ≤ 4294967296)).bind fun u3 =>
   some (.nx (v6, (v5 ++ ([v6] : List Int))))
  else
   some (.dn v5)
noncomputable def i_ShortestWalk (n : Network) (list : List Walk) (from_ : Int) (to : Int) : Option ((List Int) × Bool) :=
 (i_IsValidWalks n list).bind fun r =>
 (if (!r) = true then some true else (i_isStop n from_).bind fun r1 =>
 if (!r1) = true then some true else (i_isStop n to).bind fun r2 =>
 some (!r2)).bind fun (v : Bool) =>
 if v = true then
  some (([] : List Int), false)
 else
  (i_walkTable n list).bind fun r3 =>
  (idx r3 from_).bind fun e2 =>
  (idx e2 to).bind fun e3 =>
  if (decide (e3 < 0)) = true then
   some (([] : List Int), false)
  else
   (chk ((0 : Int) ≤ (n.Stops.length : Int) ∧ ((n.Stops.length : Int) : Int) ≤ 4294967296)).bind fun u =>
   (iter (i_ShortestWalk_L1 n) ((0 : Int), (List.replicate (n.Stops.length : Int).toNat (0 : Int)))).bind fun (out1 : List Int) =>
   (idx out1 to).bind fun e5 =>
   (iter (i_ShortestWalk_L3 n list to r3) ((out1.set to.toNat 0), ([to] : List Int))).bind fun (out6 : List Int) =>
   (iter (i_ShortestWalk_L5 n list to r3 out6) (from_, ([from_] : List Int))).bind fun (v10 : List Int) =>
   some (v10, true)
noncomputable def s_l1In (x : Int) (a : Int) (b : Int) : Option (Bool) :=
 (if (decide (a ≤ x)) = true then some (decide (x ≤ b)) else some false).bind fun (v : Bool) =>
 some v
noncomputable def s_l2Name_L1 (s : ByteArray) : Int → Option (Lp (Int) (Fl (Bool) (Unit)))
 | v1 =>
  if (decide (v1 < (s.size : Int))) = true then
   (chk ((0 : Int) ≤ v1 ∧ v1 < (s.size : Int))).bind fun u2 =>
   (if (decide (((s.data.toList.getD v1.toNat 0).toNat : Int) < 97)) = true then (chk ((0 : Int) ≤ v1 ∧ v1 < (s.size : Int))).bind fun u3 =>
   if (decide (((s.data.toList.getD v1.toNat 0).toNat : Int) < 48)) = true then some true else (chk ((0 : Int) ≤ v1 ∧ v1 < (s.size : Int))).bind fun u4 =>
   some (decide (57 < ((s.data.toList.getD v1.toNat 0).toNat : Int))) else (chk ((0 : Int) ≤ v1 ∧ v1 < (s.size : Int))).bind fun u5 =>
   if (decide (122 < ((s.data.toList.getD v1.toNat 0).toNat : Int))) = true then (chk ((0 : Int) ≤ v1 ∧ v1 < (s.size : Int))).bind fun u6 =>
   if (decide (((s.data.toList.getD v1.toNat 0).toNat : Int) < 48)) = true then some true else (chk ((0 : Int) ≤ v1 ∧ v1 < (s.size : Int))).bind fun u7 =>
   some (decide (57 < ((s.data.toList.getD v1.toNat 0).toNat : Int))) else some false).bind fun (v2 : Bool) =>
   if v2 = true then
    some (.dn (.ret false))
   else
    some (.nx (w64 (v1 + 1)))
  else
   some (.dn (.go ()))
noncomputable def s_l2Name (s : ByteArray) : Option (Bool) :=
 (s_l1In (s.size : Int) 1 8).bind fun r =>
 (if (!r) = true then some true else (chk ((0 : Int) ≤ 0 ∧ 0 < (s.size : Int))).bind fun u =>
 if (decide (((s.data.toList.getD (0 : Int).toNat 0).toNat : Int) < 97)) = true then some true else (chk ((0 : Int) ≤ 0 ∧ 0 < (s.size : Int))).bind fun u1 =>
 some (decide (122 < ((s.data.toList.getD (0 : Int).toNat 0).toNat : Int)))).bind fun (v : Bool) =>
 if v = true then
  some false
 else
  flb (iter (s_l2Name_L1 s) (0 : Int)) fun (_ : Unit) =>
  some true
noncomputable def s_l2Find_L1 (list : List ByteArray) (name : ByteArray) : Int → Option (Lp (Int) (Fl (Int) (Unit)))
 | v =>
  if (decide (v < (list.length : Int))) = true then
   (idx list v).bind fun e =>
   if (e.toList == name.toList) = true then
    some (.dn (.ret v))
   else
    some (.nx (w64 (v + 1)))
  else
   some (.dn (.go ()))
noncomputable def s_l2Find (list : List ByteArray) (name : ByteArray) : Option (Int) :=
 flb (iter (s_l2Find_L1 list name) (0 : Int)) fun (_ : Unit) =>
 some (-1)
noncomputable def s_l2Line_L1 (x : Line) (stops : Int) : Int → Option (Lp (Int) (Fl (Bool) (Unit)))
 | v1 =>
  if (decide (v1 < (x.Stops.length : Int))) = true then
   (idx x.Stops v1).bind fun e2 =>
   (s_l1In e2 0 (w64 (stops - 1))).bind fun r4 =>
   (if (!r4) = true then some true else (idx x.Stops v1).bind fun e3 =>
   (s_l2Place x e3).bind fun r5 =>
   some (r5 != v1)).bind fun (v2 : Bool) =>
   if v2 = true then
    some (.dn (.ret false))
   else
    some (.nx (w64 (v1 + 1)))
  else
   some (.dn (.go ()))
noncomputable def s_l2Line_L2 (x : Line) : Int → Option (Lp (Int) (Fl (Bool) (Unit)))
 | v3 =>
  if (decide (v3 < (x.Runs.length : Int))) = true then
   (idx x.Runs v3).bind fun e5 =>
   (s_l1In e5 1 60).bind fun r7 =>
   if (!r7) = true then
    some (.dn (.ret false))
   else
    some (.nx (w64 (v3 + 1)))
  else
   some (.dn (.go ()))
noncomputable def s_l2Line (x : Line) (stops : Int) : Option (Bool) :=
 (s_l2Name x.Name).bind fun r =>
 (if (!r) = true then some true else (s_l1In (x.Stops.length : Int) 2 6).bind fun r1 =>
 if (!r1) = true then some true else some ((x.Runs.length : Int) != (w64 ((x.Stops.length : Int) - 1)))).bind fun (v : Bool) =>
 if v = true then
  some false
 else
  flb (iter (s_l2Line_L1 x stops) (0 : Int)) fun (_ : Unit) =>
  flb (iter (s_l2Line_L2 x) (0 : Int)) fun (_ : Unit) =>
  some true
noncomputable def s_l2LineNamed_L1 (n : Network) (name : ByteArray) : Int → Option (Lp (Int) (Fl (Int) (Unit)))
 | v =>
  if (decide (v < (n.Lines.length : Int))) = true then
   (idx n.Lines v).bind fun e =>
   if (e.Name.toList == name.toList) = true then
    some (.dn (.ret v))
   else
    some (.nx (w64 (v + 1)))
  else
   some (.dn (.go ()))
noncomputable def s_l2LineNamed (n : Network) (name : ByteArray) : Option (Int) :=
 flb (iter (s_l2LineNamed_L1 n name) (0 : Int)) fun (_ : Unit) =>
 some (-1)
noncomputable def s_l2Good_L1 (n : Network) : Int → Option (Lp (Int) (Fl (Bool) (Unit)))
 | i =>
  if (decide (i < (n.Stops.length : Int))) = true then
   (idx n.Stops i).bind fun e2 =>
   (s_l2Name e2).bind fun r4 =>
   (if (!r4) = true then some true else (idx n.Stops i).bind fun e3 =>
   (s_l2Find n.Stops e3).bind fun r5 =>
   some (r5 != i)).bind fun (v1 : Bool) =>
   if v1 = true then
    some (.dn (.ret false))
   else
    some (.nx (w64 (i + 1)))
  else
   some (.dn (.go ()))
noncomputable def s_l2Good_L2 (n : Network) : Int → Option (Lp (Int) (Fl (Bool) (Unit)))
 | v2 =>
  if (decide (v2 < (n.Lines.length : Int))) = true then
   (idx n.Lines v2).bind fun e7 =>
   (s_l2Line e7 (n.Stops.length : Int)).bind fun r9 =>
   (if (!r9) = true then some true else (idx n.Lines v2).bind fun e8 =>
   (s_l2LineNamed n e8.Name).bind fun r10 =>
   some (r10 != v2)).bind fun (v3 : Bool) =>
   if v3 = true then
    some (.dn (.ret false))
   else
    some (.nx (w64 (v2 + 1)))
  else
   some (.dn (.go ()))
noncomputable def s_l2Good (n : Network) : Option (Bool) :=
 (s_l1In (n.Stops.length : Int) 2 8).bind fun r =>
 (if (!r) = true then some true else (s_l1In (n.Lines.length : Int) 1 5).bind fun r1 =>
 some (!r1)).bind fun (v : Bool) =>
 if v = true then
  some false
 else
  flb (iter (s_l2Good_L1 n) (0 : Int)) fun (_ : Unit) =>
  flb (iter (s_l2Good_L2 n) (0 : Int)) fun (_ : Unit) =>
  some true
noncomputable def s_l7Good_L1 (n : Network) (list : List Walk) : Int → Option (Lp (Int) (Fl (Bool) (Unit)))
 | v1 =>
  if (decide (v1 < (list.length : Int))) = true then
   (idx list v1).bind fun e =>
   (s_l1In e.B 1 (w64 ((n.Stops.length : Int) - 1))).bind fun r1 =>
   (if (!r1) = true then some true else (s_l1In e.A 0 (w64 (e.B - 1))).bind fun r2 =>
   if (!r2) = true then some true else (s_l1In e.Minutes 1 120).bind fun r3 =>
   some (!r3)).bind fun (v2 : Bool) =>
   if v2 = true then
    some (.dn (.ret false))
   else
    (if (decide (0 < v1)) = true then (idx list (w64 (v1 - 1))).bind fun e5 =>
    if (decide (e.A < e5.A)) = true then some true else (idx list (w64 (v1 - 1))).bind fun e6 =>
    if (e6.A == e.A) = true then (idx list (w64 (v1 - 1))).bind fun e7 =>
    some (decide (e.B ≤ e7.B)) else some false else some false).bind fun (v3 : Bool) =>
    if v3 = true then
     some (.dn (.ret false))
    else
     some (.nx (w64 (v1 + 1)))
  else
   some (.dn (.go ()))
noncomputable def s_l7Good (n : Network) (list : List Walk) : Option (Bool) :=
 (s_l2Good n).bind fun r =>
 (if (!r) = true then some true else some (decide (12 < (list.length : Int)))).bind fun (v : Bool) =>
 if v = true then
  some false
 else
  flb (iter (s_l7Good_L1 n list) (0 : Int)) fun (_ : Unit) =>
  some true
noncomputable def s_l7Times_L1 (stops : Int) : Int × (List Int) → Option (Lp (Int × (List Int)) ((List Int)))
 | (a, i) =>
  if (decide (a < stops)) = true then
   (chk (i.length + ([(-1)] : List Int).length ≤ 4294967296)).bind fun u =>
   some (.nx ((w64 (a + 1)), (i ++ ([(-1)] : List Int))))
  else
   some (.dn i)
noncomputable def s_l7Times_L2 (list : List Walk) (turn : Int) : Bool × Int × Int × Int × (List Int) → Option (Lp (Bool × Int × Int × Int × (List Int)) (Bool × (List Int)))
 | (b2, v, v1, v2, i4) =>
  if (decide (v2 < 2)) = true then
   ((idx i4 v).bind fun e10 =>
   (if (decide (0 ≤ e10)) = true then (idx i4 v1).bind fun e11 =>
   if (decide (e11 < 0)) = true then some true else (idx i4 v).bind fun e12 =>
   (idx list turn).bind fun e13 =>
   (idx i4 v1).bind fun e14 =>
   some (decide ((w64 (e12 + e13.Minutes)) < e14)) else some false).bind fun (v3 : Bool) =>
   if v3 = true then
    (idx i4 v).bind fun e18 =>
    (idx list turn).bind fun e19 =>
    (idx i4 v1).bind fun e20 =>
    some (true, (i4.set v1.toNat (w64 (e18 + e19.Minutes))))
   else
    some (b2, i4)).bind fun ((b3, i5) : Bool × (List Int)) =>
   (idx list turn).bind fun e21 =>
   (idx list turn).bind fun e22 =>
   some (.nx (b3, e21.B, e22.A, (w64 (v2 + 1)), i5))
  else
   some (.dn (b2, i4))
noncomputable def s_l7Times_L3 (list : List Walk) : Bool × Int × (List Int) → Option (Lp (Bool × Int × (List Int)) (Bool × (List Int)))
 | (b1, turn, i3) =>
  if (decide (turn < (list.length : Int))) = true then
   (idx list turn).bind fun e3 =>
   (idx list turn).bind fun e4 =>
   (iter (s_l7Times_L2 list turn) (b1, e3.A, e4.B, (0 : Int), i3)).bind fun ((b4, i6) : Bool × (List Int)) =>
   some (.nx (b4, (w64 (turn + 1)), i6))
  else
   some (.dn (b1, i3))
noncomputable def s_l7Times_L4 (list : List Walk) : Bool × (List Int) → Option (Lp (Bool × (List Int)) ((List Int)))
 | (b, i2) =>
  if b = true then
   (iter (s_l7Times_L3 list) (false, (0 : Int), i2)).bind fun ((b5, i7) : Bool × (List Int)) =>
   some (.nx (b5, i7))
  else
   some (.dn i2)
noncomputable def s_l7Times (stops : Int) (list : List Walk) (stop : Int) : Option ((List Int)) :=
 (iter (s_l7Times_L1 stops) ((0 : Int), ([] : List Int))).bind fun (i1 : List Int) =>
 (idx i1 stop).bind fun e =>
 (iter (s_l7Times_L4 list) (true, (i1.set stop.toNat 0))).bind fun (i8 : List Int) =>
 some i8
noncomputable def s_WalkingTimes (n : Network) (list : List Walk) (stop : Int) : Option ((List Int) × Bool) :=
 (s_l7Good n list).bind fun r =>
 (if (!r) = true then some true else (s_l1In stop 0 (w64 ((n.Stops.length : Int) - 1))).bind fun r1 =>
 some (!r1)).bind fun (v : Bool) =>
 if v = true then
  some (([] : List Int), false)
 else
  (s_l7Times (n.Stops.length : Int) list stop).bind fun r2 =>
  some (r2, true)
noncomputable def s_l1Least (a : Int) (b : Int) : Option (Int) :=
 if (decide (a < b)) = true then
  some a
 else
  some b
noncomputable def s_l1Most (a : Int) (b : Int) : Option (Int) :=
 if (decide (b < a)) = true then
  some a
 else
  some b
noncomputable def s_l7Minutes_L1 (list : List Walk) (a : Int) (b : Int) : Int → Option (Lp (Int) (Fl (Int) (Unit)))
 | v =>
  if (decide (v < (list.length : Int))) = true then
   (idx list v).bind fun e2 =>
   (s_l1Least a b).bind fun r2 =>
   (if (e2.A == r2) = true then (idx list v).bind fun e3 =>
   (s_l1Most a b).bind fun r3 =>
   some (e3.B == r3) else some false).bind fun (v1 : Bool) =>
   if v1 = true then
    (idx list v).bind fun e4 =>
    some (.dn (.ret e4.Minutes))
   else
    some (.nx (w64 (v + 1)))
  else
   some (.dn (.go ()))
noncomputable def s_l7Minutes (list : List Walk) (a : Int) (b : Int) : Option (Int) :=
 flb (iter (s_l7Minutes_L1 list a b) (0 : Int)) fun (_ : Unit) =>
 some (-1)
noncomputable def s_l1Has_L1 (l : List Int) (n : Int) : Int → Option (Lp (Int) (Fl (Bool) (Unit)))
 | v =>
  if (decide (v < (l.length : Int))) = true then
   (idx l v).bind fun e =>
   if (e == n) = true then
    some (.dn (.ret true))
   else
    some (.nx (w64 (v + 1)))
  else
   some (.dn (.go ()))
noncomputable def s_l1Has (l : List Int) (n : Int) : Option (Bool) :=
 flb (iter (s_l1Has_L1 l n) (0 : Int)) fun (_ : Unit) =>
 some false
noncomputable def s_l7Way_L1 (rec_ : Int → (List Walk) → (List Int) → Int → Int → Int → Option ((List Int))) (stops : Int) (list : List Walk) (way : List Int) (to : Int) (more : Int) (minutes : Int) (e : Int) : Int → Option (Lp (Int) (Fl ((List Int)) (Unit)))
 | v1 =>
  if (decide (v1 < stops)) = true then
   flb ((s_l7Minutes list e v1).bind fun r =>
   (if (decide (r < 0)) = true then some true else if (decide (minutes < r)) = true then some true else (s_l1Has way v1).bind fun r1 =>
   some r1).bind fun (v2 : Bool) =>
   if v2 = true then
    some (.go ())
   else
    (s_l1Own way).bind fun r2 =>
    (chk (r2.length + ([v1] : List Int).length ≤ 4294967296)).bind fun u =>
    (rec_ stops list (r2 ++ ([v1] : List Int)) to (w64 (more - 1)) (w64 (minutes - r))).bind fun r3 =>
    if (decide (0 < (r3.length : Int))) = true then
     some (.ret (.dn (.ret r3)))
    else
     some (.go ())) fun (_ : Unit) =>
   some (.nx (w64 (v1 + 1)))
  else
   some (.dn (.go ()))
noncomputable def s_l7Way_F (rec_ : Int → (List Walk) → (List Int) → Int → Int → Int → Option ((List Int))) (stops : Int) (list : List Walk) (way : List Int) (to : Int) (more : Int) (minutes : Int) : Option ((List Int)) :=
 (idx way (w64 ((way.length : Int) - 1))).bind fun e =>
 if (more == 0) = true then
  (if (e == to) = true then some (minutes == 0) else some false).bind fun (v : Bool) =>
  if v = true then
   some way
  else
   some ([] : List Int)
 else
  flb (iter (s_l7Way_L1 rec_ stops list way to more minutes e) (0 : Int)) fun (_ : Unit) =>
  some ([] : List Int)
noncomputable def s_l7Way_k : Nat → Int → (List Walk) → (List Int) → Int → Int → Int → Option ((List Int))
 | 0 => fun _ _ _ _ _ _ => none
 | n + 1 => s_l7Way_F (s_l7Way_k n)
noncomputable def s_l7Way (stops : Int) (list : List Walk) (way : List Int) (to : Int) (more : Int) (minutes : Int) : Option ((List Int)) := s_l7Way_k 4294967296 stops list way to more minutes
noncomputable def s_l7Way_m_L1 (rec_ : Int → (List Walk) → (List Int) → Int → Int → Int → Option ((List Int))) (stops : Int) (list : List Walk) (way : List Int) (to : Int) (more : Int) (minutes : Int) (e : Int) : Int → Option (Lp (Int) (Fl ((List Int)) (Unit)))
 | v1 =>
  if (decide (v1 < stops)) = true then
   flb ((s_l7Minutes list e v1).bind fun r =>
   (if (decide (r < 0)) = true then some true else if (decide (minutes < r)) = true then some true else (s_l1Has way v1).bind fun r1 =>
   some r1).bind fun (v2 : Bool) =>
   if v2 = true then
    some (.go ())
   else
    (s_l1Own way).bind fun r2 =>
    (chk (r2.length + ([v1] : List Int).length ≤ 4294967296)).bind fun u =>
    (rec_ stops list (r2 ++ ([v1] : List Int)) to (w64 (more - 1)) (w64 (minutes - r))).bind fun r3 =>
    if (decide (0 < (r3.length : Int))) = true then
     some (.ret (.dn (.ret r3)))
    else
     some (.go ())) fun (_ : Unit) =>
   some (.nx (w64 (v1 + 1)))
  else
   some (.dn (.go ()))
noncomputable def s_l7Way_m_F (rec_ : Int → (List Walk) → (List Int) → Int → Int → Int → Option ((List Int))) (stops : Int) (list : List Walk) (way : List Int) (to : Int) (more : Int) (minutes : Int) : Option ((List Int)) :=
 (idx way (w64 ((way.length : Int) - 1))).bind fun e =>
 if (more == 0) = true then
  (if (e == to) = true then some (minutes == 0) else some false).bind fun (v : Bool) =>
  if v = true then
   some way
  else
   some ([] : List Int)
 else
  flb (iter (s_l7Way_m_L1 rec_ stops list way to more minutes e) (0 : Int)) fun (_ : Unit) =>
  some ([] : List Int)
noncomputable def s_l7Way_m_k : Nat → Int → (List Walk) → (List Int) → Int → Int → Int → Option ((List Int))
 | 0 => fun _ _ _ _ _ _ => none
 | n + 1 => s_l7Way_m_F (s_l7Way_m_k n)
noncomputable def s_l7Way_m (stops : Int) (list : List Walk) (way : List Int) (to : Int) (more : Int) (minutes : Int) : Option ((List Int)) := s_l7Way_m_k 4294967296 stops list way to more minutes
noncomputable def s_ShortestWalk_L1 (n : Network) (list : List Walk) (from_ : Int) (to : Int) (r : (List Int) × Bool) : Int → Option (Lp (Int) ((List Int) × Bool))
 | v1 =>
  (idx r.1 to).bind fun e2 =>
  (s_l7Way_m (n.Stops.length : Int) list ([from_] : List Int) to v1 e2).bind fun r3 =>
  if (decide (0 < (r3.length : Int))) = true then
   some (.dn (r3, true))
  else
   some (.nx (w64 (v1 + 1)))
noncomputable def s_ShortestWalk (n : Network) (list : List Walk) (from_ : Int) (to : Int) : Option ((List Int) × Bool) :=
 (s_WalkingTimes n list from_).bind fun r =>
 (if (!r.2) = true then some true else (s_l1In to 0 (w64 ((n.Stops.length : Int) - 1))).bind fun r1 =>
 if (!r1) = true then some true else (idx r.1 to).bind fun e =>
 some (decide (e < 0))).bind fun (v : Bool) =>
 if v = true then
  some (([] : List Int), false)
 else
  iter (s_ShortestWalk_L1 n list from_ to r) (0 : Int)
noncomputable def v_rInts_L1 (a : List Int) (b : List Int) : Int → Option (Lp (Int) (Fl (Bool) (Unit)))
 | v =>
  if (decide (v < (a.length : Int))) = true then
   (idx a v).bind fun e2 =>
   (idx b v).bind fun e3 =>
   if (e2 != e3) = true then
    some (.dn (.ret false))
   else
    some (.nx (w64 (v + 1)))
  else
   some (.dn (.go ()))
noncomputable def v_rInts (a : List Int) (b : List Int) : Option (Bool) :=
 if ((a.length : Int) != (b.length : Int)) = true then
  some false
 else
  flb (iter (v_rInts_L1 a b) (0 : Int)) fun (_ : Unit) =>
  some true
noncomputable def i_WalkingTimes (n : Network) (list : List Walk) (stop : Int) : Option ((List Int) × Bool) :=
 (i_IsValidWalks n list).bind fun r =>
 (if (!r) = true then some true else (i_isStop n stop).bind fun r1 =>
 some (!r1)).bind fun (v : Bool) =>
 if v = true then
  some (([] : List Int), false)
 else
  (i_walkTable n list).bind fun r2 =>
  (idx r2 stop).bind fun e =>
  some (e, true)
noncomputable def v_rMinutes_L1 (list : List Walk) (a : Int) (b : Int) : Int → Option (Lp (Int) (Fl (Int) (Unit)))
 | v =>
  if (decide (v < (list.length : Int))) = true then
   (idx list v).bind fun e =>
   (if (e.A == a) = true then (idx list v).bind fun e1 =>
   if (e1.B == b) = true then some true else (idx list v).bind fun e2 =>
   if (e2.A == b) = true then (idx list v).bind fun e3 =>
   some (e3.B == a) else some false else (idx list v).bind fun e4 =>
   if (e4.A == b) = true then (idx list v).bind fun e5 =>
   some (e5.B == a) else some false).bind fun (v1 : Bool) =>
   if v1 = true then
    (idx list v).bind fun e6 =>
    some (.dn (.ret e6.Minutes))
   else
    some (.nx (w64 (v + 1)))
  else
   some (.dn (.go ()))
noncomputable def v_rMinutes (list : List Walk) (a : Int) (b : Int) : Option (Int) :=
 flb (iter (v_rMinutes_L1 list a b) (0 : Int)) fun (_ : Unit) =>
 some (-1)
noncomputable def i_CloseWalks_L1 (n : Network) (r1 : (List (List Int))) (v : Int) : Int × (List Walk) → Option (Lp (Int × (List Walk)) ((List Walk)))
 | (v1, b1) =>
  if (decide (v1 < (n.Stops.length : Int))) = true then
   ((idx r1 v).bind fun e =>
   (idx e v1).bind fun e1 =>
   if (decide (0 ≤ e1)) = true then
    (idx r1 v).bind fun e2 =>
    (idx e v1).bind fun e3 =>
    (chk (b1.length + ([(⟨v, v1, e3⟩ : Walk)] : List Walk).length ≤ 4294967296)).bind fun u =>
    some (b1 ++ ([(⟨v, v1, e3⟩ : Walk)] : List Walk))
   else
    some b1).bind fun (b2 : List Walk) =>
   some (.nx ((w64 (v1 + 1)), b2))
  else
   some (.dn b1)
noncomputable def i_CloseWalks_L2 (n : Network) (r1 : (List (List Int))) : Int × (List Walk) → Option (Lp (Int × (List Walk)) ((List Walk)))
 | (v, b) =>
  if (decide (v < (n.Stops.length : Int))) = true then
   (iter (i_CloseWalks_L1 n r1 v) ((w64 (v + 1)), b)).bind fun (b3 : List Walk) =>
   some (.nx ((w64 (v + 1)), b3))
  else
   some (.dn b)
noncomputable def i_CloseWalks (n : Network) (list : List Walk) : Option ((List Walk) × Bool) :=
 (i_IsValidWalks n list).bind fun r =>
 if (!r) = true then
  some (([] : List Walk), false)
 else
  (i_walkTable n list).bind fun r1 =>
  (iter (i_CloseWalks_L2 n r1) ((0 : Int), ([] : List Walk))).bind fun (b4 : List Walk) =>
  (i_areWalks n b4).bind fun r2 =>
  if (!r2) = true then
   some (([] : List Walk), false)
  else
   some (b4, true)
noncomputable def s_CloseWalks_L1 (n : Network) (b : Int) (r1 : (List Int)) : Int × (List Walk) → Option (Lp (Int × (List Walk)) ((List Walk)))
 | (v, times1) =>
  if (decide (v < (n.Stops.length : Int))) = true then
   ((idx r1 v).bind fun e =>
   if (decide (0 < e)) = true then
    (idx r1 v).bind fun e1 =>
    (chk (times1.length + ([(⟨b, v, e1⟩ : Walk)] : List Walk).length ≤ 4294967296)).bind fun u =>
    some (times1 ++ ([(⟨b, v, e1⟩ : Walk)] : List Walk))
   else
    some times1).bind fun (times2 : List Walk) =>
   some (.nx ((w64 (v + 1)), times2))
  else
   some (.dn times1)
noncomputable def s_CloseWalks_L2 (n : Network) (list : List Walk) : Int × (List Walk) → Option (Lp (Int × (List Walk)) ((List Walk)))
 | (b, times) =>
  if (decide (b < (n.Stops.length : Int))) = true then
   (s_l7Times (n.Stops.length : Int) list b).bind fun r1 =>
   (iter (s_CloseWalks_L1 n b r1) ((w64 (b + 1)), times)).bind fun (times3 : List Walk) =>
   some (.nx ((w64 (b + 1)), times3))
  else
   some (.dn times)
noncomputable def s_CloseWalks (n : Network) (list : List Walk) : Option ((List Walk) × Bool) :=
 (s_l7Good n list).bind fun r =>
 if (!r) = true then
  some (([] : List Walk), false)
 else
  (iter (s_CloseWalks_L2 n list) ((0 : Int), ([] : List Walk))).bind fun (times4 : List Walk) =>
  (s_l7Good n times4).bind fun r2 =>
  if (!r2) = true then
   some (([] : List Walk), false)
  else
   some (times4, true)
noncomputable def v_rWalks_L1 (a : List Walk) (b : List Walk) : Int → Option (Lp (Int) (Fl (Bool) (Unit)))
 | v =>
  if (decide (v < (a.length : Int))) = true then
   (idx a v).bind fun e2 =>
   (idx b v).bind fun e3 =>
   if (!((e2.A == e3.A) && ((e2.B == e3.B) && ((e2.Minutes == e3.Minutes) && true)))) = true then
    some (.dn (.ret false))
   else
    some (.nx (w64 (v + 1)))
  else
   some (.dn (.go ()))
noncomputable def v_rWalks (a : List Walk) (b : List Walk) : Option (Bool) :=
 if ((a.length : Int) != (b.length : Int)) = true then
  some false
 else
  flb (iter (v_rWalks_L1 a b) (0 : Int)) fun (_ : Unit) =>
  some true
noncomputable def i_UselessWalks_L1 (list : List Walk) (r1 : (List (List Int))) : Int × (List Int) → Option (Lp (Int × (List Int)) ((List Int)))
 | (v, w) =>
  if (decide (v < (list.length : Int))) = true then
   ((idx list v).bind fun e =>
   (idx r1 e.A).bind fun e3 =>
   (idx e3 e.B).bind fun e4 =>
   if (decide (e4 < e.Minutes)) = true then
    (chk (w.length + ([v] : List Int).length ≤ 4294967296)).bind fun u =>
    some (w ++ ([v] : List Int))
   else
    some w).bind fun (w1 : List Int) =>
   some (.nx ((w64 (v + 1)), w1))
  else
   some (.dn w)
noncomputable def i_UselessWalks (n : Network) (list : List Walk) : Option ((List Int) × Bool) :=
 (i_IsValidWalks n list).bind fun r =>
 if (!r) = true then
  some (([] : List Int), false)
 else
  (i_walkTable n list).bind fun r1 =>
  (iter (i_UselessWalks_L1 list r1) ((0 : Int), ([] : List Int))).bind fun (w2 : List Int) =>
  some (w2, true)
noncomputable def v_FnWalking_L1 (r1 : Network × (List Walk) × Int × Int) (r2 : (List Int) × Bool) : Int × Int → Option (Lp (Int × Int) (Fl (Fl (Bool) (Unit)) (Int)))
 | (i, m) =>
  if (decide (m < (r2.1.length : Int))) = true then
   (idx r2.1 (w64 (m - 1))).bind fun e2 =>
   (idx r2.1 m).bind fun e3 =>
   (v_rMinutes r1.2.1 e2 e3).bind fun r10 =>
   if (decide (r10 < 0)) = true then
    some (.dn (.ret (.ret false)))
   else
    some (.nx ((w64 (i + r10)), (w64 (m + 1))))
  else
   some (.dn (.go i))
noncomputable def v_FnWalking_L2 (r1 : Network × (List Walk) × Int × Int) (r5 : (List Int) × Bool) : Int → Option (Lp (Int) (Fl (Bool) (Unit)))
 | a =>
  (if (decide (a < (r1.2.1.length : Int))) = true then some r5.2 else some false).bind fun (v4 : Bool) =>
  if v4 = true then
   (idx r1.2.1 a).bind fun e14 =>
   (idx r5.1 e14.A).bind fun e15 =>
   (idx r1.2.1 a).bind fun e16 =>
   (idx r5.1 e16.B).bind fun e17 =>
   (if (!((decide (e15 < 0)) == (decide (e17 < 0)))) = true then some true else (idx r1.2.1 a).bind fun e18 =>
   if (decide ((w64 (e17 + e18.Minutes)) < e15)) = true then some true else (idx r1.2.1 a).bind fun e19 =>
   some (decide ((w64 (e15 + e19.Minutes)) < e17))).bind fun (v5 : Bool) =>
   if v5 = true then
    some (.dn (.ret false))
   else
    some (.nx (w64 (a + 1)))
  else
   some (.dn (.go ()))
noncomputable def v_FnWalking (code : List UInt8) : Option (Bool) :=
 (v_rBig code).bind fun r =>
 if r = true then
  some true
 else
  (s_DrawShortestWalk code).bind fun r1 =>
  (i_ShortestWalk r1.1 r1.2.1 r1.2.2.1 r1.2.2.2).bind fun r2 =>
  (s_ShortestWalk r1.1 r1.2.1 r1.2.2.1 r1.2.2.2).bind fun r3 =>
  (if (!(r2.2 == r3.2)) = true then some true else (v_rInts r2.1 r3.1).bind fun r4 =>
  some (!r4)).bind fun (v : Bool) =>
  if v = true then
   some false
  else
   (i_WalkingTimes r1.1 r1.2.1 r1.2.2.1).bind fun r5 =>
   (s_WalkingTimes r1.1 r1.2.1 r1.2.2.1).bind fun r6 =>
   (if (!(r5.2 == r6.2)) = true then some true else (v_rInts r5.1 r6.1).bind fun r7 =>
   if (!r7) = true then some true else if r5.2 = true then (i_IsValidWalks r1.1 r1.2.1).bind fun r8 =>
   some (!r8) else some false).bind fun (v1 : Bool) =>
   if v1 = true then
    some false
   else
    flb (if r2.2 = true then
     flb (iter (v_FnWalking_L1 r1 r2) ((0 : Int), (1 : Int))) fun (i1 : Int) =>
     (if (!r5.2) = true then some true else (idx r5.1 r1.2.2.2).bind fun e6 =>
     if (i1 != e6) = true then some true else (idx r2.1 0).bind fun e7 =>
     if (e7 != r1.2.2.1) = true then some true else (idx r2.1 (w64 ((r2.1.length : Int) - 1))).bind fun e8 =>
     some (e8 != r1.2.2.2)).bind fun (v2 : Bool) =>
     if v2 = true then
      some (.ret false)
     else
      some (.go ())
    else
     some (.go ())) fun (_ : Unit) =>
    flb (iter (v_FnWalking_L2 r1 r5) (0 : Int)) fun (_ : Unit) =>
    (i_CloseWalks r1.1 r1.2.1).bind fun r15 =>
    (s_CloseWalks r1.1 r1.2.1).bind fun r16 =>
    (if (!(r15.2 == r16.2)) = true then some true else (v_rWalks r15.1 r16.1).bind fun r17 =>
    some (!r17)).bind fun (v6 : Bool) =>
    if v6 = true then
     some false
    else
     flb ((if r15.2 = true then some r5.2 else some false).bind fun (v7 : Bool) =>
     if v7 = true then
      (i_WalkingTimes r1.1 r15.1 r1.2.2.1).bind fun r18 =>
      (i_UselessWalks r1.1 r15.1).bind fun r19 =>
      (if (!r18.2) = true then some true else if (!r19.2) = true then some true else (v_rInts r18.1 r5.1).bind fun r20 =>
      if (!r20) = true then some true else some ((r19.1.length : Int) != 0)).bind fun (v8 : Bool) =>
      if v8 = true then
       some (.ret false)
      else
       some (.go ())
     else
      some (.go ())) fun (_ : Unit) =>
     some true
end Go.Proofs.Ytfknbpimkleimaa
