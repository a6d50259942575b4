/- Models of the functions that the law reaches: plain Lean; none where the function would panic or not end. Made by program (dec.py). -/
import Derived.Test.YtjahononbnbjnaaAbC0
namespace Go.Proofs.Ytjahononbnbjnaa
open Go Go.Ab
set_option maxRecDepth 100000
set_option maxHeartbeats 4000000
set_option linter.unusedVariables false
set_option linter.unusedSimpArgs false
structure l1Cur where
 code_ : List UInt8
 at_ : Int
 seed_ : IK .u64
instance enc_l1Cur : Enc l1Cur := ⟨3, fun x => .agg [Enc.e x.code_, .sc (.int .i64 x.at_), .sc (.int .u64 x.seed_.v)], fun a b h => by
 simp only [D.agg.injEq, List.cons.injEq, and_true] at h
 obtain ⟨a1, a2, a3⟩ := a
 obtain ⟨b1, b2, b3⟩ := b
 obtain ⟨h1, h2, h3⟩ := h
 have q1 := Enc.inj (α := List UInt8) a1 b1 h1
 have q2 := Enc.inj (α := Int) a2 b2 h2
 have q3 := Enc.inj (α := IK .u64) a3 b3 h3
 subst q1; subst q2; subst q3; rfl⟩
structure Line where
 Name : ByteArray
 Stops : List Int
 Runs : List Int
instance enc_Line : Enc Line := ⟨3, fun x => .agg [.sc (.string x.Name), Enc.e x.Stops, Enc.e x.Runs], fun a b h => by
 simp only [D.agg.injEq, List.cons.injEq, and_true] at h
 obtain ⟨a1, a2, a3⟩ := a
 obtain ⟨b1, b2, b3⟩ := b
 obtain ⟨h1, h2, h3⟩ := h
 have q1 := Enc.inj (α := ByteArray) a1 b1 h1
 have q2 := Enc.inj (α := List Int) a2 b2 h2
 have q3 := Enc.inj (α := List Int) a3 b3 h3
 subst q1; subst q2; subst q3; rfl⟩
structure Network where
 Stops : List ByteArray
 Lines : List Line
instance enc_Network : Enc Network := ⟨2, fun x => .agg [Enc.e x.Stops, Enc.e x.Lines], fun a b h => by
 simp only [D.agg.injEq, List.cons.injEq, and_true] at h
 obtain ⟨a1, a2⟩ := a
 obtain ⟨b1, b2⟩ := b
 obtain ⟨h1, h2⟩ := h
 have q1 := Enc.inj (α := List ByteArray) a1 b1 h1
 have q2 := Enc.inj (α := List Line) a2 b2 h2
 subst q1; subst q2; rfl⟩
structure Pattern where
 Line : Int
 Offset : Int
instance enc_Pattern : Enc Pattern := ⟨2, fun x => .agg [.sc (.int .i64 x.Line), .sc (.int .i64 x.Offset)], fun a b h => by
 simp only [D.agg.injEq, List.cons.injEq, and_true] at h
 obtain ⟨a1, a2⟩ := a
 obtain ⟨b1, b2⟩ := b
 obtain ⟨h1, h2⟩ := h
 have q1 := Enc.inj (α := Int) a1 b1 h1
 have q2 := Enc.inj (α := Int) a2 b2 h2
 subst q1; subst q2; rfl⟩
instance : BxE l1Cur := ⟨fun x y h => Enc.inj x y (congrArg D.agg h)⟩
instance : BxE Line := ⟨fun x y h => Enc.inj x y (congrArg D.agg h)⟩
instance : BxE Network := ⟨fun x y h => Enc.inj x y (congrArg D.agg h)⟩
instance : BxE Pattern := ⟨fun x y h => Enc.inj x y (congrArg D.agg h)⟩
instance : FlatEnc Pattern := ⟨fun _ => flatDB_ok rfl⟩
noncomputable def zq92 (code : List UInt8) : Option (Bool) :=
 some (decide (65536 < (code.length : Int)))
noncomputable def zq49 (c : l1Cur) : Option (Int × l1Cur) :=
 (if (decide (c.at_ < (c.code_.length : Int))) = true then
  (idx c.code_ c.at_).bind fun e1 =>
  some (w64 ((e1.toNat : Int)))
 else
  some (0 : Int)).bind fun (v : Int) =>
 if (decide ((w64 (c.at_ + 1)) ≤ (c.code_.length : Int))) = true then
  some (v, (⟨c.code_, (w64 (c.at_ + 1)), (⟨(IntKind.u64.wrap ((IntKind.u64.wrap ((IntKind.u64.wrap (c.seed_.v * 6364136223846793005)) + (IntKind.u64.wrap (v)))) + 900900))⟩ : IK .u64)⟩ : l1Cur))
 else
  (chk ((0 : Int) ≤ 40)).bind fun u =>
  some ((w64 ((IntKind.u64.wrap ((BitVec.ofInt (IntKind.u64).bits ((IntKind.u64.wrap ((IntKind.u64.wrap ((IntKind.u64.wrap (c.seed_.v * 6364136223846793005)) + (IntKind.u64.wrap (v)))) + 900900)).fdiv (2 ^ (min (40 : Int).toNat (IntKind.u64).bits))) &&& BitVec.ofInt (IntKind.u64).bits 255).toNat : Int)))), (⟨c.code_, (w64 (c.at_ + 1)), (⟨(IntKind.u64.wrap ((IntKind.u64.wrap ((IntKind.u64.wrap (c.seed_.v * 6364136223846793005)) + (IntKind.u64.wrap (v)))) + 900900))⟩ : IK .u64)⟩ : l1Cur))
noncomputable def zq54 (c : l1Cur) (n : Int) : Option (Int × l1Cur) :=
 if (decide (n ≤ 1)) = true then
  some (0, c)
 else
  (zq49 c).bind fun r =>
  (if (decide (200 < n)) = true then
   (zq49 r.2).bind fun r1 =>
   some ((w64 ((w64 (r.1 * 256)) + r1.1)), r1.2.code_, r1.2.at_, r1.2.seed_.v)
  else
   some (r.1, r.2.code_, r.2.at_, r.2.seed_.v)).bind fun ((v, v1, v2, v3) : Int × (List UInt8) × Int × Int) =>
  (chk ((n : Int) ≠ 0)).bind fun u =>
  some ((v.tmod n), (⟨v1, v2, (⟨v3⟩ : IK .u64)⟩ : l1Cur))
noncomputable def zq59_F (rec_ : Int → Option (ByteArray)) (n : Int) : Option (ByteArray) :=
 if (decide (n < 0)) = true then
  (rec_ (w64 (0 - n))).bind fun r =>
  (chk ((str [45]).size + r.size ≤ 4294967296)).bind fun u =>
  some ((str [45]) ++ r)
 else
  if (decide (n < 10)) = true then
   (chk ((0 : Int) ≤ n ∧ (n : Int) ≤ (w64 (n + 1)) ∧ (w64 (n + 1)) ≤ ((str [48, 49, 50, 51, 52, 53, 54, 55, 56, 57]).size : Int))).bind fun u1 =>
   some ((str [48, 49, 50, 51, 52, 53, 54, 55, 56, 57]).extract n.toNat (w64 (n + 1)).toNat)
  else
   (chk ((10 : Int) ≠ 0)).bind fun u7 =>
   (rec_ (w64 (n.tdiv 10))).bind fun r2 =>
   (chk ((10 : Int) ≠ 0)).bind fun u8 =>
   (chk ((10 : Int) ≠ 0)).bind fun u9 =>
   (chk ((0 : Int) ≤ (n.tmod 10) ∧ ((n.tmod 10) : Int) ≤ (w64 ((n.tmod 10) + 1)) ∧ (w64 ((n.tmod 10) + 1)) ≤ ((str [48, 49, 50, 51, 52, 53, 54, 55, 56, 57]).size : Int))).bind fun u10 =>
   (chk (r2.size + ((str [48, 49, 50, 51, 52, 53, 54, 55, 56, 57]).extract (n.tmod 10).toNat (w64 ((n.tmod 10) + 1)).toNat).size ≤ 4294967296)).bind fun u11 =>
   some (r2 ++ ((str [48, 49, 50, 51, 52, 53, 54, 55, 56, 57]).extract (n.tmod 10).toNat (w64 ((n.tmod 10) + 1)).toNat))
noncomputable def zq59_k : Nat → Int → Option (ByteArray)
 | 0 => fun _ => none
 | n + 1 => zq59_F (zq59_k n)
noncomputable def zq59 (n : Int) : Option (ByteArray) := zq59_k 4294967296 n
noncomputable def zq71_L1 (x : Line) (stop : Int) : Int → Option (Lp (Int) (Fl (Int) (Unit)))
 | v =>
  if (decide (v < (x.Stops.length : Int))) = true then
   (idx x.Stops v).bind fun e =>
   if (e == stop) = true then
    some (.dn (.ret v))
   else
    some (.nx (w64 (v + 1)))
  else
   some (.dn (.go ()))
noncomputable def zq71 (x : Line) (stop : Int) : Option (Int) :=
 flb (iter (zq71_L1 x stop) (0 : Int)) fun (_ : Unit) =>
 some (-1)
noncomputable def zq46_L1 (name : ByteArray) (stops : Int) : Int × Int × (List UInt8) × Int × Int × (List Int) → Option (Lp (Int × Int × (List UInt8) × Int × Int × (List Int)) ((List UInt8) × Int × Int × (List Int)))
 | (v, v1, v2, v3, v4, v5) =>
  if (decide (0 < v1)) = true then
   ((zq71 (⟨name, v5, ([] : List Int)⟩ : Line) v).bind fun r2 =>
   if (decide (r2 < 0)) = true then
    (chk (v5.length + ([v] : List Int).length ≤ 4294967296)).bind fun u =>
    some (v5 ++ ([v] : List Int))
   else
    some v5).bind fun (v6 : List Int) =>
   (zq54 (⟨v2, v3, (⟨v4⟩ : IK .u64)⟩ : l1Cur) 2).bind fun r3 =>
   (chk ((stops : Int) ≠ 0)).bind fun u1 =>
   some (.nx (((w64 ((w64 (v + 1)) + r3.1)).tmod stops), (w64 (v1 - 1)), r3.2.code_, r3.2.at_, r3.2.seed_.v, v6))
  else
   some (.dn (v2, v3, v4, v5))
noncomputable def zq46_L2 (v11 : List Int) : Int × (List UInt8) × Int × Int × (List Int) → Option (Lp (Int × (List UInt8) × Int × Int × (List Int)) ((List UInt8) × Int × Int × (List Int)))
 | (v12, v13, v14, v15, v16) =>
  if (decide (v12 < (v11.length : Int))) = true then
   (zq54 (⟨v13, v14, (⟨v15⟩ : IK .u64)⟩ : l1Cur) 12).bind fun r5 =>
   (chk (v16.length + ([(w64 (3 + r5.1))] : List Int).length ≤ 4294967296)).bind fun u7 =>
   some (.nx ((w64 (v12 + 1)), r5.2.code_, r5.2.at_, r5.2.seed_.v, (v16 ++ ([(w64 (3 + r5.1))] : List Int))))
  else
   some (.dn (v13, v14, v15, v16))
noncomputable def zq46 (c : l1Cur) (name : ByteArray) (stops : Int) : Option (Line × l1Cur) :=
 (zq54 c stops).bind fun r =>
 (zq54 r.2 3).bind fun r1 =>
 (iter (zq46_L1 name stops) (r.1, (w64 (2 + r1.1)), r1.2.code_, r1.2.at_, r1.2.seed_.v, ([] : List Int))).bind fun ((v7, v8, v9, v10) : (List UInt8) × Int × Int × (List Int)) =>
 (if (decide ((v10.length : Int) < 2)) = true then
  (idx v10 0).bind fun e1 =>
  (chk ((stops : Int) ≠ 0)).bind fun u4 =>
  (chk (v10.length + ([((w64 (e1 + 1)).tmod stops)] : List Int).length ≤ 4294967296)).bind fun u5 =>
  some (v10 ++ ([((w64 (e1 + 1)).tmod stops)] : List Int))
 else
  some v10).bind fun (v11 : List Int) =>
 (iter (zq46_L2 v11) ((1 : Int), v7, v8, v9, ([] : List Int))).bind fun ((v17, v18, v19, v20) : (List UInt8) × Int × Int × (List Int)) =>
 some ((⟨name, v11, v20⟩ : Line), (⟨v17, v18, (⟨v19⟩ : IK .u64)⟩ : l1Cur))
noncomputable def zq47_L1 (name : ByteArray) (stops : Int) : Int × Int × (List UInt8) × Int × Int × (List Int) → Option (Lp (Int × Int × (List UInt8) × Int × Int × (List Int)) ((List UInt8) × Int × Int × (List Int)))
 | (v, v1, v2, v3, v4, v5) =>
  if (decide (0 < v1)) = true then
   ((zq71 (⟨name, v5, ([] : List Int)⟩ : Line) v).bind fun r2 =>
   if (decide (r2 < 0)) = true then
    (chk (v5.length + ([v] : List Int).length ≤ 4294967296)).bind fun u =>
    some (v5 ++ ([v] : List Int))
   else
    some v5).bind fun (v6 : List Int) =>
   (zq54 (⟨v2, v3, (⟨v4⟩ : IK .u64)⟩ : l1Cur) 2).bind fun r3 =>
   (chk ((stops : Int) ≠ 0)).bind fun u1 =>
   some (.nx (((w64 ((w64 (v + 1)) + r3.1)).tmod stops), (w64 (v1 - 1)), r3.2.code_, r3.2.at_, r3.2.seed_.v, v6))
  else
   some (.dn (v2, v3, v4, v5))
noncomputable def zq47_L2 (v11 : List Int) : Int × (List UInt8) × Int × Int × (List Int) → Option (Lp (Int × (List UInt8) × Int × Int × (List Int)) ((List UInt8) × Int × Int × (List Int)))
 | (v12, v13, v14, v15, v16) =>
  if (decide (v12 < (v11.length : Int))) = true then
   (zq54 (⟨v13, v14, (⟨v15⟩ : IK .u64)⟩ : l1Cur) 12).bind fun r5 =>
   (chk (v16.length + ([(w64 (3 + r5.1))] : List Int).length ≤ 4294967296)).bind fun u7 =>
   some (.nx ((w64 (v12 + 1)), r5.2.code_, r5.2.at_, r5.2.seed_.v, (v16 ++ ([(w64 (3 + r5.1))] : List Int))))
  else
   some (.dn (v13, v14, v15, v16))
noncomputable def zq47 (c : l1Cur) (name : ByteArray) (stops : Int) : Option (Line × l1Cur) :=
 (zq54 c stops).bind fun r =>
 (zq54 r.2 3).bind fun r1 =>
 (iter (zq47_L1 name stops) (r.1, (w64 (2 + r1.1)), r1.2.code_, r1.2.at_, r1.2.seed_.v, ([] : List Int))).bind fun ((v7, v8, v9, v10) : (List UInt8) × Int × Int × (List Int)) =>
 (if (decide ((v10.length : Int) < 2)) = true then
  (idx v10 0).bind fun e1 =>
  (chk ((stops : Int) ≠ 0)).bind fun u4 =>
  (chk (v10.length + ([((w64 (e1 + 1)).tmod stops)] : List Int).length ≤ 4294967296)).bind fun u5 =>
  some (v10 ++ ([((w64 (e1 + 1)).tmod stops)] : List Int))
 else
  some v10).bind fun (v11 : List Int) =>
 (iter (zq47_L2 v11) ((1 : Int), v7, v8, v9, ([] : List Int))).bind fun ((v17, v18, v19, v20) : (List UInt8) × Int × Int × (List Int)) =>
 some ((⟨name, v11, v20⟩ : Line), (⟨v17, v18, (⟨v19⟩ : IK .u64)⟩ : l1Cur))
noncomputable def zq52 (c : l1Cur) (n : Int) : Option (Bool × l1Cur) :=
 (zq54 c n).bind fun r =>
 some ((r.1 == 0), r.2)
noncomputable def zq62_L1 (list : List Int) : Int × (List Int) → Option (Lp (Int × (List Int)) ((List Int)))
 | (v, i) =>
  if (decide (0 ≤ v)) = true then
   (idx list v).bind fun e =>
   (chk (i.length + ([e] : List Int).length ≤ 4294967296)).bind fun u =>
   some (.nx ((w64 (v - 1)), (i ++ ([e] : List Int))))
  else
   some (.dn i)
noncomputable def zq62 (list : List Int) : Option ((List Int)) :=
 (iter (zq62_L1 list) ((w64 ((list.length : Int) - 1)), ([] : List Int))).bind fun (i1 : List Int) =>
 some i1
noncomputable def zq63_L1 (list : List Int) : Int × (List Int) → Option (Lp (Int × (List Int)) ((List Int)))
 | (v, i) =>
  if (decide (0 ≤ v)) = true then
   (idx list v).bind fun e =>
   (chk (i.length + ([e] : List Int).length ≤ 4294967296)).bind fun u =>
   some (.nx ((w64 (v - 1)), (i ++ ([e] : List Int))))
  else
   some (.dn i)
noncomputable def zq63 (list : List Int) : Option ((List Int)) :=
 (iter (zq63_L1 list) ((w64 ((list.length : Int) - 1)), ([] : List Int))).bind fun (i1 : List Int) =>
 some i1
noncomputable def zq60 (l : List Int) : Option ((List Int)) :=
 (chk (([] : List Int).length + l.length ≤ 4294967296)).bind fun u =>
 some (([] : List Int) ++ l)
noncomputable def zq61 (l : List Int) : Option ((List Int)) :=
 (chk (([] : List Int).length + l.length ≤ 4294967296)).bind fun u =>
 some (([] : List Int) ++ l)
noncomputable def zq69_L1 (n : Network) : Int × (List Line) → Option (Lp (Int × (List Line)) ((List Line)))
 | (v, v1) =>
  if (decide (v < (n.Lines.length : Int))) = true then
   (idx n.Lines v).bind fun e3 =>
   (idx n.Lines v).bind fun e4 =>
   (zq61 e4.Stops).bind fun r2 =>
   (idx n.Lines v).bind fun e5 =>
   (zq61 e5.Runs).bind fun r3 =>
   (chk (v1.length + ([(⟨e3.Name, r2, r3⟩ : Line)] : List Line).length ≤ 4294967296)).bind fun u2 =>
   some (.nx ((w64 (v + 1)), (v1 ++ ([(⟨e3.Name, r2, r3⟩ : Line)] : List Line))))
  else
   some (.dn v1)
noncomputable def zq69 (n : Network) : Option (Network) :=
 (chk (([] : List ByteArray).length + n.Stops.length ≤ 4294967296)).bind fun u =>
 (iter (zq69_L1 n) ((0 : Int), ([] : List Line))).bind fun (v2 : List Line) =>
 some (⟨(([] : List ByteArray) ++ n.Stops), v2⟩ : Network)
noncomputable def zq50 (c : l1Cur) (list : List ByteArray) : Option (ByteArray × l1Cur) :=
 (zq54 c (list.length : Int)).bind fun r =>
 (idx list r.1).bind fun e =>
 some (e, r.2)
noncomputable def zq51 (c : l1Cur) (list : List ByteArray) : Option (ByteArray × l1Cur) :=
 (zq54 c (list.length : Int)).bind fun r =>
 (idx list r.1).bind fun e =>
 some (e, r.2)
noncomputable def zq70_L1 (n : Network) : Int × (List Line) → Option (Lp (Int × (List Line)) ((List Line)))
 | (v, v1) =>
  if (decide (v < (n.Lines.length : Int))) = true then
   (idx n.Lines v).bind fun e3 =>
   (idx n.Lines v).bind fun e4 =>
   (zq60 e4.Stops).bind fun r2 =>
   (idx n.Lines v).bind fun e5 =>
   (zq60 e5.Runs).bind fun r3 =>
   (chk (v1.length + ([(⟨e3.Name, r2, r3⟩ : Line)] : List Line).length ≤ 4294967296)).bind fun u2 =>
   some (.nx ((w64 (v + 1)), (v1 ++ ([(⟨e3.Name, r2, r3⟩ : Line)] : List Line))))
  else
   some (.dn v1)
noncomputable def zq70 (n : Network) : Option (Network) :=
 (chk (([] : List ByteArray).length + n.Stops.length ≤ 4294967296)).bind fun u =>
 (iter (zq70_L1 n) ((0 : Int), ([] : List Line))).bind fun (v2 : List Line) =>
 some (⟨(([] : List ByteArray) ++ n.Stops), v2⟩ : Network)
noncomputable def zq48_L1 (r : Int × l1Cur) : Int × (List UInt8) × Int × Int × (List Line) → Option (Lp (Int × (List UInt8) × Int × Int × (List Line)) ((List UInt8) × Int × Int × (List Line)))
 | (x, v, v1, v2, v3) =>
  if (decide (0 < x)) = true then
   (zq59 x).bind fun r4 =>
   (chk ((str [108]).size + r4.size ≤ 4294967296)).bind fun u3 =>
   (zq47 (⟨v, v1, (⟨v2⟩ : IK .u64)⟩ : l1Cur) ((str [108]) ++ r4) (w64 (2 + r.1))).bind fun r5 =>
   (chk (v3.length + ([r5.1] : List Line).length ≤ 4294967296)).bind fun u4 =>
   some (.nx ((w64 (x - 1)), r5.2.code_, r5.2.at_, r5.2.seed_.v, (v3 ++ ([r5.1] : List Line))))
  else
   some (.dn (v, v1, v2, v3))
noncomputable def zq48 (c : l1Cur) : Option (Network × l1Cur) :=
 (zq54 c 5).bind fun r =>
 (chk ((0 : Int) ≤ 0 ∧ (0 : Int) ≤ (w64 (2 + r.1)) ∧ (w64 (2 + r.1)) ≤ (([(str [112, 111, 114, 116]), (str [109, 105, 108, 108]), (str [112, 97, 114, 107]), (str [104, 97, 108, 108]), (str [100, 111, 99, 107]), (str [102, 97, 105, 114])] : List ByteArray).length : Int))).bind fun u =>
 (zq54 r.2 3).bind fun r1 =>
 (iter (zq48_L1 r) ((w64 (1 + r1.1)), r1.2.code_, r1.2.at_, r1.2.seed_.v, ([] : List Line))).bind fun ((v4, v5, v6, v7) : (List UInt8) × Int × Int × (List Line)) =>
 ((zq52 (⟨v4, v5, (⟨v6⟩ : IK .u64)⟩ : l1Cur) 2).bind fun r6 =>
 if r6.1 = true then
  (idx v7 0).bind fun e =>
  (zq63 e.Stops).bind fun r9 =>
  (zq63 e.Runs).bind fun r10 =>
  (chk (v7.length + ([(⟨(str [114, 49]), r9, r10⟩ : Line)] : List Line).length ≤ 4294967296)).bind fun u6 =>
  some (r6.2.code_, r6.2.at_, r6.2.seed_.v, (v7 ++ ([(⟨(str [114, 49]), r9, r10⟩ : Line)] : List Line)))
 else
  some (r6.2.code_, r6.2.at_, r6.2.seed_.v, v7)).bind fun ((v8, v9, v10, v11) : (List UInt8) × Int × Int × (List Line)) =>
 (zq70 (⟨((([(str [112, 111, 114, 116]), (str [109, 105, 108, 108]), (str [112, 97, 114, 107]), (str [104, 97, 108, 108]), (str [100, 111, 99, 107]), (str [102, 97, 105, 114])] : List ByteArray).take (w64 (2 + r.1)).toNat).drop (0 : Int).toNat), v11⟩ : Network)).bind fun r11 =>
 some ((⟨r11.Stops, r11.Lines⟩ : Network), (⟨v8, v9, (⟨v10⟩ : IK .u64)⟩ : l1Cur))
noncomputable def zq43 (c : l1Cur) (list : List Int) : Option (Int × l1Cur) :=
 (zq54 c (list.length : Int)).bind fun r =>
 (idx list r.1).bind fun e =>
 some (e, r.2)
noncomputable def zq44 (c : l1Cur) (list : List Int) : Option (Int × l1Cur) :=
 (zq54 c (list.length : Int)).bind fun r =>
 (idx list r.1).bind fun e =>
 some (e, r.2)
noncomputable def zq45_L1 (r : Network × l1Cur) : Int × (List UInt8) × Int × Int × (List Line) → Option (Lp (Int × (List UInt8) × Int × Int × (List Line)) ((List UInt8) × Int × Int × (List Line)))
 | (v7, v8, v9, v10, v11) =>
  (zq54 (⟨v8, v9, (⟨v10⟩ : IK .u64)⟩ : l1Cur) 2).bind fun r16 =>
  (if (decide ((v11.length : Int) < (w64 (5 + r16.1)))) = true then some (decide (v7 < 7)) else some false).bind fun (v12 : Bool) =>
  if v12 = true then
   (zq59 v7).bind fun r19 =>
   (chk ((str [120]).size + r19.size ≤ 4294967296)).bind fun u3 =>
   (zq46 r16.2 ((str [120]) ++ r19) (r.1.Stops.length : Int)).bind fun r20 =>
   (chk (v11.length + ([(⟨r20.1.Name, r20.1.Stops, r20.1.Runs⟩ : Line)] : List Line).length ≤ 4294967296)).bind fun u4 =>
   some (.nx ((w64 (v7 + 1)), r20.2.code_, r20.2.at_, r20.2.seed_.v, (v11 ++ ([(⟨r20.1.Name, r20.1.Stops, r20.1.Runs⟩ : Line)] : List Line))))
  else
   some (.dn (r16.2.code_, r16.2.at_, r16.2.seed_.v, v11))
noncomputable def zq45 (c : l1Cur) : Option (Network × l1Cur) :=
 (zq48 c).bind fun r =>
 (zq54 r.2 (r.1.Lines.length : Int)).bind fun r1 =>
 (idx r.1.Lines r1.1).bind fun e =>
 flb ((zq54 r1.2 24).bind fun r2 =>
 if (r2.1 == 0) = true then
  (zq51 r2.2 ([(str [109, 105, 108, 108]), (str []), (str [65]), (str [97, 98, 99, 100, 101, 102, 103, 104]), (str [97, 98, 99, 100, 101, 102, 103, 104, 105])] : List ByteArray)).bind fun r4 =>
  (idx r.1.Stops 0).bind fun e2 =>
  some (.go (r4.2.code_, r4.2.at_, r4.2.seed_.v, e.Name, (r.1.Stops.set (0 : Int).toNat r4.1), r.1.Lines, e.Runs))
 else
  if (r2.1 == 1) = true then
   (zq51 r2.2 ([(str [114, 49]), (str [108, 49]), (str []), (str [88])] : List ByteArray)).bind fun r5 =>
   some (.go (r5.2.code_, r5.2.at_, r5.2.seed_.v, r5.1, r.1.Stops, r.1.Lines, e.Runs))
  else
   if (r2.1 == 2) = true then
    (zq54 r2.2 (e.Stops.length : Int)).bind fun r8 =>
    (zq54 r8.2 10).bind fun r9 =>
    (idx e.Stops r8.1).bind fun e4 =>
    some (.go (r9.2.code_, r9.2.at_, r9.2.seed_.v, e.Name, r.1.Stops, (r.1.Lines.set r1.1.toNat (⟨e.Name, (e.Stops.set r8.1.toNat (w64 (r9.1 - 1))), e.Runs⟩ : Line)), ((⟨e.Name, (e.Stops.set r8.1.toNat (w64 (r9.1 - 1))), e.Runs⟩ : Line).Runs)))
   else
    if (r2.1 == 3) = true then
     (zq54 r2.2 (e.Runs.length : Int)).bind fun r12 =>
     (zq44 r12.2 ([0, 60, 61, (-1)] : List Int)).bind fun r13 =>
     (idx e.Runs r12.1).bind fun e6 =>
     some (.go (r13.2.code_, r13.2.at_, r13.2.seed_.v, e.Name, r.1.Stops, (r.1.Lines.set r1.1.toNat (⟨e.Name, e.Stops, (e.Runs.set r12.1.toNat r13.1)⟩ : Line)), ((⟨e.Name, e.Stops, (e.Runs.set r12.1.toNat r13.1)⟩ : Line).Runs)))
    else
     if (r2.1 == 4) = true then
      (chk (e.Runs.length + ([3] : List Int).length ≤ 4294967296)).bind fun u =>
      some (.go (r2.2.code_, r2.2.at_, r2.2.seed_.v, e.Name, r.1.Stops, r.1.Lines, (e.Runs ++ ([3] : List Int))))
     else
      if (r2.1 == 5) = true then
       some (.ret ((⟨r.1.Stops, ([] : List Line)⟩ : Network), r2.2))
      else
       if (r2.1 == 6) = true then
        (iter (zq45_L1 r) ((0 : Int), r2.2.code_, r2.2.at_, r2.2.seed_.v, r.1.Lines)).bind fun ((v13, v14, v15, v16) : (List UInt8) × Int × Int × (List Line)) =>
        some (.ret ((⟨r.1.Stops, v16⟩ : Network), (⟨v13, v14, (⟨v15⟩ : IK .u64)⟩ : l1Cur)))
       else
        some (.go (r2.2.code_, r2.2.at_, r2.2.seed_.v, e.Name, r.1.Stops, r.1.Lines, e.Runs))) fun ((v, v1, v2, v3, v4, v5, v6) : (List UInt8) × Int × Int × ByteArray × (List ByteArray) × (List Line) × (List Int)) =>
 (idx v5 r1.1).bind fun e9 =>
 some ((⟨v4, (v5.set r1.1.toNat (⟨v3, e9.Stops, v6⟩ : Line))⟩ : Network), (⟨v, v1, (⟨v2⟩ : IK .u64)⟩ : l1Cur))
noncomputable def zq53_L1 (r : Network × l1Cur) (r1 : Int × l1Cur) : Int × (List UInt8) × Int × Int × (List Pattern) → Option (Lp (Int × (List UInt8) × Int × Int × (List Pattern)) ((List UInt8) × Int × Int × (List Pattern)))
 | (x, v, v1, v2, k) =>
  (if (decide (0 < x)) = true then some (decide (0 < (r.1.Lines.length : Int))) else some false).bind fun (v3 : Bool) =>
  if v3 = true then
   (zq54 (⟨v, v1, (⟨v2⟩ : IK .u64)⟩ : l1Cur) (r.1.Lines.length : Int)).bind fun r3 =>
   (zq54 r3.2 r1.1).bind fun r4 =>
   (chk (k.length + ([(⟨r3.1, r4.1⟩ : Pattern)] : List Pattern).length ≤ 4294967296)).bind fun u1 =>
   some (.nx ((w64 (x - 1)), r4.2.code_, r4.2.at_, r4.2.seed_.v, (k ++ ([(⟨r3.1, r4.1⟩ : Pattern)] : List Pattern))))
  else
   some (.dn (v, v1, v2, k))
noncomputable def zq53_L2 (e : Pattern) : (List UInt8) × Int × Int × (List Pattern) → Option (Lp ((List UInt8) × Int × Int × (List Pattern)) ((List UInt8) × Int × Int × (List Pattern)))
 | (v12, v13, v14, k4) =>
  (zq54 (⟨v12, v13, (⟨v14⟩ : IK .u64)⟩ : l1Cur) 2).bind fun r10 =>
  if (decide ((k4.length : Int) < (w64 (3 + r10.1)))) = true then
   (chk (k4.length + ([e] : List Pattern).length ≤ 4294967296)).bind fun u2 =>
   some (.nx (r10.2.code_, r10.2.at_, r10.2.seed_.v, (k4 ++ ([e] : List Pattern))))
  else
   some (.dn (r10.2.code_, r10.2.at_, r10.2.seed_.v, k4))
noncomputable def zq53 (c : l1Cur) (most : Int) : Option (Network × Int × (List Pattern) × l1Cur) :=
 (zq45 c).bind fun r =>
 (chk ((0 : Int) ≤ 0 ∧ (0 : Int) ≤ most ∧ most ≤ (([1, 5, 6, 10, 12, 15, 20, 30, 60] : List Int).length : Int))).bind fun u =>
 (zq43 r.2 ((([1, 5, 6, 10, 12, 15, 20, 30, 60] : List Int).take most.toNat).drop (0 : Int).toNat)).bind fun r1 =>
 (zq54 r1.2 3).bind fun r2 =>
 (iter (zq53_L1 r r1) ((w64 (1 + r2.1)), r2.2.code_, r2.2.at_, r2.2.seed_.v, ([] : List Pattern))).bind fun ((v4, v5, v6, k1) : (List UInt8) × Int × Int × (List Pattern)) =>
 if ((k1.length : Int) == 0) = true then
  some ((⟨r.1.Stops, r.1.Lines⟩ : Network), r1.1, k1, (⟨v4, v5, (⟨v6⟩ : IK .u64)⟩ : l1Cur))
 else
  (zq54 (⟨v4, v5, (⟨v6⟩ : IK .u64)⟩ : l1Cur) (k1.length : Int)).bind fun r5 =>
  (idx k1 r5.1).bind fun e =>
  ((zq54 r5.2 40).bind fun r6 =>
  if (r6.1 == 0) = true then
   (zq43 r6.2 ([(-1), 5] : List Int)).bind fun r7 =>
   some (r1.1, r7.2.code_, r7.2.at_, r7.2.seed_.v, k1, r7.1, e.Offset)
  else
   if (r6.1 == 1) = true then
    (zq43 r6.2 ([(-1), r1.1] : List Int)).bind fun r8 =>
    some (r1.1, r8.2.code_, r8.2.at_, r8.2.seed_.v, k1, e.Line, r8.1)
   else
    if (r6.1 == 2) = true then
     (zq43 r6.2 ([0, 61, 60] : List Int)).bind fun r9 =>
     some (r9.1, r9.2.code_, r9.2.at_, r9.2.seed_.v, k1, e.Line, e.Offset)
    else
     if (r6.1 == 3) = true then
      (iter (zq53_L2 e) (r6.2.code_, r6.2.at_, r6.2.seed_.v, k1)).bind fun ((v15, v16, v17, k5) : (List UInt8) × Int × Int × (List Pattern)) =>
      some (r1.1, v15, v16, v17, k5, e.Line, e.Offset)
     else
      some (r1.1, r6.2.code_, r6.2.at_, r6.2.seed_.v, k1, e.Line, e.Offset)).bind fun ((k2, v7, v8, v9, k3, v10, v11) : Int × (List UInt8) × Int × Int × (List Pattern) × Int × Int) =>
  (idx k3 r5.1).bind fun e1 =>
  some ((⟨r.1.Stops, r.1.Lines⟩ : Network), k2, (k3.set r5.1.toNat (⟨v10, v11⟩ : Pattern)), (⟨v7, v8, (⟨v9⟩ : IK .u64)⟩ : l1Cur))
noncomputable def zq57 (x : Int) (a : Int) (b : Int) : Option (Bool) :=
 (if (decide (a ≤ x)) = true then some (decide (x ≤ b)) else some false).bind fun (v : Bool) =>
 some v
noncomputable def zq68_L1 (s : ByteArray) : Int → Option (Lp (Int) (Fl (Bool) (Unit)))
 | v1 =>
  if (decide (v1 < (s.size : Int))) = true then
   (chk ((0 : Int) ≤ v1 ∧ v1 < (s.size : Int))).bind fun u2 =>
   (if (decide (((s.data.toList.getD v1.toNat 0).toNat : Int) < 97)) = true then (chk ((0 : Int) ≤ v1 ∧ v1 < (s.size : Int))).bind fun u3 =>
   if (decide (((s.data.toList.getD v1.toNat 0).toNat : Int) < 48)) = true then some true else (chk ((0 : Int) ≤ v1 ∧ v1 < (s.size : Int))).bind fun u4 =>
   some (decide (57 < ((s.data.toList.getD v1.toNat 0).toNat : Int))) else (chk ((0 : Int) ≤ v1 ∧ v1 < (s.size : Int))).bind fun u5 =>
   if (decide (122 < ((s.data.toList.getD v1.toNat 0).toNat : Int))) = true then (chk ((0 : Int) ≤ v1 ∧ v1 < (s.size : Int))).bind fun u6 =>
   if (decide (((s.data.toList.getD v1.toNat 0).toNat : Int) < 48)) = true then some true else (chk ((0 : Int) ≤ v1 ∧ v1 < (s.size : Int))).bind fun u7 =>
   some (decide (57 < ((s.data.toList.getD v1.toNat 0).toNat : Int))) else some false).bind fun (v2 : Bool) =>
   if v2 = true then
    some (.dn (.ret false))
   else
    some (.nx (w64 (v1 + 1)))
  else
   some (.dn (.go ()))
noncomputable def zq68 (s : ByteArray) : Option (Bool) :=
 (zq57 (s.size : Int) 1 8).bind fun r =>
 (if (!r) = true then some true else (chk ((0 : Int) ≤ 0 ∧ 0 < (s.size : Int))).bind fun u =>
 if (decide (((s.data.toList.getD (0 : Int).toNat 0).toNat : Int) < 97)) = true then some true else (chk ((0 : Int) ≤ 0 ∧ 0 < (s.size : Int))).bind fun u1 =>
 some (decide (122 < ((s.data.toList.getD (0 : Int).toNat 0).toNat : Int)))).bind fun (v : Bool) =>
 if v = true then
  some false
 else
  flb (iter (zq68_L1 s) (0 : Int)) fun (_ : Unit) =>
  some true
noncomputable def zq64_L1 (list : List ByteArray) (name : ByteArray) : Int → Option (Lp (Int) (Fl (Int) (Unit)))
 | v =>
  if (decide (v < (list.length : Int))) = true then
   (idx list v).bind fun e =>
   if (e.toList == name.toList) = true then
    some (.dn (.ret v))
   else
    some (.nx (w64 (v + 1)))
  else
   some (.dn (.go ()))
noncomputable def zq64 (list : List ByteArray) (name : ByteArray) : Option (Int) :=
 flb (iter (zq64_L1 list name) (0 : Int)) fun (_ : Unit) =>
 some (-1)
noncomputable def zq66_L1 (x : Line) (stops : Int) : Int → Option (Lp (Int) (Fl (Bool) (Unit)))
 | v1 =>
  if (decide (v1 < (x.Stops.length : Int))) = true then
   (idx x.Stops v1).bind fun e2 =>
   (zq57 e2 0 (w64 (stops - 1))).bind fun r4 =>
   (if (!r4) = true then some true else (idx x.Stops v1).bind fun e3 =>
   (zq71 x e3).bind fun r5 =>
   some (r5 != v1)).bind fun (v2 : Bool) =>
   if v2 = true then
    some (.dn (.ret false))
   else
    some (.nx (w64 (v1 + 1)))
  else
   some (.dn (.go ()))
noncomputable def zq66_L2 (x : Line) : Int → Option (Lp (Int) (Fl (Bool) (Unit)))
 | v3 =>
  if (decide (v3 < (x.Runs.length : Int))) = true then
   (idx x.Runs v3).bind fun e5 =>
   (zq57 e5 1 60).bind fun r7 =>
   if (!r7) = true then
    some (.dn (.ret false))
   else
    some (.nx (w64 (v3 + 1)))
  else
   some (.dn (.go ()))
noncomputable def zq66 (x : Line) (stops : Int) : Option (Bool) :=
 (zq68 x.Name).bind fun r =>
 (if (!r) = true then some true else (zq57 (x.Stops.length : Int) 2 6).bind fun r1 =>
 if (!r1) = true then some true else some ((x.Runs.length : Int) != (w64 ((x.Stops.length : Int) - 1)))).bind fun (v : Bool) =>
 if v = true then
  some false
 else
  flb (iter (zq66_L1 x stops) (0 : Int)) fun (_ : Unit) =>
  flb (iter (zq66_L2 x) (0 : Int)) fun (_ : Unit) =>
  some true
noncomputable def zq67_L1 (n : Network) (name : ByteArray) : Int → Option (Lp (Int) (Fl (Int) (Unit)))
 | v =>
  if (decide (v < (n.Lines.length : Int))) = true then
   (idx n.Lines v).bind fun e =>
   if (e.Name.toList == name.toList) = true then
    some (.dn (.ret v))
   else
    some (.nx (w64 (v + 1)))
  else
   some (.dn (.go ()))
noncomputable def zq67 (n : Network) (name : ByteArray) : Option (Int) :=
 flb (iter (zq67_L1 n name) (0 : Int)) fun (_ : Unit) =>
 some (-1)
noncomputable def zq65_L1 (n : Network) : Int → Option (Lp (Int) (Fl (Bool) (Unit)))
 | i =>
  if (decide (i < (n.Stops.length : Int))) = true then
   (idx n.Stops i).bind fun e2 =>
   (zq68 e2).bind fun r4 =>
   (if (!r4) = true then some true else (idx n.Stops i).bind fun e3 =>
   (zq64 n.Stops e3).bind fun r5 =>
   some (r5 != i)).bind fun (v1 : Bool) =>
   if v1 = true then
    some (.dn (.ret false))
   else
    some (.nx (w64 (i + 1)))
  else
   some (.dn (.go ()))
noncomputable def zq65_L2 (n : Network) : Int → Option (Lp (Int) (Fl (Bool) (Unit)))
 | v2 =>
  if (decide (v2 < (n.Lines.length : Int))) = true then
   (idx n.Lines v2).bind fun e7 =>
   (zq66 e7 (n.Stops.length : Int)).bind fun r9 =>
   (if (!r9) = true then some true else (idx n.Lines v2).bind fun e8 =>
   (zq67 n e8.Name).bind fun r10 =>
   some (r10 != v2)).bind fun (v3 : Bool) =>
   if v3 = true then
    some (.dn (.ret false))
   else
    some (.nx (w64 (v2 + 1)))
  else
   some (.dn (.go ()))
noncomputable def zq65 (n : Network) : Option (Bool) :=
 (zq57 (n.Stops.length : Int) 2 8).bind fun r =>
 (if (!r) = true then some true else (zq57 (n.Lines.length : Int) 1 5).bind fun r1 =>
 some (!r1)).bind fun (v : Bool) =>
 if v = true then
  some false
 else
  flb (iter (zq65_L1 n) (0 : Int)) fun (_ : Unit) =>
  flb (iter (zq65_L2 n) (0 : Int)) fun (_ : Unit) =>
  some true
noncomputable def zq55 (c : l1Cur) (n : Network) (list : List Pattern) : Option (Int × l1Cur) :=
 flb ((if (decide (0 < (list.length : Int))) = true then (zq65 n).bind fun r =>
 if r = true then (zq52 c 6).bind fun r1 =>
 some ((!r1.1), r1.2.code_, r1.2.at_, r1.2.seed_.v) else some (false, c.code_, c.at_, c.seed_.v) else some (false, c.code_, c.at_, c.seed_.v)).bind fun ((v3, v4, v5, v6) : Bool × (List UInt8) × Int × Int) =>
 if v3 = true then
  (zq54 (⟨v4, v5, (⟨v6⟩ : IK .u64)⟩ : l1Cur) (list.length : Int)).bind fun r2 =>
  (idx list r2.1).bind fun e =>
  (zq57 e.Line 0 (w64 ((n.Lines.length : Int) - 1))).bind fun r3 =>
  if r3 = true then
   (idx n.Lines e.Line).bind fun e4 =>
   (idx n.Lines e.Line).bind fun e5 =>
   (zq54 r2.2 (e5.Stops.length : Int)).bind fun r5 =>
   (idx e4.Stops r5.1).bind fun e6 =>
   some (.ret (e6, r5.2))
  else
   some (.go (r2.2.code_, r2.2.at_, r2.2.seed_.v))
 else
  some (.go (v4, v5, v6))) fun ((v, v1, v2) : (List UInt8) × Int × Int) =>
 (zq54 (⟨v, v1, (⟨v2⟩ : IK .u64)⟩ : l1Cur) (w64 ((n.Stops.length : Int) + 1))).bind fun r7 =>
 (zq54 r7.2 12).bind fun r8 =>
 (chk ((11 : Int) ≠ 0)).bind fun u =>
 some ((w64 (r7.1 - (w64 (r8.1.tdiv 11)))), r8.2)
noncomputable def zq56 (c : l1Cur) (n : Network) (list : List Pattern) : Option (Int × l1Cur) :=
 flb ((if (decide (0 < (list.length : Int))) = true then (zq65 n).bind fun r =>
 if r = true then (zq52 c 6).bind fun r1 =>
 some ((!r1.1), r1.2.code_, r1.2.at_, r1.2.seed_.v) else some (false, c.code_, c.at_, c.seed_.v) else some (false, c.code_, c.at_, c.seed_.v)).bind fun ((v3, v4, v5, v6) : Bool × (List UInt8) × Int × Int) =>
 if v3 = true then
  (zq54 (⟨v4, v5, (⟨v6⟩ : IK .u64)⟩ : l1Cur) (list.length : Int)).bind fun r2 =>
  (idx list r2.1).bind fun e =>
  (zq57 e.Line 0 (w64 ((n.Lines.length : Int) - 1))).bind fun r3 =>
  if r3 = true then
   (idx n.Lines e.Line).bind fun e4 =>
   (idx n.Lines e.Line).bind fun e5 =>
   (zq54 r2.2 (e5.Stops.length : Int)).bind fun r5 =>
   (idx e4.Stops r5.1).bind fun e6 =>
   some (.ret (e6, r5.2))
  else
   some (.go (r2.2.code_, r2.2.at_, r2.2.seed_.v))
 else
  some (.go (v4, v5, v6))) fun ((v, v1, v2) : (List UInt8) × Int × Int) =>
 (zq54 (⟨v, v1, (⟨v2⟩ : IK .u64)⟩ : l1Cur) (w64 ((n.Stops.length : Int) + 1))).bind fun r7 =>
 (zq54 r7.2 12).bind fun r8 =>
 (chk ((11 : Int) ≠ 0)).bind fun u =>
 some ((w64 (r7.1 - (w64 (r8.1.tdiv 11)))), r8.2)
noncomputable def zq27 (code : List UInt8) : Option (Network × Int × (List Pattern) × Int) :=
 (zq54 (⟨code, 0, (⟨0⟩ : IK .u64)⟩ : l1Cur) 12).bind fun r =>
 (chk ((11 : Int) ≠ 0)).bind fun u =>
 (zq53 r.2 (w64 (7 + (w64 (r.1.tdiv 11))))).bind fun r1 =>
 (zq56 r1.2.2.2 r1.1 r1.2.2.1).bind fun r3 =>
 some (r1.1, r1.2.1, r1.2.2.1, r3.1)
noncomputable def zq23 (n : Int) (lo : Int) (hi : Int) : Option (Bool) :=
 (if (decide (lo ≤ n)) = true then some (decide (n ≤ hi)) else some false).bind fun (v : Bool) =>
 some v
noncomputable def zq14_L1 (s : ByteArray) : Int → Option (Lp (Int) (Fl (Bool) (Unit)))
 | v1 =>
  if (decide (v1 < (s.size : Int))) = true then
   (chk ((0 : Int) ≤ v1 ∧ v1 < (s.size : Int))).bind fun u =>
   (if (decide (97 ≤ ((s.data.toList.getD v1.toNat 0).toNat : Int))) = true then (chk ((0 : Int) ≤ v1 ∧ v1 < (s.size : Int))).bind fun u1 =>
   some (decide (((s.data.toList.getD v1.toNat 0).toNat : Int) ≤ 122)) else some false).bind fun (v2 : Bool) =>
   (if (!v2) = true then if (v1 == 0) = true then some true else (chk ((0 : Int) ≤ v1 ∧ v1 < (s.size : Int))).bind fun u2 =>
   if (decide (((s.data.toList.getD v1.toNat 0).toNat : Int) < 48)) = true then some true else (chk ((0 : Int) ≤ v1 ∧ v1 < (s.size : Int))).bind fun u3 =>
   some (decide (57 < ((s.data.toList.getD v1.toNat 0).toNat : Int))) else some false).bind fun (v3 : Bool) =>
   if v3 = true then
    some (.dn (.ret false))
   else
    some (.nx (w64 (v1 + 1)))
  else
   some (.dn (.go ()))
noncomputable def zq14 (s : ByteArray) : Option (Bool) :=
 (if (decide ((s.size : Int) < 1)) = true then some true else some (decide (8 < (s.size : Int)))).bind fun (v : Bool) =>
 if v = true then
  some false
 else
  flb (iter (zq14_L1 s) (0 : Int)) fun (_ : Unit) =>
  some true
noncomputable def zq75_L1 (s : List ByteArray) (v : ByteArray) : Int → Option (Lp (Int) (Fl (Int) (Unit)))
 | v1 =>
  if (decide (v1 < (s.length : Int))) = true then
   (idx s v1).bind fun e =>
   if (v.toList == e.toList) = true then
    some (.dn (.ret v1))
   else
    some (.nx (w64 (v1 + 1)))
  else
   some (.dn (.go ()))
noncomputable def zq75 (s : List ByteArray) (v : ByteArray) : Option (Int) :=
 flb (iter (zq75_L1 s v) (0 : Int)) fun (_ : Unit) =>
 some (-1)
noncomputable def zq10_L1 (names : List ByteArray) : Int → Option (Lp (Int) (Fl (Bool) (Unit)))
 | v =>
  if (decide (v < (names.length : Int))) = true then
   (idx names v).bind fun e =>
   (zq14 e).bind fun r =>
   (if (!r) = true then some true else (zq75 names e).bind fun r1 =>
   some (r1 != v)).bind fun (v1 : Bool) =>
   if v1 = true then
    some (.dn (.ret false))
   else
    some (.nx (w64 (v + 1)))
  else
   some (.dn (.go ()))
noncomputable def zq10 (names : List ByteArray) : Option (Bool) :=
 flb (iter (zq10_L1 names) (0 : Int)) fun (_ : Unit) =>
 some true
noncomputable def zq19_L1 (n : Network) : Int × (List ByteArray) → Option (Lp (Int × (List ByteArray)) ((List ByteArray)))
 | (v, i) =>
  if (decide (v < (n.Lines.length : Int))) = true then
   (idx n.Lines v).bind fun e =>
   (idx i v).bind fun e1 =>
   some (.nx ((w64 (v + 1)), (i.set v.toNat e.Name)))
  else
   some (.dn i)
noncomputable def zq19 (n : Network) : Option ((List ByteArray)) :=
 (chk ((0 : Int) ≤ (n.Lines.length : Int) ∧ ((n.Lines.length : Int) : Int) ≤ 4294967296)).bind fun u =>
 (iter (zq19_L1 n) ((0 : Int), (List.replicate (n.Lines.length : Int).toNat (ByteArray.empty : ByteArray)))).bind fun (i1 : List ByteArray) =>
 some i1
noncomputable def zq16 (n : Network) (stop : Int) : Option (Bool) :=
 (if (decide (0 ≤ stop)) = true then some (decide (stop < (n.Stops.length : Int))) else some false).bind fun (v : Bool) =>
 some v
noncomputable def zq74_L1 (s : List Int) (v : Int) : Int → Option (Lp (Int) (Fl (Int) (Unit)))
 | v1 =>
  if (decide (v1 < (s.length : Int))) = true then
   (idx s v1).bind fun e =>
   if (v == e) = true then
    some (.dn (.ret v1))
   else
    some (.nx (w64 (v1 + 1)))
  else
   some (.dn (.go ()))
noncomputable def zq74 (s : List Int) (v : Int) : Option (Int) :=
 flb (iter (zq74_L1 s v) (0 : Int)) fun (_ : Unit) =>
 some (-1)
noncomputable def zq17_L1 (n : Network) (l : Line) : Int → Option (Lp (Int) (Fl (Bool) (Unit)))
 | v1 =>
  if (decide (v1 < (l.Stops.length : Int))) = true then
   (idx l.Stops v1).bind fun e =>
   (zq16 n e).bind fun r1 =>
   (if (!r1) = true then some true else (zq74 l.Stops e).bind fun r2 =>
   some (r2 != v1)).bind fun (v2 : Bool) =>
   if v2 = true then
    some (.dn (.ret false))
   else
    some (.nx (w64 (v1 + 1)))
  else
   some (.dn (.go ()))
noncomputable def zq17_L2 (l : Line) : Int → Option (Lp (Int) (Fl (Bool) (Unit)))
 | v3 =>
  if (decide (v3 < (l.Runs.length : Int))) = true then
   (idx l.Runs v3).bind fun e2 =>
   (zq23 e2 1 60).bind fun r4 =>
   if (!r4) = true then
    some (.dn (.ret false))
   else
    some (.nx (w64 (v3 + 1)))
  else
   some (.dn (.go ()))
noncomputable def zq17 (n : Network) (l : Line) : Option (Bool) :=
 (zq23 (l.Stops.length : Int) 2 6).bind fun r =>
 (if (!r) = true then some true else some ((l.Runs.length : Int) != (w64 ((l.Stops.length : Int) - 1)))).bind fun (v : Bool) =>
 if v = true then
  some false
 else
  flb (iter (zq17_L1 n l) (0 : Int)) fun (_ : Unit) =>
  flb (iter (zq17_L2 l) (0 : Int)) fun (_ : Unit) =>
  some true
noncomputable def zq5_L1 (n : Network) : Int → Option (Lp (Int) (Fl (Bool) (Unit)))
 | v1 =>
  if (decide (v1 < (n.Lines.length : Int))) = true then
   (idx n.Lines v1).bind fun e =>
   (zq17 n e).bind fun r5 =>
   if (!r5) = true then
    some (.dn (.ret false))
   else
    some (.nx (w64 (v1 + 1)))
  else
   some (.dn (.go ()))
noncomputable def zq5 (n : Network) : Option (Bool) :=
 (zq23 (n.Stops.length : Int) 2 8).bind fun r =>
 (if (!r) = true then some true else (zq23 (n.Lines.length : Int) 1 5).bind fun r1 =>
 if (!r1) = true then some true else (zq10 n.Stops).bind fun r2 =>
 if (!r2) = true then some true else (zq19 n).bind fun r3 =>
 (zq10 r3).bind fun r4 =>
 some (!r4)).bind fun (v : Bool) =>
 if v = true then
  some false
 else
  flb (iter (zq5_L1 n) (0 : Int)) fun (_ : Unit) =>
  some true
noncomputable def zq13 (n : Network) (line : Int) : Option (Bool) :=
 (if (decide (0 ≤ line)) = true then some (decide (line < (n.Lines.length : Int))) else some false).bind fun (v : Bool) =>
 some v
noncomputable def zq6_L1 (n : Network) (period : Int) (list : List Pattern) : Int → Option (Lp (Int) (Fl (Bool) (Unit)))
 | v1 =>
  if (decide (v1 < (list.length : Int))) = true then
   (idx list v1).bind fun e =>
   (zq13 n e.Line).bind fun r3 =>
   (if (!r3) = true then some true else (zq23 e.Offset 0 (w64 (period - 1))).bind fun r4 =>
   some (!r4)).bind fun (v2 : Bool) =>
   if v2 = true then
    some (.dn (.ret false))
   else
    some (.nx (w64 (v1 + 1)))
  else
   some (.dn (.go ()))
noncomputable def zq6 (n : Network) (period : Int) (list : List Pattern) : Option (Bool) :=
 (zq5 n).bind fun r =>
 (if (!r) = true then some true else (zq23 period 1 60).bind fun r1 =>
 if (!r1) = true then some true else (zq23 (list.length : Int) 1 3).bind fun r2 =>
 some (!r2)).bind fun (v : Bool) =>
 if v = true then
  some false
 else
  flb (iter (zq6_L1 n period list) (0 : Int)) fun (_ : Unit) =>
  some true
noncomputable def zq11 (n : Network) (period : Int) (list : List Pattern) (stop : Int) : Option (Bool) :=
 (zq6 n period list).bind fun r =>
 (if r = true then (zq16 n stop).bind fun r1 =>
 some r1 else some false).bind fun (v : Bool) =>
 some v
noncomputable def zq22_L1 (list : List Int) : Int × Int → Option (Lp (Int × Int) (Int))
 | (v, v1) =>
  if (decide (v1 < (list.length : Int))) = true then
   (idx list v1).bind fun e =>
   some (.nx ((w64 (v + e)), (w64 (v1 + 1))))
  else
   some (.dn v)
noncomputable def zq22 (list : List Int) : Option (Int) :=
 (iter (zq22_L1 list) ((0 : Int), (0 : Int))).bind fun (v2 : Int) =>
 some v2
noncomputable def zq21 (n : Network) (period : Int) (p : Pattern) (stop : Int) : Option (Int) :=
 (idx n.Lines p.Line).bind fun e =>
 (zq74 e.Stops stop).bind fun r =>
 if (decide (r < 0)) = true then
  some (-1)
 else
  (chk ((0 : Int) ≤ 0 ∧ (0 : Int) ≤ r ∧ r ≤ (e.Runs.length : Int))).bind fun u2 =>
  (zq22 ((e.Runs.take r.toNat).drop (0 : Int).toNat)).bind fun r2 =>
  (chk ((period : Int) ≠ 0)).bind fun u3 =>
  some ((w64 (p.Offset + r2)).tmod period)
noncomputable def zq25 (x : IK .u64) : Option (Int) :=
 (if (decide (4294967296 ≤ x.v)) = true then
  (chk ((0 : Int) ≤ 32)).bind fun u =>
  some ((x.v.fdiv (2 ^ (min (32 : Int).toNat (IntKind.u64).bits))), (32 : Int))
 else
  some (x.v, (0 : Int))).bind fun ((x1, v) : Int × Int) =>
 (if (decide (65536 ≤ x1)) = true then
  (chk ((0 : Int) ≤ 16)).bind fun u1 =>
  some ((x1.fdiv (2 ^ (min (16 : Int).toNat (IntKind.u64).bits))), (w64 (v + 16)))
 else
  some (x1, v)).bind fun ((x2, v1) : Int × Int) =>
 (if (decide (256 ≤ x2)) = true then
  (chk ((0 : Int) ≤ 8)).bind fun u2 =>
  some ((x2.fdiv (2 ^ (min (8 : Int).toNat (IntKind.u64).bits))), (w64 (v1 + 8)))
 else
  some (x2, v1)).bind fun ((x3, v2) : Int × Int) =>
 (chk ((0 : Int) ≤ (IntKind.u8.wrap (x3)) ∧ (IntKind.u8.wrap (x3)) < ((str [0, 1, 2, 2, 3, 3, 3, 3, 4, 4, 4, 4, 4, 4, 4, 4, 5, 5, 5, 5, 5, 5, 5, 5, 5, 5, 5, 5, 5, 5, 5, 5, 6, 6, 6, 6, 6, 6, 6, 6, 6, 6, 6, 6, 6, 6, 6, 6, 6, 6, 6, 6, 6, 6, 6, 6, 6, 6, 6, 6, 6, 6, 6, 6, 7, 7, 7, 7, 7, 7, 7, 7, 7, 7, 7, 7, 7, 7, 7, 7, 7, 7, 7, 7, 7, 7, 7, 7, 7, 7, 7, 7, 7, 7, 7, 7, 7, 7, 7, 7, 7, 7, 7, 7, 7, 7, 7, 7, 7, 7, 7, 7, 7, 7, 7, 7, 7, 7, 7, 7, 7, 7, 7, 7, 7, 7, 7, 7, 8, 8, 8, 8, 8, 8, 8, 8, 8, 8, 8, 8, 8, 8, 8, 8, 8, 8, 8, 8, 8, 8, 8, 8, 8, 8, 8, 8, 8, 8, 8, 8, 8, 8, 8, 8, 8, 8, 8, 8, 8, 8, 8, 8, 8, 8, 8, 8, 8, 8, 8, 8, 8, 8, 8, 8, 8, 8, 8, 8, 8, 8, 8, 8, 8, 8, 8, 8, 8, 8, 8, 8, 8, 8, 8, 8, 8, 8, 8, 8, 8, 8, 8, 8, 8, 8, 8, 8, 8, 8, 8, 8, 8, 8, 8, 8, 8, 8, 8, 8, 8, 8, 8, 8, 8, 8, 8, 8, 8, 8, 8, 8, 8, 8, 8, 8, 8, 8, 8, 8, 8, 8, 8, 8, 8, 8, 8, 8]).size : Int))).bind fun u3 =>
 some (w64 (v2 + (w64 ((((str [0, 1, 2, 2, 3, 3, 3, 3, 4, 4, 4, 4, 4, 4, 4, 4, 5, 5, 5, 5, 5, 5, 5, 5, 5, 5, 5, 5, 5, 5, 5, 5, 6, 6, 6, 6, 6, 6, 6, 6, 6, 6, 6, 6, 6, 6, 6, 6, 6, 6, 6, 6, 6, 6, 6, 6, 6, 6, 6, 6, 6, 6, 6, 6, 7, 7, 7, 7, 7, 7, 7, 7, 7, 7, 7, 7, 7, 7, 7, 7, 7, 7, 7, 7, 7, 7, 7, 7, 7, 7, 7, 7, 7, 7, 7, 7, 7, 7, 7, 7, 7, 7, 7, 7, 7, 7, 7, 7, 7, 7, 7, 7, 7, 7, 7, 7, 7, 7, 7, 7, 7, 7, 7, 7, 7, 7, 7, 7, 8, 8, 8, 8, 8, 8, 8, 8, 8, 8, 8, 8, 8, 8, 8, 8, 8, 8, 8, 8, 8, 8, 8, 8, 8, 8, 8, 8, 8, 8, 8, 8, 8, 8, 8, 8, 8, 8, 8, 8, 8, 8, 8, 8, 8, 8, 8, 8, 8, 8, 8, 8, 8, 8, 8, 8, 8, 8, 8, 8, 8, 8, 8, 8, 8, 8, 8, 8, 8, 8, 8, 8, 8, 8, 8, 8, 8, 8, 8, 8, 8, 8, 8, 8, 8, 8, 8, 8, 8, 8, 8, 8, 8, 8, 8, 8, 8, 8, 8, 8, 8, 8, 8, 8, 8, 8, 8, 8, 8, 8, 8, 8, 8, 8, 8, 8, 8, 8, 8, 8, 8, 8, 8, 8, 8, 8, 8, 8]).data.toList.getD (IntKind.u8.wrap (x3)).toNat 0).toNat : Int)))))
noncomputable def zq24 (x : IK .u64) : Option (Int) :=
 (zq25 x).bind fun r =>
 some r
noncomputable def zq1 (x : Int) : Option (Bool) :=
 some (x != x)
noncomputable def zq0 (x : Int) (y_ : Int) : Option (Bool) :=
 (zq1 x).bind fun r =>
 (if r = true then (zq1 y_).bind fun r1 =>
 if (!r1) = true then some true else some (decide (x < y_)) else some (decide (x < y_))).bind fun (v : Bool) =>
 some v
noncomputable def zq80_L1 (a : Int) : Int × (List Int) → Option (Lp (Int × (List Int)) ((List Int)))
 | (v1, data2) =>
  (if (decide (a < v1)) = true then (idx data2 v1).bind fun e2 =>
  (idx data2 (w64 (v1 - 1))).bind fun e3 =>
  (zq0 e2 e3).bind fun r1 =>
  some r1 else some false).bind fun (v2 : Bool) =>
  if v2 = true then
   (idx data2 (w64 (v1 - 1))).bind fun e8 =>
   (idx data2 v1).bind fun e9 =>
   (idx data2 v1).bind fun e10 =>
   (idx (data2.set v1.toNat e8) (w64 (v1 - 1))).bind fun e11 =>
   some (.nx ((w64 (v1 - 1)), ((data2.set v1.toNat e8).set (w64 (v1 - 1)).toNat e9)))
  else
   some (.dn data2)
noncomputable def zq80_L2 (a : Int) (b : Int) : Int × (List Int) → Option (Lp (Int × (List Int)) ((List Int)))
 | (v, data1) =>
  if (decide (v < b)) = true then
   (iter (zq80_L1 a) (v, data1)).bind fun (data3 : List Int) =>
   some (.nx ((w64 (v + 1)), data3))
  else
   some (.dn data1)
noncomputable def zq80 (data : List Int) (a : Int) (b : Int) : Option ((List Int)) :=
 iter (zq80_L2 a b) ((w64 (a + 1)), data)
noncomputable def zq90_L1 (hi : Int) (first : Int) : Int × (List Int) → Option (Lp (Int × (List Int)) ((List Int)))
 | (v, data1) =>
  if (decide (hi ≤ (w64 ((w64 (2 * v)) + 1)))) = true then
   some (.dn data1)
  else
   ((if (decide ((w64 ((w64 ((w64 (2 * v)) + 1)) + 1)) < hi)) = true then (idx data1 (w64 (first + (w64 ((w64 (2 * v)) + 1))))).bind fun e3 =>
   (idx data1 (w64 ((w64 (first + (w64 ((w64 (2 * v)) + 1)))) + 1))).bind fun e4 =>
   (zq0 e3 e4).bind fun r2 =>
   some r2 else some false).bind fun (v2 : Bool) =>
   if v2 = true then
    some (w64 ((w64 ((w64 (2 * v)) + 1)) + 1))
   else
    some (w64 ((w64 (2 * v)) + 1))).bind fun (v1 : Int) =>
   (idx data1 (w64 (first + v))).bind fun e7 =>
   (idx data1 (w64 (first + v1))).bind fun e8 =>
   (zq0 e7 e8).bind fun r4 =>
   if (!r4) = true then
    some (.dn data1)
   else
    (idx data1 (w64 (first + v1))).bind fun e14 =>
    (idx data1 (w64 (first + v))).bind fun e15 =>
    (idx data1 (w64 (first + v))).bind fun e16 =>
    (idx (data1.set (w64 (first + v)).toNat e14) (w64 (first + v1))).bind fun e17 =>
    some (.nx (v1, ((data1.set (w64 (first + v)).toNat e14).set (w64 (first + v1)).toNat e15)))
noncomputable def zq90 (data : List Int) (lo : Int) (hi : Int) (first : Int) : Option ((List Int)) :=
 iter (zq90_L1 hi first) (lo, data)
noncomputable def zq79_L1 (a : Int) (b : Int) : Int × (List Int) → Option (Lp (Int × (List Int)) ((List Int)))
 | (v, data1) =>
  if (decide (0 ≤ v)) = true then
   (zq90 data1 v (w64 (b - a)) a).bind fun r =>
   some (.nx ((w64 (v - 1)), r))
  else
   some (.dn data1)
noncomputable def zq79_L2 (a : Int) : Int × (List Int) → Option (Lp (Int × (List Int)) ((List Int)))
 | (v1, data3) =>
  if (decide (0 ≤ v1)) = true then
   (idx data3 (w64 (a + v1))).bind fun e4 =>
   (idx data3 a).bind fun e5 =>
   (idx data3 a).bind fun e6 =>
   (idx (data3.set a.toNat e4) (w64 (a + v1))).bind fun e7 =>
   (zq90 ((data3.set a.toNat e4).set (w64 (a + v1)).toNat e5) 0 v1 a).bind fun r1 =>
   some (.nx ((w64 (v1 - 1)), r1))
  else
   some (.dn data3)
noncomputable def zq79 (data : List Int) (a : Int) (b : Int) : Option ((List Int)) :=
 (chk ((2 : Int) ≠ 0)).bind fun u =>
 (iter (zq79_L1 a b) ((w64 ((w64 ((w64 (b - a)) - 1)).tdiv 2)), data)).bind fun (data2 : List Int) =>
 iter (zq79_L2 a) ((w64 ((w64 (b - a)) - 1)), data2)
noncomputable def zq84 (data : List Int) (a : Int) (b : Int) (swaps : Int) : Option (Int × Int × Int) :=
 (idx data b).bind fun e2 =>
 (idx data a).bind fun e3 =>
 (zq0 e2 e3).bind fun r1 =>
 if r1 = true then
  some (b, a, (w64 (swaps + 1)))
 else
  some (a, b, swaps)
noncomputable def zq82 (data : List Int) (a : Int) (b : Int) (c : Int) (swaps : Int) : Option (Int × Int) :=
 (zq84 data a b swaps).bind fun r =>
 (zq84 data r.2.1 c r.2.2).bind fun r1 =>
 (zq84 data r.1 r1.1 r1.2.2).bind fun r2 =>
 some (r2.2.1, r2.2.2)
noncomputable def zq81 (data : List Int) (a : Int) (swaps : Int) : Option (Int × Int) :=
 (zq82 data (w64 (a - 1)) a (w64 (a + 1)) swaps).bind fun r =>
 some (r.1, r.2)
noncomputable def zq78 (data : List Int) (a : Int) (b : Int) : Option (Int × Int) :=
 (chk ((4 : Int) ≠ 0)).bind fun u =>
 (chk ((4 : Int) ≠ 0)).bind fun u1 =>
 (chk ((4 : Int) ≠ 0)).bind fun u2 =>
 (if (decide (8 ≤ (w64 (b - a)))) = true then
  (if (decide (50 ≤ (w64 (b - a)))) = true then
   (zq81 data (w64 (a + (w64 ((w64 ((w64 (b - a)).tdiv 4)) * 1)))) 0).bind fun r =>
   (zq81 data (w64 (a + (w64 ((w64 ((w64 (b - a)).tdiv 4)) * 2)))) r.2).bind fun r1 =>
   (zq81 data (w64 (a + (w64 ((w64 ((w64 (b - a)).tdiv 4)) * 3)))) r1.2).bind fun r2 =>
   some (r.1, r1.1, r2.1, r2.2)
  else
   some ((w64 (a + (w64 ((w64 ((w64 (b - a)).tdiv 4)) * 1)))), (w64 (a + (w64 ((w64 ((w64 (b - a)).tdiv 4)) * 2)))), (w64 (a + (w64 ((w64 ((w64 (b - a)).tdiv 4)) * 3)))), (0 : Int))).bind fun ((v2, v3, v4, v5) : Int × Int × Int × Int) =>
  (zq82 data v2 v3 v4 v5).bind fun r3 =>
  some (r3.1, r3.2)
 else
  some ((w64 (a + (w64 ((w64 ((w64 (b - a)).tdiv 4)) * 2)))), (0 : Int))).bind fun ((v, v1) : Int × Int) =>
 if (v1 == 0) = true then
  some (v, 1)
 else
  if (v1 == 12) = true then
   some (v, 2)
  else
   some (v, 0)
noncomputable def zq89_L1 : Int × Int × (List Int) → Option (Lp (Int × Int × (List Int)) ((List Int)))
 | (v, v1, data1) =>
  if (decide (v < v1)) = true then
   (idx data1 v1).bind fun e4 =>
   (idx data1 v).bind fun e5 =>
   (idx data1 v).bind fun e6 =>
   (idx (data1.set v.toNat e4) v1).bind fun e7 =>
   some (.nx ((w64 (v + 1)), (w64 (v1 - 1)), ((data1.set v.toNat e4).set v1.toNat e5)))
  else
   some (.dn data1)
noncomputable def zq89 (data : List Int) (a : Int) (b : Int) : Option ((List Int)) :=
 iter (zq89_L1) (a, (w64 (b - 1)), data)
noncomputable def zq85_L1 (b : Int) (data1 : List Int) : Int → Option (Lp (Int) (Int))
 | j2 =>
  (if (decide (j2 < b)) = true then (idx data1 j2).bind fun e2 =>
  (idx data1 (w64 (j2 - 1))).bind fun e3 =>
  (zq0 e2 e3).bind fun r1 =>
  some (!r1) else some false).bind fun (v1 : Bool) =>
  if v1 = true then
   some (.nx (w64 (j2 + 1)))
  else
   some (.dn j2)
noncomputable def zq85_L2 : Int × (List Int) → Option (Lp (Int × (List Int)) ((List Int)))
 | (v2, data4) =>
  if (decide (1 ≤ v2)) = true then
   (idx data4 v2).bind fun e18 =>
   (idx data4 (w64 (v2 - 1))).bind fun e19 =>
   (zq0 e18 e19).bind fun r7 =>
   if (!r7) = true then
    some (.dn data4)
   else
    (idx data4 (w64 (v2 - 1))).bind fun e24 =>
    (idx data4 v2).bind fun e25 =>
    (idx data4 v2).bind fun e26 =>
    (idx (data4.set v2.toNat e24) (w64 (v2 - 1))).bind fun e27 =>
    some (.nx ((w64 (v2 - 1)), ((data4.set v2.toNat e24).set (w64 (v2 - 1)).toNat e25)))
  else
   some (.dn data4)
noncomputable def zq85_L3 (b : Int) : Int × (List Int) → Option (Lp (Int × (List Int)) ((List Int)))
 | (v3, data6) =>
  if (decide (v3 < b)) = true then
   (idx data6 v3).bind fun e30 =>
   (idx data6 (w64 (v3 - 1))).bind fun e31 =>
   (zq0 e30 e31).bind fun r9 =>
   if (!r9) = true then
    some (.dn data6)
   else
    (idx data6 (w64 (v3 - 1))).bind fun e36 =>
    (idx data6 v3).bind fun e37 =>
    (idx data6 v3).bind fun e38 =>
    (idx (data6.set v3.toNat e36) (w64 (v3 - 1))).bind fun e39 =>
    some (.nx ((w64 (v3 + 1)), ((data6.set v3.toNat e36).set (w64 (v3 - 1)).toNat e37)))
  else
   some (.dn data6)
noncomputable def zq85_L4 (a : Int) (b : Int) : Int × Int × (List Int) → Option (Lp (Int × Int × (List Int)) (Fl (Bool × (List Int)) ((List Int))))
 | (j, v, data1) =>
  if (decide (v < 5)) = true then
   flb ((iter (zq85_L1 b data1) j).bind fun (j3 : Int) =>
   if (j3 == b) = true then
    some (.ret (.dn (.ret (true, data1))))
   else
    if (decide ((w64 (b - a)) < 50)) = true then
     some (.ret (.dn (.ret (false, data1))))
    else
     (idx data1 (w64 (j3 - 1))).bind fun e12 =>
     (idx data1 j3).bind fun e13 =>
     (idx data1 j3).bind fun e14 =>
     (idx (data1.set j3.toNat e12) (w64 (j3 - 1))).bind fun e15 =>
     (if (decide (2 ≤ (w64 (j3 - a)))) = true then
      (iter (zq85_L2) ((w64 (j3 - 1)), ((data1.set j3.toNat e12).set (w64 (j3 - 1)).toNat e13))).bind fun (data5 : List Int) =>
      some data5
     else
      some ((data1.set j3.toNat e12).set (w64 (j3 - 1)).toNat e13)).bind fun (data3 : List Int) =>
     if (decide (2 ≤ (w64 (b - j3)))) = true then
      (iter (zq85_L3 b) ((w64 (j3 + 1)), data3)).bind fun (data7 : List Int) =>
      some (.go (j3, data7))
     else
      some (.go (j3, data3))) fun ((j1, data2) : Int × (List Int)) =>
   some (.nx (j1, (w64 (v + 1)), data2))
  else
   some (.dn (.go data1))
noncomputable def zq85 (data : List Int) (a : Int) (b : Int) : Option (Bool × (List Int)) :=
 flb (iter (zq85_L4 a b) ((w64 (a + 1)), (0 : Int), data)) fun (data8 : List Int) =>
 some (false, data8)
noncomputable def zq86_L1 (a : Int) (v1 : Int) (data1 : List Int) : Int → Option (Lp (Int) (Int))
 | v2 =>
  (if (decide (v2 ≤ v1)) = true then (idx data1 a).bind fun e10 =>
  (idx data1 v2).bind fun e11 =>
  (zq0 e10 e11).bind fun r1 =>
  some (!r1) else some false).bind fun (v3 : Bool) =>
  if v3 = true then
   some (.nx (w64 (v2 + 1)))
  else
   some (.dn v2)
noncomputable def zq86_L2 (a : Int) (data1 : List Int) (v4 : Int) : Int → Option (Lp (Int) (Int))
 | v5 =>
  (if (decide (v4 ≤ v5)) = true then (idx data1 a).bind fun e14 =>
  (idx data1 v5).bind fun e15 =>
  (zq0 e14 e15).bind fun r3 =>
  some r3 else some false).bind fun (v6 : Bool) =>
  if v6 = true then
   some (.nx (w64 (v5 - 1)))
  else
   some (.dn v5)
noncomputable def zq86_L3 (a : Int) : Int × Int × (List Int) → Option (Lp (Int × Int × (List Int)) (Int × (List Int)))
 | (v, v1, data1) =>
  (iter (zq86_L1 a v1 data1) v).bind fun (v4 : Int) =>
  (iter (zq86_L2 a data1 v4) v1).bind fun (v7 : Int) =>
  if (decide (v7 < v4)) = true then
   some (.dn (v4, data1))
  else
   (idx data1 v7).bind fun e20 =>
   (idx data1 v4).bind fun e21 =>
   (idx data1 v4).bind fun e22 =>
   (idx (data1.set v4.toNat e20) v7).bind fun e23 =>
   some (.nx ((w64 (v4 + 1)), (w64 (v7 - 1)), ((data1.set v4.toNat e20).set v7.toNat e21)))
noncomputable def zq86 (data : List Int) (a : Int) (b : Int) (pivot : Int) : Option (Int × (List Int)) :=
 (idx data pivot).bind fun e4 =>
 (idx data a).bind fun e5 =>
 (idx data a).bind fun e6 =>
 (idx (data.set a.toNat e4) pivot).bind fun e7 =>
 (iter (zq86_L3 a) ((w64 (a + 1)), (w64 (b - 1)), ((data.set a.toNat e4).set pivot.toNat e5))).bind fun ((v8, data2) : Int × (List Int)) =>
 some (v8, data2)
noncomputable def zq87_L1 (data : List Int) (a : Int) (b : Int) (pivot : Int) (e4 : Int) (e5 : Int) : Int → Option (Lp (Int) (Int))
 | v =>
  (if (decide (v ≤ (w64 (b - 1)))) = true then (idx ((data.set a.toNat e4).set pivot.toNat e5) v).bind fun e10 =>
  (idx ((data.set a.toNat e4).set pivot.toNat e5) a).bind fun e11 =>
  (zq0 e10 e11).bind fun r1 =>
  some r1 else some false).bind fun (v1 : Bool) =>
  if v1 = true then
   some (.nx (w64 (v + 1)))
  else
   some (.dn v)
noncomputable def zq87_L2 (data : List Int) (a : Int) (pivot : Int) (e4 : Int) (e5 : Int) (v2 : Int) : Int → Option (Lp (Int) (Int))
 | v3 =>
  (if (decide (v2 ≤ v3)) = true then (idx ((data.set a.toNat e4).set pivot.toNat e5) v3).bind fun e14 =>
  (idx ((data.set a.toNat e4).set pivot.toNat e5) a).bind fun e15 =>
  (zq0 e14 e15).bind fun r3 =>
  some (!r3) else some false).bind fun (v4 : Bool) =>
  if v4 = true then
   some (.nx (w64 (v3 - 1)))
  else
   some (.dn v3)
noncomputable def zq87_L3 (a : Int) (v7 : Int) (data1 : List Int) : Int → Option (Lp (Int) (Int))
 | v8 =>
  (if (decide (v8 ≤ v7)) = true then (idx data1 v8).bind fun e34 =>
  (idx data1 a).bind fun e35 =>
  (zq0 e34 e35).bind fun r5 =>
  some r5 else some false).bind fun (v9 : Bool) =>
  if v9 = true then
   some (.nx (w64 (v8 + 1)))
  else
   some (.dn v8)
noncomputable def zq87_L4 (a : Int) (data1 : List Int) (v10 : Int) : Int → Option (Lp (Int) (Int))
 | v11 =>
  (if (decide (v10 ≤ v11)) = true then (idx data1 v11).bind fun e38 =>
  (idx data1 a).bind fun e39 =>
  (zq0 e38 e39).bind fun r7 =>
  some (!r7) else some false).bind fun (v12 : Bool) =>
  if v12 = true then
   some (.nx (w64 (v11 - 1)))
  else
   some (.dn v11)
noncomputable def zq87_L5 (a : Int) : Int × Int × (List Int) → Option (Lp (Int × Int × (List Int)) (Int × (List Int)))
 | (v6, v7, data1) =>
  (iter (zq87_L3 a v7 data1) v6).bind fun (v10 : Int) =>
  (iter (zq87_L4 a data1 v10) v7).bind fun (v13 : Int) =>
  if (decide (v13 < v10)) = true then
   some (.dn (v13, data1))
  else
   (idx data1 v13).bind fun e44 =>
   (idx data1 v10).bind fun e45 =>
   (idx data1 v10).bind fun e46 =>
   (idx (data1.set v10.toNat e44) v13).bind fun e47 =>
   some (.nx ((w64 (v10 + 1)), (w64 (v13 - 1)), ((data1.set v10.toNat e44).set v13.toNat e45)))
noncomputable def zq87 (data : List Int) (a : Int) (b : Int) (pivot : Int) : Option (Int × Bool × (List Int)) :=
 (idx data pivot).bind fun e4 =>
 (idx data a).bind fun e5 =>
 (idx data a).bind fun e6 =>
 (idx (data.set a.toNat e4) pivot).bind fun e7 =>
 (iter (zq87_L1 data a b pivot e4 e5) (w64 (a + 1))).bind fun (v2 : Int) =>
 (iter (zq87_L2 data a pivot e4 e5 v2) (w64 (b - 1))).bind fun (v5 : Int) =>
 if (decide (v5 < v2)) = true then
  (idx ((data.set a.toNat e4).set pivot.toNat e5) a).bind fun e20 =>
  (idx ((data.set a.toNat e4).set pivot.toNat e5) v5).bind fun e21 =>
  (idx ((data.set a.toNat e4).set pivot.toNat e5) v5).bind fun e22 =>
  (idx (((data.set a.toNat e4).set pivot.toNat e5).set v5.toNat e20) a).bind fun e23 =>
  some (v5, true, ((((data.set a.toNat e4).set pivot.toNat e5).set v5.toNat e20).set a.toNat e21))
 else
  (idx ((data.set a.toNat e4).set pivot.toNat e5) v5).bind fun e28 =>
  (idx ((data.set a.toNat e4).set pivot.toNat e5) v2).bind fun e29 =>
  (idx ((data.set a.toNat e4).set pivot.toNat e5) v2).bind fun e30 =>
  (idx (((data.set a.toNat e4).set pivot.toNat e5).set v2.toNat e28) v5).bind fun e31 =>
  (iter (zq87_L5 a) ((w64 (v2 + 1)), (w64 (v5 - 1)), ((((data.set a.toNat e4).set pivot.toNat e5).set v2.toNat e28).set v5.toNat e29))).bind fun ((v14, data2) : Int × (List Int)) =>
  (idx data2 a).bind fun e52 =>
  (idx data2 v14).bind fun e53 =>
  (idx data2 v14).bind fun e54 =>
  (idx (data2.set v14.toNat e52) a).bind fun e55 =>
  some (v14, false, ((data2.set v14.toNat e52).set a.toNat e53))
noncomputable def zq83 (length : Int) : Option ((IK .u64)) :=
 (zq24 (⟨(IntKind.u64.wrap (length))⟩ : IK .u64)).bind fun r =>
 (chk ((0 : Int) ≤ r)).bind fun u =>
 some (⟨(IntKind.u64.wrap (1 * 2 ^ (min (r : Int).toNat (IntKind.u64).bits)))⟩ : IK .u64)
noncomputable def zq91 (r : IK .u64) : Option ((IK .u64) × (IK .u64)) :=
 (chk ((0 : Int) ≤ 13)).bind fun u1 =>
 (chk ((0 : Int) ≤ 7)).bind fun u3 =>
 (chk ((0 : Int) ≤ 17)).bind fun u5 =>
 some ((⟨(IntKind.u64.wrap ((BitVec.ofInt (IntKind.u64).bits (IntKind.u64.wrap ((BitVec.ofInt (IntKind.u64).bits (IntKind.u64.wrap ((BitVec.ofInt (IntKind.u64).bits r.v ^^^ BitVec.ofInt (IntKind.u64).bits (IntKind.u64.wrap (r.v * 2 ^ (min (13 : Int).toNat (IntKind.u64).bits)))).toNat : Int)) ^^^ BitVec.ofInt (IntKind.u64).bits ((IntKind.u64.wrap ((BitVec.ofInt (IntKind.u64).bits r.v ^^^ BitVec.ofInt (IntKind.u64).bits (IntKind.u64.wrap (r.v * 2 ^ (min (13 : Int).toNat (IntKind.u64).bits)))).toNat : Int)).fdiv (2 ^ (min (7 : Int).toNat (IntKind.u64).bits)))).toNat : Int)) ^^^ BitVec.ofInt (IntKind.u64).bits (IntKind.u64.wrap ((IntKind.u64.wrap ((BitVec.ofInt (IntKind.u64).bits (IntKind.u64.wrap ((BitVec.ofInt (IntKind.u64).bits r.v ^^^ BitVec.ofInt (IntKind.u64).bits (IntKind.u64.wrap (r.v * 2 ^ (min (13 : Int).toNat (IntKind.u64).bits)))).toNat : Int)) ^^^ BitVec.ofInt (IntKind.u64).bits ((IntKind.u64.wrap ((BitVec.ofInt (IntKind.u64).bits r.v ^^^ BitVec.ofInt (IntKind.u64).bits (IntKind.u64.wrap (r.v * 2 ^ (min (13 : Int).toNat (IntKind.u64).bits)))).toNat : Int)).fdiv (2 ^ (min (7 : Int).toNat (IntKind.u64).bits)))).toNat : Int)) * 2 ^ (min (17 : Int).toNat (IntKind.u64).bits)))).toNat : Int))⟩ : IK .u64), (⟨(IntKind.u64.wrap ((BitVec.ofInt (IntKind.u64).bits (IntKind.u64.wrap ((BitVec.ofInt (IntKind.u64).bits (IntKind.u64.wrap ((BitVec.ofInt (IntKind.u64).bits r.v ^^^ BitVec.ofInt (IntKind.u64).bits (IntKind.u64.wrap (r.v * 2 ^ (min (13 : Int).toNat (IntKind.u64).bits)))).toNat : Int)) ^^^ BitVec.ofInt (IntKind.u64).bits ((IntKind.u64.wrap ((BitVec.ofInt (IntKind.u64).bits r.v ^^^ BitVec.ofInt (IntKind.u64).bits (IntKind.u64.wrap (r.v * 2 ^ (min (13 : Int).toNat (IntKind.u64).bits)))).toNat : Int)).fdiv (2 ^ (min (7 : Int).toNat (IntKind.u64).bits)))).toNat : Int)) ^^^ BitVec.ofInt (IntKind.u64).bits (IntKind.u64.wrap ((IntKind.u64.wrap ((BitVec.ofInt (IntKind.u64).bits (IntKind.u64.wrap ((BitVec.ofInt (IntKind.u64).bits r.v ^^^ BitVec.ofInt (IntKind.u64).bits (IntKind.u64.wrap (r.v * 2 ^ (min (13 : Int).toNat (IntKind.u64).bits)))).toNat : Int)) ^^^ BitVec.ofInt (IntKind.u64).bits ((IntKind.u64.wrap ((BitVec.ofInt (IntKind.u64).bits r.v ^^^ BitVec.ofInt (IntKind.u64).bits (IntKind.u64.wrap (r.v * 2 ^ (min (13 : Int).toNat (IntKind.u64).bits)))).toNat : Int)).fdiv (2 ^ (min (7 : Int).toNat (IntKind.u64).bits)))).toNat : Int)) * 2 ^ (min (17 : Int).toNat (IntKind.u64).bits)))).toNat : Int))⟩ : IK .u64))
noncomputable def zq77_L1 (a : Int) (b : Int) (r : (IK .u64)) : Int × (List Int) × Int → Option (Lp (Int × (List Int) × Int) ((List Int)))
 | (v, data1, v1) =>
  (chk ((4 : Int) ≠ 0)).bind fun u1 =>
  if (decide (v ≤ (w64 ((w64 (a + (w64 ((w64 ((w64 (b - a)).tdiv 4)) * 2)))) + 1)))) = true then
   (zq91 (⟨v1⟩ : IK .u64)).bind fun r1 =>
   (if (decide ((w64 (b - a)) ≤ (w64 ((IntKind.u64.wrap ((BitVec.ofInt (IntKind.u64).bits r1.1.v &&& BitVec.ofInt (IntKind.u64).bits (IntKind.u64.wrap (r.v - 1))).toNat : Int)))))) = true then
    some (w64 ((w64 ((IntKind.u64.wrap ((BitVec.ofInt (IntKind.u64).bits r1.1.v &&& BitVec.ofInt (IntKind.u64).bits (IntKind.u64.wrap (r.v - 1))).toNat : Int)))) - (w64 (b - a))))
   else
    some (w64 ((IntKind.u64.wrap ((BitVec.ofInt (IntKind.u64).bits r1.1.v &&& BitVec.ofInt (IntKind.u64).bits (IntKind.u64.wrap (r.v - 1))).toNat : Int))))).bind fun (v2 : Int) =>
   (idx data1 (w64 (a + v2))).bind fun e4 =>
   (idx data1 v).bind fun e5 =>
   (idx data1 v).bind fun e6 =>
   (idx (data1.set v.toNat e4) (w64 (a + v2))).bind fun e7 =>
   some (.nx ((w64 (v + 1)), ((data1.set v.toNat e4).set (w64 (a + v2)).toNat e5), r1.2.v))
  else
   some (.dn data1)
noncomputable def zq77 (data : List Int) (a : Int) (b : Int) : Option ((List Int)) :=
 if (decide (8 ≤ (w64 (b - a)))) = true then
  (zq83 (w64 (b - a))).bind fun r =>
  (chk ((4 : Int) ≠ 0)).bind fun u =>
  iter (zq77_L1 a b r) ((w64 ((w64 (a + (w64 ((w64 ((w64 (b - a)).tdiv 4)) * 2)))) - 1)), data, (IntKind.u64.wrap ((w64 (b - a)))))
 else
  some data
noncomputable def zq88_L1 (rec_ : (List Int) → Int → Int → Int → Option ((List Int))) : Int × Int × Int × Bool × Bool × (List Int) → Option (Lp (Int × Int × Int × Bool × Bool × (List Int)) ((List Int)))
 | (a1, b1, limit1, hint, mid, data1) =>
  if (decide ((w64 (b1 - a1)) ≤ 12)) = true then
   (zq80 data1 a1 b1).bind fun r =>
   some (.dn r)
  else
   if (limit1 == 0) = true then
    (zq79 data1 a1 b1).bind fun r2 =>
    some (.dn r2)
   else
    (if (!hint) = true then
     (zq77 data1 a1 b1).bind fun r4 =>
     some ((w64 (limit1 - 1)), r4)
    else
     some (limit1, data1)).bind fun ((limit2, data2) : Int × (List Int)) =>
    (zq78 data2 a1 b1).bind fun r5 =>
    (if (r5.2 == 2) = true then
     (zq89 data2 a1 b1).bind fun r6 =>
     some ((w64 ((w64 (b1 - 1)) - (w64 (r5.1 - a1)))), (1 : Int), r6)
    else
     some (r5.1, r5.2, data2)).bind fun ((alreadyPartitioned, leftLen, data3) : Int × Int × (List Int)) =>
    flb ((if hint = true then if mid = true then some (leftLen == 1) else some false else some false).bind fun (v : Bool) =>
    if v = true then
     (zq85 data3 a1 b1).bind fun r7 =>
     if r7.1 = true then
      some (.ret (.dn r7.2))
     else
      some (.go r7.2)
    else
     some (.go data3)) fun (data4 : List Int) =>
    (if (decide (0 < a1)) = true then (idx data4 (w64 (a1 - 1))).bind fun e6 =>
    (idx data4 alreadyPartitioned).bind fun e7 =>
    (zq0 e6 e7).bind fun r11 =>
    some (!r11) else some false).bind fun (v1 : Bool) =>
    if v1 = true then
     (zq86 data4 a1 b1 alreadyPartitioned).bind fun r12 =>
     some (.nx (r12.1, b1, limit2, hint, mid, r12.2))
    else
     (zq87 data4 a1 b1 alreadyPartitioned).bind fun r13 =>
     (chk ((8 : Int) ≠ 0)).bind fun u =>
     if (decide ((w64 (r13.1 - a1)) < (w64 (b1 - r13.1)))) = true then
      (rec_ r13.2.2 a1 r13.1 limit2).bind fun r14 =>
      some (.nx ((w64 (r13.1 + 1)), b1, limit2, (decide ((w64 ((w64 (b1 - a1)).tdiv 8)) ≤ (w64 (r13.1 - a1)))), r13.2.1, r14))
     else
      (rec_ r13.2.2 (w64 (r13.1 + 1)) b1 limit2).bind fun r15 =>
      some (.nx (a1, r13.1, limit2, (decide ((w64 ((w64 (b1 - a1)).tdiv 8)) ≤ (w64 (b1 - r13.1)))), r13.2.1, r15))
noncomputable def zq88_F (rec_ : (List Int) → Int → Int → Int → Option ((List Int))) (data : List Int) (a : Int) (b : Int) (limit : Int) : Option ((List Int)) :=
 iter (zq88_L1 rec_) (a, b, limit, true, true, data)
noncomputable def zq88_k : Nat → (List Int) → Int → Int → Int → Option ((List Int))
 | 0 => fun _ _ _ _ => none
 | n + 1 => zq88_F (zq88_k n)
noncomputable def zq88 (data : List Int) (a : Int) (b : Int) (limit : Int) : Option ((List Int)) := zq88_k 4294967296 data a b limit
noncomputable def zq76 (x : List Int) : Option ((List Int)) :=
 (zq24 (⟨(IntKind.u64.wrap ((x.length : Int)))⟩ : IK .u64)).bind fun r =>
 (zq88 x 0 (x.length : Int) r).bind fun r1 =>
 some r1
noncomputable def zq20_L1 (n : Network) (period : Int) (list : List Pattern) (stop : Int) : Int × (List Int) → Option (Lp (Int × (List Int)) ((List Int)))
 | (v, v1) =>
  if (decide (v < (list.length : Int))) = true then
   ((idx list v).bind fun e =>
   (zq21 n period e stop).bind fun r =>
   if (decide (0 ≤ r)) = true then
    (chk (v1.length + ([r] : List Int).length ≤ 4294967296)).bind fun u =>
    some (v1 ++ ([r] : List Int))
   else
    some v1).bind fun (v2 : List Int) =>
   some (.nx ((w64 (v + 1)), v2))
  else
   some (.dn v1)
noncomputable def zq20 (n : Network) (period : Int) (list : List Pattern) (stop : Int) : Option ((List Int)) :=
 (iter (zq20_L1 n period list stop) ((0 : Int), ([] : List Int))).bind fun (v3 : List Int) =>
 (zq76 v3).bind fun r1 =>
 some r1
noncomputable def zq73 (s : List Pattern) : Option ((List Pattern)) :=
 (chk (([] : List Pattern).length + s.length ≤ 4294967296)).bind fun u =>
 some s
noncomputable def zq12_L1 (rests : List Int) (period : Int) : Int × (List Int) → Option (Lp (Int × (List Int)) ((List Int)))
 | (v, r) =>
  if (decide (v < (rests.length : Int))) = true then
   ((idx rests v).bind fun e =>
   if (decide ((w64 (v + 1)) < (rests.length : Int))) = true then
    (idx rests (w64 (v + 1))).bind fun e1 =>
    (idx r v).bind fun e2 =>
    some (r.set v.toNat (w64 (e1 - e)))
   else
    (idx rests 0).bind fun e3 =>
    (idx r v).bind fun e4 =>
    some (r.set v.toNat (w64 ((w64 (e3 + period)) - e)))).bind fun (r1 : List Int) =>
   some (.nx ((w64 (v + 1)), r1))
  else
   some (.dn r)
noncomputable def zq12 (rests : List Int) (period : Int) : Option ((List Int)) :=
 (chk ((0 : Int) ≤ (rests.length : Int) ∧ ((rests.length : Int) : Int) ≤ 4294967296)).bind fun u =>
 (iter (zq12_L1 rests period) ((0 : Int), (List.replicate (rests.length : Int).toNat (0 : Int)))).bind fun (r2 : List Int) =>
 some r2
noncomputable def zq18_L1 (rests : List Int) (r : (List Int)) : Int × Int × Int → Option (Lp (Int × Int × Int) (Int × Int))
 | (i, g, v) =>
  if (decide (v < (r.length : Int))) = true then
   ((idx r v).bind fun e =>
   if (decide (i < e)) = true then
    (idx rests v).bind fun e2 =>
    some (e, e2)
   else
    some (i, g)).bind fun ((i1, g1) : Int × Int) =>
   some (.nx (i1, g1, (w64 (v + 1))))
  else
   some (.dn (i, g))
noncomputable def zq18 (rests : List Int) (period : Int) : Option (Int × Int) :=
 (zq12 rests period).bind fun r =>
 (iter (zq18_L1 rests r) (((-1) : Int), (0 : Int), (0 : Int))).bind fun ((i2, g2) : Int × Int) =>
 some (i2, g2)
noncomputable def zq3_L1 (rec_ : Int → (List Pattern) → Int → Network → Int → (Nl Int) → Int → Option ((List Pattern) × (Nl Int) × Int)) (i : Int) (c2 : Int) (c4 : Network) (c5 : Int) : Int × (List Pattern) × (Nl Int) × Int → Option (Lp (Int × (List Pattern) × (Nl Int) × Int) ((List Pattern) × (Nl Int) × Int))
 | (v, v1, v2, v3) =>
  if (decide (v < c2)) = true then
   (idx v1 i).bind fun e =>
   (rec_ (w64 (i + 1)) (v1.set i.toNat (⟨e.Line, v⟩ : Pattern)) c2 c4 c5 v2 v3).bind fun r =>
   some (.nx ((w64 (v + 1)), r.1, r.2.1, r.2.2))
  else
   some (.dn (v1, v2, v3))
noncomputable def zq3_L2 (c1 : List Pattern) (r4 : Int × Int) : Int × (List Int) → Option (Lp (Int × (List Int)) ((List Pattern) × (Nl Int) × Int))
 | (v9, v10) =>
  if (decide (v9 < (c1.length : Int))) = true then
   (idx c1 v9).bind fun e1 =>
   (chk (v10.length + ([e1.Offset] : List Int).length ≤ 4294967296)).bind fun u =>
   some (.nx ((w64 (v9 + 1)), (v10 ++ ([e1.Offset] : List Int))))
  else
   ((chk (v10.length ≠ 0)).bind fun u1 =>
   some (c1, (⟨v10⟩ : Nl Int), r4.1)).bind fun r5 => some (.dn r5)
noncomputable def zq3_F (rec_ : Int → (List Pattern) → Int → Network → Int → (Nl Int) → Int → Option ((List Pattern) × (Nl Int) × Int)) (i : Int) (c1 : List Pattern) (c2 : Int) (c4 : Network) (c5 : Int) (c6 : Nl Int) (c7 : Int) : Option ((List Pattern) × (Nl Int) × Int) :=
 if (decide (i < (c1.length : Int))) = true then
  (iter (zq3_L1 rec_ i c2 c4 c5) ((0 : Int), c1, c6, c7)).bind fun ((v4, v5, v6) : (List Pattern) × (Nl Int) × Int) =>
  some (v4, v5, v6)
 else
  (zq20 c4 c2 c1 c5).bind fun r3 =>
  (zq18 r3 c2).bind fun r4 =>
  (nlsp c6 (some (true, ([] : List Int))) (fun a l => some ((decide (r4.1 < c7)), (a :: l)))).bind fun ((v7, v8) : Bool × (List Int)) =>
  if v7 = true then
   iter (zq3_L2 c1 r4) ((0 : Int), ([] : List Int))
  else
   (chk (v8.length ≠ 0)).bind fun u2 =>
   some (c1, (⟨v8⟩ : Nl Int), c7)
noncomputable def zq3_k : Nat → Int → (List Pattern) → Int → Network → Int → (Nl Int) → Int → Option ((List Pattern) × (Nl Int) × Int)
 | 0 => fun _ _ _ _ _ _ _ => none
 | n + 1 => zq3_F (zq3_k n)
noncomputable def zq3 (i : Int) (c1 : List Pattern) (c2 : Int) (c4 : Network) (c5 : Int) (c6 : Nl Int) (c7 : Int) : Option ((List Pattern) × (Nl Int) × Int) := zq3_k 4294967296 i c1 c2 c4 c5 c6 c7
noncomputable def zq2 (n : Network) (period : Int) (list : List Pattern) (stop : Int) : Option ((List Int) × Int × Bool) :=
 (zq11 n period list stop).bind fun r =>
 (if (!r) = true then some true else if (decide (20 < period)) = true then some true else (zq20 n period list stop).bind fun r1 =>
 some ((r1.length : Int) == 0)).bind fun (v : Bool) =>
 if v = true then
  some (([] : List Int), 0, false)
 else
  (zq73 list).bind fun r2 =>
  (zq3 1 r2 period n stop (⟨[]⟩ : Nl Int) 0).bind fun r3 =>
  (chk (r3.2.1.l.length ≠ 0)).bind fun u =>
  some (r3.2.1.l, r3.2.2, true)
noncomputable def zq39_L1 (n : Network) (period : Int) (list : List Pattern) : Int → Option (Lp (Int) (Fl (Bool) (Unit)))
 | v1 =>
  if (decide (v1 < (list.length : Int))) = true then
   (idx list v1).bind fun e2 =>
   (zq57 e2.Line 0 (w64 ((n.Lines.length : Int) - 1))).bind fun r5 =>
   (if (!r5) = true then some true else (idx list v1).bind fun e3 =>
   (zq57 e3.Offset 0 (w64 (period - 1))).bind fun r6 =>
   some (!r6)).bind fun (v2 : Bool) =>
   if v2 = true then
    some (.dn (.ret false))
   else
    some (.nx (w64 (v1 + 1)))
  else
   some (.dn (.go ()))
noncomputable def zq39 (n : Network) (period : Int) (list : List Pattern) : Option (Bool) :=
 (zq65 n).bind fun r =>
 (if (!r) = true then some true else (zq57 period 1 60).bind fun r1 =>
 if (!r1) = true then some true else (zq57 (list.length : Int) 1 3).bind fun r2 =>
 some (!r2)).bind fun (v : Bool) =>
 if v = true then
  some false
 else
  flb (iter (zq39_L1 n period list) (0 : Int)) fun (_ : Unit) =>
  some true
noncomputable def zq36 (n : Network) (period : Int) (list : List Pattern) (stop : Int) : Option (Bool) :=
 (zq39 n period list).bind fun r =>
 (if r = true then (zq57 stop 0 (w64 ((n.Stops.length : Int) - 1))).bind fun r1 =>
 some r1 else some false).bind fun (v : Bool) =>
 some v
noncomputable def zq72_L1 (x : Line) (to_ : Int) : Int × Int → Option (Lp (Int × Int) (Int))
 | (v, v1) =>
  if (decide (v1 < to_)) = true then
   (idx x.Runs v1).bind fun e =>
   some (.nx ((w64 (v + e)), (w64 (v1 + 1))))
  else
   some (.dn v)
noncomputable def zq72 (x : Line) (from_ : Int) (to_ : Int) : Option (Int) :=
 (iter (zq72_L1 x to_) ((0 : Int), from_)).bind fun (v2 : Int) =>
 some v2
noncomputable def zq41 (n : Network) (period : Int) (p : Pattern) (stop : Int) : Option (Int) :=
 (idx n.Lines p.Line).bind fun e =>
 (zq71 e stop).bind fun r =>
 if (decide (r < 0)) = true then
  some (-1)
 else
  (idx n.Lines p.Line).bind fun e2 =>
  (zq72 e2 0 r).bind fun r2 =>
  (chk ((period : Int) ≠ 0)).bind fun u1 =>
  some ((w64 (p.Offset + r2)).tmod period)
noncomputable def zq42_L1 (v1 : List Int) (r1 : Int) : Int → Option (Lp (Int) (Int))
 | v3 =>
  (if (decide (0 < v3)) = true then (idx v1 (w64 (v3 - 1))).bind fun e2 =>
  some (decide (r1 < e2)) else some false).bind fun (v4 : Bool) =>
  if v4 = true then
   some (.nx (w64 (v3 - 1)))
  else
   some (.dn v3)
noncomputable def zq42_L2 (n : Network) (period : Int) (list : List Pattern) (stop : Int) : Int × (List Int) → Option (Lp (Int × (List Int)) ((List Int)))
 | (v, v1) =>
  if (decide (v < (list.length : Int))) = true then
   ((idx list v).bind fun e1 =>
   (zq41 n period e1 stop).bind fun r1 =>
   if (decide (r1 < 0)) = true then
    some v1
   else
    (iter (zq42_L1 v1 r1) (v1.length : Int)).bind fun (v5 : Int) =>
    (chk ((0 : Int) ≤ 0 ∧ (0 : Int) ≤ v5 ∧ v5 ≤ (v1.length : Int))).bind fun u5 =>
    (chk (([] : List Int).length + ((v1.take v5.toNat).drop (0 : Int).toNat).length ≤ 4294967296)).bind fun u6 =>
    (chk ((([] : List Int) ++ ((v1.take v5.toNat).drop (0 : Int).toNat)).length + ([r1] : List Int).length ≤ 4294967296)).bind fun u7 =>
    (chk ((0 : Int) ≤ v5 ∧ v5 ≤ (v1.length : Int))).bind fun u8 =>
    (chk (((([] : List Int) ++ ((v1.take v5.toNat).drop (0 : Int).toNat)) ++ ([r1] : List Int)).length + (v1.drop v5.toNat).length ≤ 4294967296)).bind fun u9 =>
    some (((([] : List Int) ++ ((v1.take v5.toNat).drop (0 : Int).toNat)) ++ ([r1] : List Int)) ++ (v1.drop v5.toNat))).bind fun (v2 : List Int) =>
   some (.nx ((w64 (v + 1)), v2))
  else
   some (.dn v1)
noncomputable def zq42 (n : Network) (period : Int) (list : List Pattern) (stop : Int) : Option ((List Int)) :=
 (iter (zq42_L2 n period list stop) ((0 : Int), ([] : List Int))).bind fun (v6 : List Int) =>
 some v6
noncomputable def zq38_L1 (rests : List Int) (period : Int) : Int × (List Int) → Option (Lp (Int × (List Int)) ((List Int)))
 | (v, next) =>
  if (decide (v < (rests.length : Int))) = true then
   (idx rests 0).bind fun e =>
   (if (decide ((w64 (v + 1)) < (rests.length : Int))) = true then
    (idx rests (w64 (v + 1))).bind fun e1 =>
    some e1
   else
    some (w64 (e + period))).bind fun (v1 : Int) =>
   (idx rests v).bind fun e2 =>
   (chk (next.length + ([(w64 (v1 - e2))] : List Int).length ≤ 4294967296)).bind fun u =>
   some (.nx ((w64 (v + 1)), (next ++ ([(w64 (v1 - e2))] : List Int))))
  else
   some (.dn next)
noncomputable def zq38 (rests : List Int) (period : Int) : Option ((List Int)) :=
 (iter (zq38_L1 rests period) ((0 : Int), ([] : List Int))).bind fun (next1 : List Int) =>
 some next1
noncomputable def zq32 (n : Network) (period : Int) (list : List Pattern) (stop : Int) : Option ((List Int) × Bool) :=
 (zq36 n period list stop).bind fun r =>
 if (!r) = true then
  some (([] : List Int), false)
 else
  (zq42 n period list stop).bind fun r1 =>
  (zq38 r1 period).bind fun r2 =>
  some (r2, true)
noncomputable def zq40_L1 (gaps : List Int) : Int × Int → Option (Lp (Int × Int) (Int))
 | (i, v) =>
  if (decide (v < (gaps.length : Int))) = true then
   ((idx gaps v).bind fun e2 =>
   (idx gaps i).bind fun e3 =>
   if (decide (e3 < e2)) = true then
    some v
   else
    some i).bind fun (i1 : Int) =>
   some (.nx (i1, (w64 (v + 1))))
  else
   some (.dn i)
noncomputable def zq40 (gaps : List Int) : Option (Int × Int) :=
 (iter (zq40_L1 gaps) ((0 : Int), (1 : Int))).bind fun (i2 : Int) =>
 (idx gaps i2).bind fun e4 =>
 some (e4, i2)
noncomputable def zq33 (n : Network) (period : Int) (list : List Pattern) (stop : Int) : Option (Int × Int × Bool) :=
 (zq32 n period list stop).bind fun r =>
 (if (!r.2) = true then some true else some ((r.1.length : Int) == 0)).bind fun (v : Bool) =>
 if v = true then
  some (0, 0, false)
 else
  (zq40 r.1).bind fun r1 =>
  (zq42 n period list stop).bind fun r3 =>
  (idx r3 r1.2).bind fun e1 =>
  some (r1.1, e1, true)
noncomputable def zq26_L1 (period : Int) (list : List Pattern) : Int × Int → Option (Lp (Int × Int) (Int))
 | (code, try_) =>
  if (decide (try_ < (list.length : Int))) = true then
   some (.nx ((w64 (code * period)), (w64 (try_ + 1))))
  else
   some (.dn code)
noncomputable def zq26_L2 (period : Int) (list : List Pattern) : Int × Int × (List Pattern) × (List Int) → Option (Lp (Int × Int × (List Pattern) × (List Int)) ((List Pattern) × (List Int)))
 | (v1, v2, gap, v3) =>
  if (decide (0 < v2)) = true then
   (chk ((period : Int) ≠ 0)).bind fun u2 =>
   (idx v3 v2).bind fun e =>
   (idx list v2).bind fun e3 =>
   (chk ((period : Int) ≠ 0)).bind fun u4 =>
   (idx gap v2).bind fun e4 =>
   (chk ((period : Int) ≠ 0)).bind fun u5 =>
   some (.nx ((w64 (v1.tdiv period)), (w64 (v2 - 1)), (gap.set v2.toNat (⟨e3.Line, (v1.tmod period)⟩ : Pattern)), (v3.set v2.toNat (v1.tmod period))))
  else
   some (.dn (gap, v3))
noncomputable def zq26_L3 (n : Network) (period : Int) (list : List Pattern) (stop : Int) (code1 : Int) : Int × Int × (List Int) → Option (Lp (Int × Int × (List Int)) (Int × (List Int)))
 | (x, i, offsets) =>
  if (decide (i < code1)) = true then
   ((chk (([] : List Pattern).length + list.length ≤ 4294967296)).bind fun u =>
   (chk ((0 : Int) ≤ (list.length : Int) ∧ ((list.length : Int) : Int) ≤ 4294967296)).bind fun u1 =>
   (iter (zq26_L2 period list) (i, (w64 ((list.length : Int) - 1)), (([] : List Pattern) ++ list), (List.replicate (list.length : Int).toNat (0 : Int)))).bind fun ((gap1, v4) : (List Pattern) × (List Int)) =>
   (idx list 0).bind fun e5 =>
   (idx v4 0).bind fun e6 =>
   (zq42 n period gap1 stop).bind fun r1 =>
   (zq38 r1 period).bind fun r2 =>
   (zq40 r2).bind fun r3 =>
   if (decide (r3.1 < x)) = true then
    some (r3.1, (v4.set (0 : Int).toNat e5.Offset))
   else
    some (x, offsets)).bind fun ((x1, offsets1) : Int × (List Int)) =>
   some (.nx (x1, (w64 (i + 1)), offsets1))
  else
   some (.dn (x, offsets))
noncomputable def zq26 (n : Network) (period : Int) (list : List Pattern) (stop : Int) : Option ((List Int) × Int × Bool) :=
 (zq33 n period list stop).bind fun r =>
 (if (!r.2.2) = true then some true else some (decide (20 < period))).bind fun (v : Bool) =>
 if v = true then
  some (([] : List Int), 0, false)
 else
  (iter (zq26_L1 period list) ((1 : Int), (1 : Int))).bind fun (code1 : Int) =>
  (iter (zq26_L3 n period list stop code1) ((w64 (period + 1)), (0 : Int), ([] : List Int))).bind fun ((x2, offsets2) : Int × (List Int)) =>
  some (offsets2, x2, true)
noncomputable def zq93_L1 (a : List Int) (b : List Int) : Int → Option (Lp (Int) (Fl (Bool) (Unit)))
 | v =>
  if (decide (v < (a.length : Int))) = true then
   (idx a v).bind fun e2 =>
   (idx b v).bind fun e3 =>
   if (e2 != e3) = true then
    some (.dn (.ret false))
   else
    some (.nx (w64 (v + 1)))
  else
   some (.dn (.go ()))
noncomputable def zq93 (a : List Int) (b : List Int) : Option (Bool) :=
 if ((a.length : Int) != (b.length : Int)) = true then
  some false
 else
  flb (iter (zq93_L1 a b) (0 : Int)) fun (_ : Unit) =>
  some true
noncomputable def zq7 (n : Network) (period : Int) (list : List Pattern) (stop : Int) : Option (Int × Int × Bool) :=
 (zq11 n period list stop).bind fun r =>
 if (!r) = true then
  some (0, 0, false)
 else
  (zq20 n period list stop).bind fun r1 =>
  if ((r1.length : Int) == 0) = true then
   some (0, 0, false)
  else
   (zq18 r1 period).bind fun r2 =>
   some (r2.1, r2.2, true)
noncomputable def zq58 (a : Int) (b : Int) : Option (Int) :=
 if (decide (b < a)) = true then
  some a
 else
  some b
noncomputable def zq30 (code : List UInt8) : Option (Network × Int × (List Pattern) × Int × Int × Int × Int) :=
 (zq53 (⟨code, 0, (⟨0⟩ : IK .u64)⟩ : l1Cur) 9).bind fun r =>
 (zq55 r.2.2.2 r.1 r.2.2.1).bind fun r1 =>
 (zq58 (r.2.2.1.length : Int) 1).bind fun r2 =>
 (zq54 r1.2 r2).bind fun r8 =>
 (zq54 r8.2 (w64 (r2 + 1))).bind fun r9 =>
 (zq54 r9.2 12).bind fun r10 =>
 (chk ((11 : Int) ≠ 0)).bind fun u3 =>
 (zq54 r10.2 24).bind fun r11 =>
 (chk ((11 : Int) ≠ 0)).bind fun u4 =>
 (chk ((0 : Int) ≤ 0 ∧ (0 : Int) ≤ (w64 (5 + (w64 (r11.1.tdiv 11)))) ∧ (w64 (5 + (w64 (r11.1.tdiv 11)))) ≤ (([0, 1, 3, 10, 60, (-1), 61] : List Int).length : Int))).bind fun u5 =>
 (zq44 r11.2 ((([0, 1, 3, 10, 60, (-1), 61] : List Int).take (w64 (5 + (w64 (r11.1.tdiv 11)))).toNat).drop (0 : Int).toNat)).bind fun r12 =>
 some (r.1, r.2.1, r.2.2.1, r8.1, (w64 (r9.1 - (w64 (r10.1.tdiv 11)))), r1.1, r12.1)
noncomputable def zq15 (list : List Pattern) (i : Int) : Option (Bool) :=
 (if (decide (0 ≤ i)) = true then some (decide (i < (list.length : Int))) else some false).bind fun (v : Bool) =>
 some v
noncomputable def zq9_L1 (period : Int) (r6 : Int) (r7 : Int) : Int → Option (Lp (Int) (Int))
 | v2 =>
  (chk ((period : Int) ≠ 0)).bind fun u =>
  if (((w64 (r6 + v2)).tmod period) != r7) = true then
   some (.nx (w64 (v2 + 1)))
  else
   some (.dn v2)
noncomputable def zq9 (n : Network) (period : Int) (list : List Pattern) (a : Int) (b : Int) (stop : Int) (walk : Int) : Option (Int × Bool) :=
 (zq11 n period list stop).bind fun r =>
 (if (!r) = true then some true else (zq15 list a).bind fun r1 =>
 if (!r1) = true then some true else (zq15 list b).bind fun r2 =>
 if (!r2) = true then some true else if (a == b) = true then some true else (zq23 walk 0 60).bind fun r3 =>
 some (!r3)).bind fun (v : Bool) =>
 if v = true then
  some (0, false)
 else
  (idx list a).bind fun e2 =>
  (zq21 n period e2 stop).bind fun r6 =>
  (idx list b).bind fun e3 =>
  (zq21 n period e3 stop).bind fun r7 =>
  (idx list b).bind fun e6 =>
  (idx n.Lines e6.Line).bind fun e7 =>
  (if (decide (r6 < 0)) = true then some true else if (decide (r7 < 0)) = true then some true else (idx list a).bind fun e12 =>
  (idx n.Lines e12.Line).bind fun e13 =>
  (idx e13.Stops 0).bind fun e14 =>
  if (e14 == stop) = true then some true else (idx e7.Stops (w64 ((e7.Stops.length : Int) - 1))).bind fun e15 =>
  some (e15 == stop)).bind fun (v1 : Bool) =>
  if v1 = true then
   some (0, false)
  else
   (iter (zq9_L1 period r6 r7) walk).bind fun (v3 : Int) =>
   some (v3, true)
noncomputable def zq35 (n : Network) (period : Int) (list : List Pattern) (a : Int) (b : Int) (stop : Int) (walk : Int) : Option (Int × Bool) :=
 (zq36 n period list stop).bind fun r =>
 (if (!r) = true then some true else (zq57 a 0 (w64 ((list.length : Int) - 1))).bind fun r1 =>
 if (!r1) = true then some true else (zq57 b 0 (w64 ((list.length : Int) - 1))).bind fun r2 =>
 if (!r2) = true then some true else if (a == b) = true then some true else (zq57 walk 0 60).bind fun r3 =>
 some (!r3)).bind fun (v : Bool) =>
 if v = true then
  some (0, false)
 else
  (idx list a).bind fun e4 =>
  (idx n.Lines e4.Line).bind fun e5 =>
  (idx list b).bind fun e6 =>
  (idx n.Lines e6.Line).bind fun e7 =>
  (zq71 e5 stop).bind fun r6 =>
  (zq71 e7 stop).bind fun r7 =>
  (if (decide (r6 < 1)) = true then some true else if (decide (r7 < 0)) = true then some true else some (r7 == (w64 ((e7.Stops.length : Int) - 1)))).bind fun (v1 : Bool) =>
  if v1 = true then
   some (0, false)
  else
   (idx list a).bind fun e9 =>
   (zq41 n period e9 stop).bind fun r9 =>
   (idx list b).bind fun e11 =>
   (zq41 n period e11 stop).bind fun r11 =>
   (chk ((period : Int) ≠ 0)).bind fun u =>
   (chk ((period : Int) ≠ 0)).bind fun u1 =>
   some ((w64 (walk + ((w64 ((w64 (r11 - ((w64 (r9 + walk)).tmod period))) + period)).tmod period))), true)
noncomputable def zq29 (code : List UInt8) : Option (Network × Int × (List Pattern) × Int × Int) :=
 (zq53 (⟨code, 0, (⟨0⟩ : IK .u64)⟩ : l1Cur) 9).bind fun r =>
 (zq58 (r.2.2.1.length : Int) 1).bind fun r1 =>
 (zq54 r.2.2.2 r1).bind fun r5 =>
 (zq54 r5.2 (w64 (r1 + 1))).bind fun r6 =>
 (zq54 r6.2 12).bind fun r7 =>
 (chk ((11 : Int) ≠ 0)).bind fun u1 =>
 some ((⟨r.1.Stops, r.1.Lines⟩ : Network), r.2.1, r.2.2.1, r5.1, (w64 (r6.1 - (w64 (r7.1.tdiv 11)))))
noncomputable def zq8_L1 (n : Network) (period : Int) (list : List Pattern) (a : Int) (b : Int) (e3 : Line) : Int × (List Int) → Option (Lp (Int × (List Int)) ((List Int)))
 | (v1, v2) =>
  if (decide (v1 < (e3.Stops.length : Int))) = true then
   ((idx e3.Stops v1).bind fun e4 =>
   (idx list a).bind fun e7 =>
   (zq21 n period e7 e4).bind fun r5 =>
   (idx list b).bind fun e8 =>
   (zq21 n period e8 e4).bind fun r6 =>
   if (r5 == r6) = true then
    (chk (v2.length + ([v1] : List Int).length ≤ 4294967296)).bind fun u =>
    some (v2 ++ ([v1] : List Int))
   else
    some v2).bind fun (v3 : List Int) =>
   some (.nx ((w64 (v1 + 1)), v3))
  else
   some (.dn v2)
noncomputable def zq8 (n : Network) (period : Int) (list : List Pattern) (a : Int) (b : Int) : Option ((List Int) × Bool) :=
 (zq6 n period list).bind fun r =>
 (if (!r) = true then some true else (zq15 list a).bind fun r1 =>
 if (!r1) = true then some true else (zq15 list b).bind fun r2 =>
 some (!r2)).bind fun (v : Bool) =>
 if v = true then
  some (([] : List Int), false)
 else
  (idx list a).bind fun e2 =>
  (idx n.Lines e2.Line).bind fun e3 =>
  (iter (zq8_L1 n period list a b e3) ((0 : Int), ([] : List Int))).bind fun (v4 : List Int) =>
  some (v4, true)
noncomputable def zq34_L1 (n : Network) (period : Int) (list : List Pattern) (a : Int) (b : Int) (e3 : Line) : Int × (List Int) → Option (Lp (Int × (List Int)) ((List Int)))
 | (v1, v2) =>
  if (decide (v1 < (e3.Stops.length : Int))) = true then
   ((idx list b).bind fun e8 =>
   (idx e3.Stops v1).bind fun e9 =>
   (zq41 n period e8 e9).bind fun r5 =>
   (idx list a).bind fun e10 =>
   (idx e3.Stops v1).bind fun e11 =>
   (zq41 n period e10 e11).bind fun r6 =>
   if (r5 == r6) = true then
    (chk (v2.length + ([v1] : List Int).length ≤ 4294967296)).bind fun u =>
    some (v2 ++ ([v1] : List Int))
   else
    some v2).bind fun (v3 : List Int) =>
   some (.nx ((w64 (v1 + 1)), v3))
  else
   some (.dn v2)
noncomputable def zq34 (n : Network) (period : Int) (list : List Pattern) (a : Int) (b : Int) : Option ((List Int) × Bool) :=
 (zq39 n period list).bind fun r =>
 (if (!r) = true then some true else (zq57 a 0 (w64 ((list.length : Int) - 1))).bind fun r1 =>
 if (!r1) = true then some true else (zq57 b 0 (w64 ((list.length : Int) - 1))).bind fun r2 =>
 some (!r2)).bind fun (v : Bool) =>
 if v = true then
  some (([] : List Int), false)
 else
  (idx list a).bind fun e2 =>
  (idx n.Lines e2.Line).bind fun e3 =>
  (iter (zq34_L1 n period list a b e3) ((0 : Int), ([] : List Int))).bind fun (v4 : List Int) =>
  some (v4, true)
noncomputable def zq28 (code : List UInt8) : Option (Int × Int) :=
 (zq54 (⟨code, 0, (⟨0⟩ : IK .u64)⟩ : l1Cur) 24).bind fun r =>
 (chk ((11 : Int) ≠ 0)).bind fun u =>
 (chk ((0 : Int) ≤ 0 ∧ (0 : Int) ≤ (w64 (5 + (w64 (r.1.tdiv 11)))) ∧ (w64 (5 + (w64 (r.1.tdiv 11)))) ≤ (([1, 5, 10, 60, 7, 0, 61] : List Int).length : Int))).bind fun u1 =>
 (zq43 r.2 ((([1, 5, 10, 60, 7, 0, 61] : List Int).take (w64 (5 + (w64 (r.1.tdiv 11)))).toNat).drop (0 : Int).toNat)).bind fun r1 =>
 (zq43 r1.2 ([1, 2, 3, 4, 7, r1.1, (w64 (r1.1 + 1)), 0] : List Int)).bind fun r2 =>
 some (r2.1, r1.1)
noncomputable def zq4_L1 (count : Int) (period : Int) : Int × (List Int) → Option (Lp (Int × (List Int)) ((List Int)))
 | (v1, v2) =>
  if (decide (v1 < ((List.replicate count.toNat (0 : Int)).length : Int))) = true then
   (chk ((count : Int) ≠ 0)).bind fun u1 =>
   (idx v2 v1).bind fun e =>
   some (.nx ((w64 (v1 + 1)), (v2.set v1.toNat (w64 ((w64 (v1 * period)).tdiv count)))))
  else
   some (.dn v2)
noncomputable def zq4 (count : Int) (period : Int) : Option ((List Int) × Bool) :=
 (zq23 period 1 60).bind fun r =>
 (if (!r) = true then some true else (zq23 count 1 period).bind fun r1 =>
 some (!r1)).bind fun (v : Bool) =>
 if v = true then
  some (([] : List Int), false)
 else
  (chk ((0 : Int) ≤ count ∧ (count : Int) ≤ 4294967296)).bind fun u =>
  (iter (zq4_L1 count period) ((0 : Int), (List.replicate count.toNat (0 : Int)))).bind fun (v3 : List Int) =>
  some (v3, true)
noncomputable def zq37_L1 (count : Int) (period : Int) : Int × (List Int) → Option (Lp (Int × (List Int)) ((List Int)))
 | (v, v1) =>
  if (decide (v < count)) = true then
   (chk ((count : Int) ≠ 0)).bind fun u =>
   (chk (v1.length + ([(w64 ((w64 (v * period)).tdiv count))] : List Int).length ≤ 4294967296)).bind fun u1 =>
   some (.nx ((w64 (v + 1)), (v1 ++ ([(w64 ((w64 (v * period)).tdiv count))] : List Int))))
  else
   some (.dn v1)
noncomputable def zq37 (count : Int) (period : Int) : Option ((List Int)) :=
 (iter (zq37_L1 count period) ((0 : Int), ([] : List Int))).bind fun (v2 : List Int) =>
 some v2
noncomputable def zq31 (count : Int) (period : Int) : Option ((List Int) × Bool) :=
 (zq57 period 1 60).bind fun r =>
 (if (!r) = true then some true else (zq57 count 1 period).bind fun r1 =>
 some (!r1)).bind fun (v : Bool) =>
 if v = true then
  some (([] : List Int), false)
 else
  (zq37 count period).bind fun r2 =>
  some (r2, true)
noncomputable def v_FnOffsets_L1 (r1 : Network × Int × (List Pattern) × Int) (r2 : (List Int) × Int × Bool) : Int × (List Pattern) → Option (Lp (Int × (List Pattern)) ((List Pattern)))
 | (now, i) =>
  if (decide (now < (i.length : Int))) = true then
   (idx r1.2.2.1 now).bind fun e3 =>
   (idx r2.1 now).bind fun e4 =>
   (idx i now).bind fun e5 =>
   some (.nx ((w64 (now + 1)), (i.set now.toNat (⟨e3.Line, e4⟩ : Pattern))))
  else
   some (.dn i)
noncomputable def v_FnOffsets (code : List UInt8) : Option (Bool) :=
 (zq92 code).bind fun r =>
 if r = true then
  some true
 else
  (zq27 code).bind fun r1 =>
  (zq2 r1.1 r1.2.1 r1.2.2.1 r1.2.2.2).bind fun r2 =>
  (zq26 r1.1 r1.2.1 r1.2.2.1 r1.2.2.2).bind fun r3 =>
  (if (!(r2.2.2 == r3.2.2)) = true then some true else if (r2.2.1 != r3.2.1) = true then some true else (zq93 r2.1 r3.1).bind fun r4 =>
  some (!r4)).bind fun (v : Bool) =>
  if v = true then
   some false
  else
   flb (if r2.2.2 = true then
    (chk (([] : List Pattern).length + r1.2.2.1.length ≤ 4294967296)).bind fun u =>
    (iter (v_FnOffsets_L1 r1 r2) ((0 : Int), (([] : List Pattern) ++ r1.2.2.1))).bind fun (i1 : List Pattern) =>
    (zq7 r1.1 r1.2.1 i1 r1.2.2.2).bind fun r5 =>
    (zq7 r1.1 r1.2.1 r1.2.2.1 r1.2.2.2).bind fun r6 =>
    (if (!r5.2.2) = true then some true else if (!r6.2.2) = true then some true else if (r5.1 != r2.2.1) = true then some true else if (decide (r6.1 < r2.2.1)) = true then some true else (idx r2.1 0).bind fun e8 =>
    (idx r1.2.2.1 0).bind fun e9 =>
    some (e8 != e9.Offset)).bind fun (v1 : Bool) =>
    if v1 = true then
     some (.ret false)
    else
     some (.go ())
   else
    some (.go ())) fun (_ : Unit) =>
   (zq30 code).bind fun r8 =>
   (zq9 r8.1 r8.2.1 r8.2.2.1 r8.2.2.2.1 r8.2.2.2.2.1 r8.2.2.2.2.2.1 r8.2.2.2.2.2.2).bind fun r9 =>
   (zq35 r8.1 r8.2.1 r8.2.2.1 r8.2.2.2.1 r8.2.2.2.2.1 r8.2.2.2.2.2.1 r8.2.2.2.2.2.2).bind fun r10 =>
   (if (r9.1 != r10.1) = true then some true else if (!(r9.2 == r10.2)) = true then some true else if r9.2 = true then if (decide (r9.1 < r8.2.2.2.2.2.2)) = true then some true else some (decide ((w64 (r8.2.2.2.2.2.2 + r8.2.1)) ≤ r9.1)) else some false).bind fun (v2 : Bool) =>
   if v2 = true then
    some false
   else
    (zq29 code).bind fun r11 =>
    (zq8 r11.1 r11.2.1 r11.2.2.1 r11.2.2.2.1 r11.2.2.2.2).bind fun r12 =>
    (zq34 r11.1 r11.2.1 r11.2.2.1 r11.2.2.2.1 r11.2.2.2.2).bind fun r13 =>
    (zq28 code).bind fun r14 =>
    (zq4 r14.1 r14.2).bind fun r15 =>
    (zq31 r14.1 r14.2).bind fun r16 =>
    (if (r12.2 == r13.2) = true then (zq93 r12.1 r13.1).bind fun r17 =>
    if r17 = true then if (r15.2 == r16.2) = true then (zq93 r15.1 r16.1).bind fun r18 =>
    some r18 else some false else some false else some false).bind fun (n : Bool) =>
    some n
end Go.Proofs.Ytjahononbnbjnaa
