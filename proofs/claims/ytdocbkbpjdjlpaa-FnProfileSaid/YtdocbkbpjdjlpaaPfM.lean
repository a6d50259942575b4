/- Models of the functions that the law reaches: plain Lean; none where the function would panic or not end. Made by program (dec.py). -/
import Derived.Test.YtdocbkbpjdjlpaaAbC0
import Derived.Test.YtdocbkbpjdjlpaaAbIns
import Derived.Test.YtdocbkbpjdjlpaaAbCom
namespace Go.Proofs.Ytdocbkbpjdjlpaa
open Go Go.Ab
set_option maxRecDepth 100000
set_option maxHeartbeats 4000000
set_option linter.unusedVariables false
set_option linter.unusedSimpArgs false
structure l1Cur where
 code_ : List UInt8
 at_ : Int
 seed_ : IK .u64
instance enc_l1Cur : Enc l1Cur := ⟨3, fun x => .agg [Enc.e x.code_, .sc (.int .i64 x.at_), .sc (.int .u64 x.seed_.v)], fun a b h => by
 simp only [D.agg.injEq, List.cons.injEq, and_true] at h
 obtain ⟨a1, a2, a3⟩ := a
 obtain ⟨b1, b2, b3⟩ := b
 obtain ⟨h1, h2, h3⟩ := h
 have q1 := Enc.inj (α := List UInt8) a1 b1 h1
 have q2 := Enc.inj (α := Int) a2 b2 h2
 have q3 := Enc.inj (α := IK .u64) a3 b3 h3
 subst q1; subst q2; subst q3; rfl⟩
structure Line where
 Name : ByteArray
 Stops : List Int
 Runs : List Int
instance enc_Line : Enc Line := ⟨3, fun x => .agg [.sc (.string x.Name), Enc.e x.Stops, Enc.e x.Runs], fun a b h => by
 simp only [D.agg.injEq, List.cons.injEq, and_true] at h
 obtain ⟨a1, a2, a3⟩ := a
 obtain ⟨b1, b2, b3⟩ := b
 obtain ⟨h1, h2, h3⟩ := h
 have q1 := Enc.inj (α := ByteArray) a1 b1 h1
 have q2 := Enc.inj (α := List Int) a2 b2 h2
 have q3 := Enc.inj (α := List Int) a3 b3 h3
 subst q1; subst q2; subst q3; rfl⟩
structure Network where
 Stops : List ByteArray
 Lines : List Line
instance enc_Network : Enc Network := ⟨2, fun x => .agg [Enc.e x.Stops, Enc.e x.Lines], fun a b h => by
 simp only [D.agg.injEq, List.cons.injEq, and_true] at h
 obtain ⟨a1, a2⟩ := a
 obtain ⟨b1, b2⟩ := b
 obtain ⟨h1, h2⟩ := h
 have q1 := Enc.inj (α := List ByteArray) a1 b1 h1
 have q2 := Enc.inj (α := List Line) a2 b2 h2
 subst q1; subst q2; rfl⟩
structure Trip where
 Id : Int
 Line : Int
 Start : Int
instance enc_Trip : Enc Trip := ⟨3, fun x => .agg [.sc (.int .i64 x.Id), .sc (.int .i64 x.Line), .sc (.int .i64 x.Start)], fun a b h => by
 simp only [D.agg.injEq, List.cons.injEq, and_true] at h
 obtain ⟨a1, a2, a3⟩ := a
 obtain ⟨b1, b2, b3⟩ := b
 obtain ⟨h1, h2, h3⟩ := h
 have q1 := Enc.inj (α := Int) a1 b1 h1
 have q2 := Enc.inj (α := Int) a2 b2 h2
 have q3 := Enc.inj (α := Int) a3 b3 h3
 subst q1; subst q2; subst q3; rfl⟩
structure Timetable where
 Network : Network
 Trips : List Trip
instance enc_Timetable : Enc Timetable := ⟨3, fun x => .agg [Enc.e x.Network.Stops, Enc.e x.Network.Lines, Enc.e x.Trips], fun a b h => by
 simp only [D.agg.injEq, List.cons.injEq, and_true] at h
 obtain ⟨⟨a1, a2⟩, a3⟩ := a
 obtain ⟨⟨b1, b2⟩, b3⟩ := b
 obtain ⟨h1, h2, h3⟩ := h
 have q1 := Enc.inj (α := List ByteArray) a1 b1 h1
 have q2 := Enc.inj (α := List Line) a2 b2 h2
 have q3 := Enc.inj (α := List Trip) a3 b3 h3
 subst q1; subst q2; subst q3; rfl⟩
structure Choice where
 Depart : Int
 Arrive : Int
 Legs : Int
instance enc_Choice : Enc Choice := ⟨3, fun x => .agg [.sc (.int .i64 x.Depart), .sc (.int .i64 x.Arrive), .sc (.int .i64 x.Legs)], fun a b h => by
 simp only [D.agg.injEq, List.cons.injEq, and_true] at h
 obtain ⟨a1, a2, a3⟩ := a
 obtain ⟨b1, b2, b3⟩ := b
 obtain ⟨h1, h2, h3⟩ := h
 have q1 := Enc.inj (α := Int) a1 b1 h1
 have q2 := Enc.inj (α := Int) a2 b2 h2
 have q3 := Enc.inj (α := Int) a3 b3 h3
 subst q1; subst q2; subst q3; rfl⟩
instance : BxE l1Cur := ⟨fun x y h => Enc.inj x y (congrArg D.agg h)⟩
instance : BxE Line := ⟨fun x y h => Enc.inj x y (congrArg D.agg h)⟩
instance : BxE Network := ⟨fun x y h => Enc.inj x y (congrArg D.agg h)⟩
instance : BxE Trip := ⟨fun x y h => Enc.inj x y (congrArg D.agg h)⟩
instance : BxE Timetable := ⟨fun x y h => Enc.inj x y (congrArg D.agg h)⟩
instance : BxE Choice := ⟨fun x y h => Enc.inj x y (congrArg D.agg h)⟩
instance : FlatEnc Trip := ⟨fun _ => flatDB_ok rfl⟩
instance : FlatEnc Choice := ⟨fun _ => flatDB_ok rfl⟩
noncomputable def zq106 (code : List UInt8) : Option (Bool) :=
 some (decide (65536 < (code.length : Int)))
noncomputable def zq44 (c : l1Cur) : Option (Int × l1Cur) :=
 (if (decide (c.at_ < (c.code_.length : Int))) = true then
  (idx c.code_ c.at_).bind fun e1 =>
  some (w64 ((e1.toNat : Int)))
 else
  some (0 : Int)).bind fun (v : Int) =>
 if (decide ((w64 (c.at_ + 1)) ≤ (c.code_.length : Int))) = true then
  some (v, (⟨c.code_, (w64 (c.at_ + 1)), (⟨(IntKind.u64.wrap ((IntKind.u64.wrap ((IntKind.u64.wrap (c.seed_.v * 6364136223846793005)) + (IntKind.u64.wrap (v)))) + 900900))⟩ : IK .u64)⟩ : l1Cur))
 else
  (chk ((0 : Int) ≤ 40)).bind fun u =>
  some ((w64 ((IntKind.u64.wrap ((BitVec.ofInt (IntKind.u64).bits ((IntKind.u64.wrap ((IntKind.u64.wrap ((IntKind.u64.wrap (c.seed_.v * 6364136223846793005)) + (IntKind.u64.wrap (v)))) + 900900)).fdiv (2 ^ (min (40 : Int).toNat (IntKind.u64).bits))) &&& BitVec.ofInt (IntKind.u64).bits 255).toNat : Int)))), (⟨c.code_, (w64 (c.at_ + 1)), (⟨(IntKind.u64.wrap ((IntKind.u64.wrap ((IntKind.u64.wrap (c.seed_.v * 6364136223846793005)) + (IntKind.u64.wrap (v)))) + 900900))⟩ : IK .u64)⟩ : l1Cur))
noncomputable def zq48 (c : l1Cur) (n : Int) : Option (Int × l1Cur) :=
 if (decide (n ≤ 1)) = true then
  some (0, c)
 else
  (zq44 c).bind fun r =>
  (if (decide (200 < n)) = true then
   (zq44 r.2).bind fun r1 =>
   some ((w64 ((w64 (r.1 * 256)) + r1.1)), r1.2.code_, r1.2.at_, r1.2.seed_.v)
  else
   some (r.1, r.2.code_, r.2.at_, r.2.seed_.v)).bind fun ((v, v1, v2, v3) : Int × (List UInt8) × Int × Int) =>
  (chk ((n : Int) ≠ 0)).bind fun u =>
  some ((v.tmod n), (⟨v1, v2, (⟨v3⟩ : IK .u64)⟩ : l1Cur))
noncomputable def zq47 (c : l1Cur) (n : Int) : Option (Bool × l1Cur) :=
 (zq48 c n).bind fun r =>
 some ((r.1 == 0), r.2)
noncomputable def zq55_F (rec_ : Int → Option (ByteArray)) (n : Int) : Option (ByteArray) :=
 if (decide (n < 0)) = true then
  (rec_ (w64 (0 - n))).bind fun r =>
  (chk ((str [45]).size + r.size ≤ 4294967296)).bind fun u =>
  some ((str [45]) ++ r)
 else
  if (decide (n < 10)) = true then
   (chk ((0 : Int) ≤ n ∧ (n : Int) ≤ (w64 (n + 1)) ∧ (w64 (n + 1)) ≤ ((str [48, 49, 50, 51, 52, 53, 54, 55, 56, 57]).size : Int))).bind fun u1 =>
   some ((str [48, 49, 50, 51, 52, 53, 54, 55, 56, 57]).extract n.toNat (w64 (n + 1)).toNat)
  else
   (chk ((10 : Int) ≠ 0)).bind fun u7 =>
   (rec_ (w64 (n.tdiv 10))).bind fun r2 =>
   (chk ((10 : Int) ≠ 0)).bind fun u8 =>
   (chk ((10 : Int) ≠ 0)).bind fun u9 =>
   (chk ((0 : Int) ≤ (n.tmod 10) ∧ ((n.tmod 10) : Int) ≤ (w64 ((n.tmod 10) + 1)) ∧ (w64 ((n.tmod 10) + 1)) ≤ ((str [48, 49, 50, 51, 52, 53, 54, 55, 56, 57]).size : Int))).bind fun u10 =>
   (chk (r2.size + ((str [48, 49, 50, 51, 52, 53, 54, 55, 56, 57]).extract (n.tmod 10).toNat (w64 ((n.tmod 10) + 1)).toNat).size ≤ 4294967296)).bind fun u11 =>
   some (r2 ++ ((str [48, 49, 50, 51, 52, 53, 54, 55, 56, 57]).extract (n.tmod 10).toNat (w64 ((n.tmod 10) + 1)).toNat))
noncomputable def zq55_k : Nat → Int → Option (ByteArray)
 | 0 => fun _ => none
 | n + 1 => zq55_F (zq55_k n)
noncomputable def zq55 (n : Int) : Option (ByteArray) := zq55_k 4294967296 n
noncomputable def zq68_L1 (x : Line) (stop : Int) : Int → Option (Lp (Int) (Fl (Int) (Unit)))
 | v =>
  if (decide (v < (x.Stops.length : Int))) = true then
   (idx x.Stops v).bind fun e =>
   if (e == stop) = true then
    some (.dn (.ret v))
   else
    some (.nx (w64 (v + 1)))
  else
   some (.dn (.go ()))
noncomputable def zq68 (x : Line) (stop : Int) : Option (Int) :=
 flb (iter (zq68_L1 x stop) (0 : Int)) fun (_ : Unit) =>
 some (-1)
noncomputable def zq40_L1 (name : ByteArray) (stops : Int) : Int × Int × (List UInt8) × Int × Int × (List Int) → Option (Lp (Int × Int × (List UInt8) × Int × Int × (List Int)) ((List UInt8) × Int × Int × (List Int)))
 | (v, v1, v2, v3, v4, v5) =>
  if (decide (0 < v1)) = true then
   ((zq68 (⟨name, v5, ([] : List Int)⟩ : Line) v).bind fun r2 =>
   if (decide (r2 < 0)) = true then
    (chk (v5.length + ([v] : List Int).length ≤ 4294967296)).bind fun u =>
    some (v5 ++ ([v] : List Int))
   else
    some v5).bind fun (v6 : List Int) =>
   (zq48 (⟨v2, v3, (⟨v4⟩ : IK .u64)⟩ : l1Cur) 2).bind fun r3 =>
   (chk ((stops : Int) ≠ 0)).bind fun u1 =>
   some (.nx (((w64 ((w64 (v + 1)) + r3.1)).tmod stops), (w64 (v1 - 1)), r3.2.code_, r3.2.at_, r3.2.seed_.v, v6))
  else
   some (.dn (v2, v3, v4, v5))
noncomputable def zq40_L2 (v11 : List Int) : Int × (List UInt8) × Int × Int × (List Int) → Option (Lp (Int × (List UInt8) × Int × Int × (List Int)) ((List UInt8) × Int × Int × (List Int)))
 | (v12, v13, v14, v15, v16) =>
  if (decide (v12 < (v11.length : Int))) = true then
   (zq48 (⟨v13, v14, (⟨v15⟩ : IK .u64)⟩ : l1Cur) 12).bind fun r5 =>
   (chk (v16.length + ([(w64 (3 + r5.1))] : List Int).length ≤ 4294967296)).bind fun u7 =>
   some (.nx ((w64 (v12 + 1)), r5.2.code_, r5.2.at_, r5.2.seed_.v, (v16 ++ ([(w64 (3 + r5.1))] : List Int))))
  else
   some (.dn (v13, v14, v15, v16))
noncomputable def zq40 (c : l1Cur) (name : ByteArray) (stops : Int) : Option (Line × l1Cur) :=
 (zq48 c stops).bind fun r =>
 (zq48 r.2 3).bind fun r1 =>
 (iter (zq40_L1 name stops) (r.1, (w64 (2 + r1.1)), r1.2.code_, r1.2.at_, r1.2.seed_.v, ([] : List Int))).bind fun ((v7, v8, v9, v10) : (List UInt8) × Int × Int × (List Int)) =>
 (if (decide ((v10.length : Int) < 2)) = true then
  (idx v10 0).bind fun e1 =>
  (chk ((stops : Int) ≠ 0)).bind fun u4 =>
  (chk (v10.length + ([((w64 (e1 + 1)).tmod stops)] : List Int).length ≤ 4294967296)).bind fun u5 =>
  some (v10 ++ ([((w64 (e1 + 1)).tmod stops)] : List Int))
 else
  some v10).bind fun (v11 : List Int) =>
 (iter (zq40_L2 v11) ((1 : Int), v7, v8, v9, ([] : List Int))).bind fun ((v17, v18, v19, v20) : (List UInt8) × Int × Int × (List Int)) =>
 some ((⟨name, v11, v20⟩ : Line), (⟨v17, v18, (⟨v19⟩ : IK .u64)⟩ : l1Cur))
noncomputable def zq41_L1 (name : ByteArray) (stops : Int) : Int × Int × (List UInt8) × Int × Int × (List Int) → Option (Lp (Int × Int × (List UInt8) × Int × Int × (List Int)) ((List UInt8) × Int × Int × (List Int)))
 | (v, v1, v2, v3, v4, v5) =>
  if (decide (0 < v1)) = true then
   ((zq68 (⟨name, v5, ([] : List Int)⟩ : Line) v).bind fun r2 =>
   if (decide (r2 < 0)) = true then
    (chk (v5.length + ([v] : List Int).length ≤ 4294967296)).bind fun u =>
    some (v5 ++ ([v] : List Int))
   else
    some v5).bind fun (v6 : List Int) =>
   (zq48 (⟨v2, v3, (⟨v4⟩ : IK .u64)⟩ : l1Cur) 2).bind fun r3 =>
   (chk ((stops : Int) ≠ 0)).bind fun u1 =>
   some (.nx (((w64 ((w64 (v + 1)) + r3.1)).tmod stops), (w64 (v1 - 1)), r3.2.code_, r3.2.at_, r3.2.seed_.v, v6))
  else
   some (.dn (v2, v3, v4, v5))
noncomputable def zq41_L2 (v11 : List Int) : Int × (List UInt8) × Int × Int × (List Int) → Option (Lp (Int × (List UInt8) × Int × Int × (List Int)) ((List UInt8) × Int × Int × (List Int)))
 | (v12, v13, v14, v15, v16) =>
  if (decide (v12 < (v11.length : Int))) = true then
   (zq48 (⟨v13, v14, (⟨v15⟩ : IK .u64)⟩ : l1Cur) 12).bind fun r5 =>
   (chk (v16.length + ([(w64 (3 + r5.1))] : List Int).length ≤ 4294967296)).bind fun u7 =>
   some (.nx ((w64 (v12 + 1)), r5.2.code_, r5.2.at_, r5.2.seed_.v, (v16 ++ ([(w64 (3 + r5.1))] : List Int))))
  else
   some (.dn (v13, v14, v15, v16))
noncomputable def zq41 (c : l1Cur) (name : ByteArray) (stops : Int) : Option (Line × l1Cur) :=
 (zq48 c stops).bind fun r =>
 (zq48 r.2 3).bind fun r1 =>
 (iter (zq41_L1 name stops) (r.1, (w64 (2 + r1.1)), r1.2.code_, r1.2.at_, r1.2.seed_.v, ([] : List Int))).bind fun ((v7, v8, v9, v10) : (List UInt8) × Int × Int × (List Int)) =>
 (if (decide ((v10.length : Int) < 2)) = true then
  (idx v10 0).bind fun e1 =>
  (chk ((stops : Int) ≠ 0)).bind fun u4 =>
  (chk (v10.length + ([((w64 (e1 + 1)).tmod stops)] : List Int).length ≤ 4294967296)).bind fun u5 =>
  some (v10 ++ ([((w64 (e1 + 1)).tmod stops)] : List Int))
 else
  some v10).bind fun (v11 : List Int) =>
 (iter (zq41_L2 v11) ((1 : Int), v7, v8, v9, ([] : List Int))).bind fun ((v17, v18, v19, v20) : (List UInt8) × Int × Int × (List Int)) =>
 some ((⟨name, v11, v20⟩ : Line), (⟨v17, v18, (⟨v19⟩ : IK .u64)⟩ : l1Cur))
noncomputable def zq59_L1 (list : List Int) : Int × (List Int) → Option (Lp (Int × (List Int)) ((List Int)))
 | (v, i) =>
  if (decide (0 ≤ v)) = true then
   (idx list v).bind fun e =>
   (chk (i.length + ([e] : List Int).length ≤ 4294967296)).bind fun u =>
   some (.nx ((w64 (v - 1)), (i ++ ([e] : List Int))))
  else
   some (.dn i)
noncomputable def zq59 (list : List Int) : Option ((List Int)) :=
 (iter (zq59_L1 list) ((w64 ((list.length : Int) - 1)), ([] : List Int))).bind fun (i1 : List Int) =>
 some i1
noncomputable def zq60_L1 (list : List Int) : Int × (List Int) → Option (Lp (Int × (List Int)) ((List Int)))
 | (v, i) =>
  if (decide (0 ≤ v)) = true then
   (idx list v).bind fun e =>
   (chk (i.length + ([e] : List Int).length ≤ 4294967296)).bind fun u =>
   some (.nx ((w64 (v - 1)), (i ++ ([e] : List Int))))
  else
   some (.dn i)
noncomputable def zq60 (list : List Int) : Option ((List Int)) :=
 (iter (zq60_L1 list) ((w64 ((list.length : Int) - 1)), ([] : List Int))).bind fun (i1 : List Int) =>
 some i1
noncomputable def zq56 (l : List Int) : Option ((List Int)) :=
 (chk (([] : List Int).length + l.length ≤ 4294967296)).bind fun u =>
 some (([] : List Int) ++ l)
noncomputable def zq57 (l : List Int) : Option ((List Int)) :=
 (chk (([] : List Int).length + l.length ≤ 4294967296)).bind fun u =>
 some (([] : List Int) ++ l)
noncomputable def zq66_L1 (n : Network) : Int × (List Line) → Option (Lp (Int × (List Line)) ((List Line)))
 | (v, v1) =>
  if (decide (v < (n.Lines.length : Int))) = true then
   (idx n.Lines v).bind fun e3 =>
   (idx n.Lines v).bind fun e4 =>
   (zq57 e4.Stops).bind fun r2 =>
   (idx n.Lines v).bind fun e5 =>
   (zq57 e5.Runs).bind fun r3 =>
   (chk (v1.length + ([(⟨e3.Name, r2, r3⟩ : Line)] : List Line).length ≤ 4294967296)).bind fun u2 =>
   some (.nx ((w64 (v + 1)), (v1 ++ ([(⟨e3.Name, r2, r3⟩ : Line)] : List Line))))
  else
   some (.dn v1)
noncomputable def zq66 (n : Network) : Option (Network) :=
 (chk (([] : List ByteArray).length + n.Stops.length ≤ 4294967296)).bind fun u =>
 (iter (zq66_L1 n) ((0 : Int), ([] : List Line))).bind fun (v2 : List Line) =>
 some (⟨(([] : List ByteArray) ++ n.Stops), v2⟩ : Network)
noncomputable def zq42_L1 (r : Int × l1Cur) : Int × (List UInt8) × Int × Int × (List Line) → Option (Lp (Int × (List UInt8) × Int × Int × (List Line)) ((List UInt8) × Int × Int × (List Line)))
 | (x, v, v1, v2, v3) =>
  if (decide (0 < x)) = true then
   (zq55 x).bind fun r4 =>
   (chk ((str [108]).size + r4.size ≤ 4294967296)).bind fun u3 =>
   (zq41 (⟨v, v1, (⟨v2⟩ : IK .u64)⟩ : l1Cur) ((str [108]) ++ r4) (w64 (2 + r.1))).bind fun r5 =>
   (chk (v3.length + ([r5.1] : List Line).length ≤ 4294967296)).bind fun u4 =>
   some (.nx ((w64 (x - 1)), r5.2.code_, r5.2.at_, r5.2.seed_.v, (v3 ++ ([r5.1] : List Line))))
  else
   some (.dn (v, v1, v2, v3))
noncomputable def zq42 (c : l1Cur) : Option (Network × l1Cur) :=
 (zq48 c 5).bind fun r =>
 (chk ((0 : Int) ≤ 0 ∧ (0 : Int) ≤ (w64 (2 + r.1)) ∧ (w64 (2 + r.1)) ≤ (([(str [112, 111, 114, 116]), (str [109, 105, 108, 108]), (str [112, 97, 114, 107]), (str [104, 97, 108, 108]), (str [100, 111, 99, 107]), (str [102, 97, 105, 114])] : List ByteArray).length : Int))).bind fun u =>
 (zq48 r.2 3).bind fun r1 =>
 (iter (zq42_L1 r) ((w64 (1 + r1.1)), r1.2.code_, r1.2.at_, r1.2.seed_.v, ([] : List Line))).bind fun ((v4, v5, v6, v7) : (List UInt8) × Int × Int × (List Line)) =>
 ((zq47 (⟨v4, v5, (⟨v6⟩ : IK .u64)⟩ : l1Cur) 2).bind fun r6 =>
 if r6.1 = true then
  (idx v7 0).bind fun e =>
  (zq60 e.Stops).bind fun r9 =>
  (zq60 e.Runs).bind fun r10 =>
  (chk (v7.length + ([(⟨(str [114, 49]), r9, r10⟩ : Line)] : List Line).length ≤ 4294967296)).bind fun u6 =>
  some (r6.2.code_, r6.2.at_, r6.2.seed_.v, (v7 ++ ([(⟨(str [114, 49]), r9, r10⟩ : Line)] : List Line)))
 else
  some (r6.2.code_, r6.2.at_, r6.2.seed_.v, v7)).bind fun ((v8, v9, v10, v11) : (List UInt8) × Int × Int × (List Line)) =>
 (zq66 (⟨((([(str [112, 111, 114, 116]), (str [109, 105, 108, 108]), (str [112, 97, 114, 107]), (str [104, 97, 108, 108]), (str [100, 111, 99, 107]), (str [102, 97, 105, 114])] : List ByteArray).take (w64 (2 + r.1)).toNat).drop (0 : Int).toNat), v11⟩ : Network)).bind fun r11 =>
 some ((⟨r11.Stops, r11.Lines⟩ : Network), (⟨v8, v9, (⟨v10⟩ : IK .u64)⟩ : l1Cur))
noncomputable def zq51_L1 (r : Network × l1Cur) : Int × Int × (List UInt8) × Int × Int × (List Trip) → Option (Lp (Int × Int × (List UInt8) × Int × Int × (List Trip)) ((List UInt8) × Int × Int × (List Trip)))
 | (n, v, v1, v2, v3, v4) =>
  if (decide (0 < v)) = true then
   (zq48 (⟨v1, v2, (⟨v3⟩ : IK .u64)⟩ : l1Cur) 3).bind fun r2 =>
   (zq48 r2.2 (r.1.Lines.length : Int)).bind fun r5 =>
   (zq48 r5.2 24).bind fun r6 =>
   (chk (v4.length + ([(⟨(w64 ((w64 (n + 1)) + r2.1)), r5.1, (w64 (360 + (w64 (5 * r6.1))))⟩ : Trip)] : List Trip).length ≤ 4294967296)).bind fun u1 =>
   some (.nx ((w64 ((w64 (n + 1)) + r2.1)), (w64 (v - 1)), r6.2.code_, r6.2.at_, r6.2.seed_.v, (v4 ++ ([(⟨(w64 ((w64 (n + 1)) + r2.1)), r5.1, (w64 (360 + (w64 (5 * r6.1))))⟩ : Trip)] : List Trip))))
  else
   some (.dn (v1, v2, v3, v4))
noncomputable def zq51 (c : l1Cur) : Option (Timetable × l1Cur) :=
 (zq42 c).bind fun r =>
 (zq48 r.2 8).bind fun r1 =>
 (iter (zq51_L1 r) ((0 : Int), r1.1, r1.2.code_, r1.2.at_, r1.2.seed_.v, ([] : List Trip))).bind fun ((v5, v6, v7, v8) : (List UInt8) × Int × Int × (List Trip)) =>
 some ((⟨(⟨r.1.Stops, r.1.Lines⟩ : Network), v8⟩ : Timetable), (⟨v5, v6, (⟨v7⟩ : IK .u64)⟩ : l1Cur))
noncomputable def zq35 (c : l1Cur) (list : List Int) : Option (Int × l1Cur) :=
 (zq48 c (list.length : Int)).bind fun r =>
 (idx list r.1).bind fun e =>
 some (e, r.2)
noncomputable def zq45 (c : l1Cur) (list : List ByteArray) : Option (ByteArray × l1Cur) :=
 (zq48 c (list.length : Int)).bind fun r =>
 (idx list r.1).bind fun e =>
 some (e, r.2)
noncomputable def zq46 (c : l1Cur) (list : List ByteArray) : Option (ByteArray × l1Cur) :=
 (zq48 c (list.length : Int)).bind fun r =>
 (idx list r.1).bind fun e =>
 some (e, r.2)
noncomputable def zq67_L1 (n : Network) : Int × (List Line) → Option (Lp (Int × (List Line)) ((List Line)))
 | (v, v1) =>
  if (decide (v < (n.Lines.length : Int))) = true then
   (idx n.Lines v).bind fun e3 =>
   (idx n.Lines v).bind fun e4 =>
   (zq56 e4.Stops).bind fun r2 =>
   (idx n.Lines v).bind fun e5 =>
   (zq56 e5.Runs).bind fun r3 =>
   (chk (v1.length + ([(⟨e3.Name, r2, r3⟩ : Line)] : List Line).length ≤ 4294967296)).bind fun u2 =>
   some (.nx ((w64 (v + 1)), (v1 ++ ([(⟨e3.Name, r2, r3⟩ : Line)] : List Line))))
  else
   some (.dn v1)
noncomputable def zq67 (n : Network) : Option (Network) :=
 (chk (([] : List ByteArray).length + n.Stops.length ≤ 4294967296)).bind fun u =>
 (iter (zq67_L1 n) ((0 : Int), ([] : List Line))).bind fun (v2 : List Line) =>
 some (⟨(([] : List ByteArray) ++ n.Stops), v2⟩ : Network)
noncomputable def zq43_L1 (r : Int × l1Cur) : Int × (List UInt8) × Int × Int × (List Line) → Option (Lp (Int × (List UInt8) × Int × Int × (List Line)) ((List UInt8) × Int × Int × (List Line)))
 | (x, v, v1, v2, v3) =>
  if (decide (0 < x)) = true then
   (zq55 x).bind fun r4 =>
   (chk ((str [108]).size + r4.size ≤ 4294967296)).bind fun u3 =>
   (zq41 (⟨v, v1, (⟨v2⟩ : IK .u64)⟩ : l1Cur) ((str [108]) ++ r4) (w64 (2 + r.1))).bind fun r5 =>
   (chk (v3.length + ([r5.1] : List Line).length ≤ 4294967296)).bind fun u4 =>
   some (.nx ((w64 (x - 1)), r5.2.code_, r5.2.at_, r5.2.seed_.v, (v3 ++ ([r5.1] : List Line))))
  else
   some (.dn (v, v1, v2, v3))
noncomputable def zq43 (c : l1Cur) : Option (Network × l1Cur) :=
 (zq48 c 5).bind fun r =>
 (chk ((0 : Int) ≤ 0 ∧ (0 : Int) ≤ (w64 (2 + r.1)) ∧ (w64 (2 + r.1)) ≤ (([(str [112, 111, 114, 116]), (str [109, 105, 108, 108]), (str [112, 97, 114, 107]), (str [104, 97, 108, 108]), (str [100, 111, 99, 107]), (str [102, 97, 105, 114])] : List ByteArray).length : Int))).bind fun u =>
 (zq48 r.2 3).bind fun r1 =>
 (iter (zq43_L1 r) ((w64 (1 + r1.1)), r1.2.code_, r1.2.at_, r1.2.seed_.v, ([] : List Line))).bind fun ((v4, v5, v6, v7) : (List UInt8) × Int × Int × (List Line)) =>
 ((zq47 (⟨v4, v5, (⟨v6⟩ : IK .u64)⟩ : l1Cur) 2).bind fun r6 =>
 if r6.1 = true then
  (idx v7 0).bind fun e =>
  (zq60 e.Stops).bind fun r9 =>
  (zq60 e.Runs).bind fun r10 =>
  (chk (v7.length + ([(⟨(str [114, 49]), r9, r10⟩ : Line)] : List Line).length ≤ 4294967296)).bind fun u6 =>
  some (r6.2.code_, r6.2.at_, r6.2.seed_.v, (v7 ++ ([(⟨(str [114, 49]), r9, r10⟩ : Line)] : List Line)))
 else
  some (r6.2.code_, r6.2.at_, r6.2.seed_.v, v7)).bind fun ((v8, v9, v10, v11) : (List UInt8) × Int × Int × (List Line)) =>
 (zq67 (⟨((([(str [112, 111, 114, 116]), (str [109, 105, 108, 108]), (str [112, 97, 114, 107]), (str [104, 97, 108, 108]), (str [100, 111, 99, 107]), (str [102, 97, 105, 114])] : List ByteArray).take (w64 (2 + r.1)).toNat).drop (0 : Int).toNat), v11⟩ : Network)).bind fun r11 =>
 some ((⟨r11.Stops, r11.Lines⟩ : Network), (⟨v8, v9, (⟨v10⟩ : IK .u64)⟩ : l1Cur))
noncomputable def zq36 (c : l1Cur) (list : List Int) : Option (Int × l1Cur) :=
 (zq48 c (list.length : Int)).bind fun r =>
 (idx list r.1).bind fun e =>
 some (e, r.2)
noncomputable def zq37_L1 (r : Network × l1Cur) : Int × (List UInt8) × Int × Int × (List Line) → Option (Lp (Int × (List UInt8) × Int × Int × (List Line)) ((List UInt8) × Int × Int × (List Line)))
 | (v7, v8, v9, v10, v11) =>
  (zq48 (⟨v8, v9, (⟨v10⟩ : IK .u64)⟩ : l1Cur) 2).bind fun r16 =>
  (if (decide ((v11.length : Int) < (w64 (5 + r16.1)))) = true then some (decide (v7 < 7)) else some false).bind fun (v12 : Bool) =>
  if v12 = true then
   (zq55 v7).bind fun r19 =>
   (chk ((str [120]).size + r19.size ≤ 4294967296)).bind fun u3 =>
   (zq40 r16.2 ((str [120]) ++ r19) (r.1.Stops.length : Int)).bind fun r20 =>
   (chk (v11.length + ([(⟨r20.1.Name, r20.1.Stops, r20.1.Runs⟩ : Line)] : List Line).length ≤ 4294967296)).bind fun u4 =>
   some (.nx ((w64 (v7 + 1)), r20.2.code_, r20.2.at_, r20.2.seed_.v, (v11 ++ ([(⟨r20.1.Name, r20.1.Stops, r20.1.Runs⟩ : Line)] : List Line))))
  else
   some (.dn (r16.2.code_, r16.2.at_, r16.2.seed_.v, v11))
noncomputable def zq37 (c : l1Cur) : Option (Network × l1Cur) :=
 (zq43 c).bind fun r =>
 (zq48 r.2 (r.1.Lines.length : Int)).bind fun r1 =>
 (idx r.1.Lines r1.1).bind fun e =>
 flb ((zq48 r1.2 24).bind fun r2 =>
 if (r2.1 == 0) = true then
  (zq46 r2.2 ([(str [109, 105, 108, 108]), (str []), (str [65]), (str [97, 98, 99, 100, 101, 102, 103, 104]), (str [97, 98, 99, 100, 101, 102, 103, 104, 105])] : List ByteArray)).bind fun r4 =>
  (idx r.1.Stops 0).bind fun e2 =>
  some (.go (r4.2.code_, r4.2.at_, r4.2.seed_.v, e.Name, (r.1.Stops.set (0 : Int).toNat r4.1), r.1.Lines, e.Runs))
 else
  if (r2.1 == 1) = true then
   (zq46 r2.2 ([(str [114, 49]), (str [108, 49]), (str []), (str [88])] : List ByteArray)).bind fun r5 =>
   some (.go (r5.2.code_, r5.2.at_, r5.2.seed_.v, r5.1, r.1.Stops, r.1.Lines, e.Runs))
  else
   if (r2.1 == 2) = true then
    (zq48 r2.2 (e.Stops.length : Int)).bind fun r8 =>
    (zq48 r8.2 10).bind fun r9 =>
    (idx e.Stops r8.1).bind fun e4 =>
    some (.go (r9.2.code_, r9.2.at_, r9.2.seed_.v, e.Name, r.1.Stops, (r.1.Lines.set r1.1.toNat (⟨e.Name, (e.Stops.set r8.1.toNat (w64 (r9.1 - 1))), e.Runs⟩ : Line)), ((⟨e.Name, (e.Stops.set r8.1.toNat (w64 (r9.1 - 1))), e.Runs⟩ : Line).Runs)))
   else
    if (r2.1 == 3) = true then
     (zq48 r2.2 (e.Runs.length : Int)).bind fun r12 =>
     (zq36 r12.2 ([0, 60, 61, (-1)] : List Int)).bind fun r13 =>
     (idx e.Runs r12.1).bind fun e6 =>
     some (.go (r13.2.code_, r13.2.at_, r13.2.seed_.v, e.Name, r.1.Stops, (r.1.Lines.set r1.1.toNat (⟨e.Name, e.Stops, (e.Runs.set r12.1.toNat r13.1)⟩ : Line)), ((⟨e.Name, e.Stops, (e.Runs.set r12.1.toNat r13.1)⟩ : Line).Runs)))
    else
     if (r2.1 == 4) = true then
      (chk (e.Runs.length + ([3] : List Int).length ≤ 4294967296)).bind fun u =>
      some (.go (r2.2.code_, r2.2.at_, r2.2.seed_.v, e.Name, r.1.Stops, r.1.Lines, (e.Runs ++ ([3] : List Int))))
     else
      if (r2.1 == 5) = true then
       some (.ret ((⟨r.1.Stops, ([] : List Line)⟩ : Network), r2.2))
      else
       if (r2.1 == 6) = true then
        (iter (zq37_L1 r) ((0 : Int), r2.2.code_, r2.2.at_, r2.2.seed_.v, r.1.Lines)).bind fun ((v13, v14, v15, v16) : (List UInt8) × Int × Int × (List Line)) =>
        some (.ret ((⟨r.1.Stops, v16⟩ : Network), (⟨v13, v14, (⟨v15⟩ : IK .u64)⟩ : l1Cur)))
       else
        some (.go (r2.2.code_, r2.2.at_, r2.2.seed_.v, e.Name, r.1.Stops, r.1.Lines, e.Runs))) fun ((v, v1, v2, v3, v4, v5, v6) : (List UInt8) × Int × Int × ByteArray × (List ByteArray) × (List Line) × (List Int)) =>
 (idx v5 r1.1).bind fun e9 =>
 some ((⟨v4, (v5.set r1.1.toNat (⟨v3, e9.Stops, v6⟩ : Line))⟩ : Network), (⟨v, v1, (⟨v2⟩ : IK .u64)⟩ : l1Cur))
noncomputable def zq38_L1 : Int × (List UInt8) × Int × Int × (List Trip) → Option (Lp (Int × (List UInt8) × Int × Int × (List Trip)) ((List UInt8) × Int × Int × (List Trip)))
 | (v8, v9, v10, v11, v12) =>
  (zq48 (⟨v9, v10, (⟨v11⟩ : IK .u64)⟩ : l1Cur) 2).bind fun r8 =>
  (if (decide ((v12.length : Int) < (w64 (12 + r8.1)))) = true then some (decide (v8 < 14)) else some false).bind fun (v13 : Bool) =>
  if v13 = true then
   (chk (v12.length + ([(⟨(w64 (100 + v8)), 0, (w64 (400 + v8))⟩ : Trip)] : List Trip).length ≤ 4294967296)).bind fun u =>
   some (.nx ((w64 (v8 + 1)), r8.2.code_, r8.2.at_, r8.2.seed_.v, (v12 ++ ([(⟨(w64 (100 + v8)), 0, (w64 (400 + v8))⟩ : Trip)] : List Trip))))
  else
   some (.dn (r8.2.code_, r8.2.at_, r8.2.seed_.v, v12))
noncomputable def zq38 (c : l1Cur) : Option (Timetable × l1Cur) :=
 (zq51 c).bind fun r =>
 if ((r.1.Trips.length : Int) == 0) = true then
  some ((⟨(⟨r.1.Network.Stops, r.1.Network.Lines⟩ : Network), r.1.Trips⟩ : Timetable), r.2)
 else
  (zq48 r.2 (r.1.Trips.length : Int)).bind fun r1 =>
  (idx r.1.Trips r1.1).bind fun e =>
  flb ((zq48 r1.2 24).bind fun r2 =>
  if (r2.1 == 0) = true then
   (zq35 r2.2 ([0, 999, 1000, 2] : List Int)).bind fun r3 =>
   some (.go (r3.2.code_, r3.2.at_, r3.2.seed_.v, r.1.Network.Lines, r3.1, e.Line, e.Start, r.1.Network.Stops))
  else
   if (r2.1 == 1) = true then
    (zq48 r2.2 7).bind fun r4 =>
    some (.go (r4.2.code_, r4.2.at_, r4.2.seed_.v, r.1.Network.Lines, e.Id, (w64 (r4.1 - 1)), e.Start, r.1.Network.Stops))
   else
    if (r2.1 == 2) = true then
     (zq35 r2.2 ([(-1), 0, 1799, 1798, 1800] : List Int)).bind fun r5 =>
     some (.go (r5.2.code_, r5.2.at_, r5.2.seed_.v, r.1.Network.Lines, e.Id, e.Line, r5.1, r.1.Network.Stops))
    else
     if (r2.1 == 3) = true then
      (zq37 r2.2).bind fun r6 =>
      some (.go (r6.2.code_, r6.2.at_, r6.2.seed_.v, r6.1.Lines, e.Id, e.Line, e.Start, r6.1.Stops))
     else
      if (r2.1 == 4) = true then
       (iter (zq38_L1) ((0 : Int), r2.2.code_, r2.2.at_, r2.2.seed_.v, r.1.Trips)).bind fun ((v14, v15, v16, v17) : (List UInt8) × Int × Int × (List Trip)) =>
       some (.ret ((⟨(⟨r.1.Network.Stops, r.1.Network.Lines⟩ : Network), v17⟩ : Timetable), (⟨v14, v15, (⟨v16⟩ : IK .u64)⟩ : l1Cur)))
      else
       some (.go (r2.2.code_, r2.2.at_, r2.2.seed_.v, r.1.Network.Lines, e.Id, e.Line, e.Start, r.1.Network.Stops))) fun ((v, v1, v2, v3, v4, v5, v6, v7) : (List UInt8) × Int × Int × (List Line) × Int × Int × Int × (List ByteArray)) =>
  (idx r.1.Trips r1.1).bind fun e2 =>
  some ((⟨(⟨v7, v3⟩ : Network), (r.1.Trips.set r1.1.toNat (⟨v4, v5, v6⟩ : Trip))⟩ : Timetable), (⟨v, v1, (⟨v2⟩ : IK .u64)⟩ : l1Cur))
noncomputable def zq54 (a : Int) (b : Int) : Option (Int) :=
 if (decide (b < a)) = true then
  some a
 else
  some b
noncomputable def zq52_L1 (r2 : Network × l1Cur) : Int × (List UInt8) × Int × Int × (List Trip) → Option (Lp (Int × (List UInt8) × Int × Int × (List Trip)) ((List UInt8) × Int × Int × (List Trip)))
 | (i, v, v1, v2, v3) =>
  if (decide (0 < i)) = true then
   (zq48 (⟨v, v1, (⟨v2⟩ : IK .u64)⟩ : l1Cur) 2).bind fun r7 =>
   (zq48 r7.2 (r2.1.Lines.length : Int)).bind fun r8 =>
   (zq48 r8.2 16).bind fun r9 =>
   (chk (v3.length + ([(⟨(w64 ((w64 ((v3.length : Int) + 1)) + (w64 ((w64 (2 * (v3.length : Int))) * r7.1)))), r8.1, (w64 (360 + (w64 (5 * r9.1))))⟩ : Trip)] : List Trip).length ≤ 4294967296)).bind fun u1 =>
   some (.nx ((w64 (i - 1)), r9.2.code_, r9.2.at_, r9.2.seed_.v, (v3 ++ ([(⟨(w64 ((w64 ((v3.length : Int) + 1)) + (w64 ((w64 (2 * (v3.length : Int))) * r7.1)))), r8.1, (w64 (360 + (w64 (5 * r9.1))))⟩ : Trip)] : List Trip))))
  else
   some (.dn (v, v1, v2, v3))
noncomputable def zq52_L2 : Int × (List Trip) → Option (Lp (Int × (List Trip)) ((List Trip)))
 | (x, v8) =>
  if (decide (x < (v8.length : Int))) = true then
   (idx v8 x).bind fun e =>
   (idx v8 (w64 (x - 1))).bind fun e2 =>
   (zq54 e.Id (w64 (e2.Id + 1))).bind fun r11 =>
   (idx v8 x).bind fun e3 =>
   some (.nx ((w64 (x + 1)), (v8.set x.toNat (⟨r11, e.Line, e.Start⟩ : Trip))))
  else
   some (.dn v8)
noncomputable def zq52 (c : l1Cur) : Option (Timetable × l1Cur) :=
 (zq47 c 16).bind fun r =>
 if r.1 = true then
  (zq38 r.2).bind fun r1 =>
  some ((⟨(⟨r1.1.Network.Stops, r1.1.Network.Lines⟩ : Network), r1.1.Trips⟩ : Timetable), r1.2)
 else
  (zq42 r.2).bind fun r2 =>
  (zq48 r2.2 6).bind fun r3 =>
  (iter (zq52_L1 r2) ((w64 (3 + r3.1)), r3.2.code_, r3.2.at_, r3.2.seed_.v, ([] : List Trip))).bind fun ((v4, v5, v6, v7) : (List UInt8) × Int × Int × (List Trip)) =>
  (iter (zq52_L2) ((1 : Int), v7)).bind fun (v9 : List Trip) =>
  some ((⟨(⟨r2.1.Stops, r2.1.Lines⟩ : Network), v9⟩ : Timetable), (⟨v4, v5, (⟨v6⟩ : IK .u64)⟩ : l1Cur))
noncomputable def zq39 (c : l1Cur) : Option (Int × l1Cur) :=
 (zq35 c ([0, 3, 5, 2, 10, 0, 30, 31, (-1)] : List Int)).bind fun r =>
 some (r.1, r.2)
noncomputable def zq50 (c : l1Cur) : Option (Int × l1Cur) :=
 (zq47 c 16).bind fun r =>
 if r.1 = true then
  (zq35 r.2 ([0, 1799, 1800, (-1), 1440, 1439] : List Int)).bind fun r1 =>
  some (r1.1, r1.2)
 else
  (zq48 r.2 240).bind fun r2 =>
  some ((w64 (360 + r2.1)), r2.2)
noncomputable def zq49 (c : l1Cur) : Option (Timetable × Int × Int × Int × Int × l1Cur) :=
 (zq52 c).bind fun r =>
 (if (decide ((r.1.Network.Stops.length : Int) < 2)) = true then some (true, r.2.code_, r.2.at_, r.2.seed_.v) else (zq47 r.2 10).bind fun r1 =>
 some (r1.1, r1.2.code_, r1.2.at_, r1.2.seed_.v)).bind fun ((v, v1, v2, v3) : Bool × (List UInt8) × Int × Int) =>
 if v = true then
  (zq39 (⟨v1, v2, (⟨v3⟩ : IK .u64)⟩ : l1Cur)).bind fun r6 =>
  (zq48 r6.2 8).bind fun r7 =>
  (zq48 r7.2 8).bind fun r8 =>
  (zq50 r8.2).bind fun r9 =>
  some ((⟨(⟨r.1.Network.Stops, r.1.Network.Lines⟩ : Network), r.1.Trips⟩ : Timetable), r6.1, (w64 (r7.1 - 1)), (w64 (r8.1 - 1)), r9.1, r9.2)
 else
  (zq48 (⟨v1, v2, (⟨v3⟩ : IK .u64)⟩ : l1Cur) (r.1.Network.Stops.length : Int)).bind fun r10 =>
  (zq39 r10.2).bind fun r14 =>
  (zq48 r14.2 (w64 ((r.1.Network.Stops.length : Int) - 1))).bind fun r15 =>
  (chk (((r.1.Network.Stops.length : Int) : Int) ≠ 0)).bind fun u1 =>
  (zq48 r15.2 12).bind fun r16 =>
  some ((⟨(⟨r.1.Network.Stops, r.1.Network.Lines⟩ : Network), r.1.Trips⟩ : Timetable), r14.1, r10.1, ((w64 ((w64 (r10.1 + 1)) + r15.1)).tmod (r.1.Network.Stops.length : Int)), (w64 (360 + (w64 (5 * r16.1)))), r16.2)
noncomputable def zq33 (code : List UInt8) : Option (Timetable × Int × Int × Int) :=
 (zq49 (⟨code, 0, (⟨0⟩ : IK .u64)⟩ : l1Cur)).bind fun r =>
 some ((⟨(⟨r.1.Network.Stops, r.1.Network.Lines⟩ : Network), r.1.Trips⟩ : Timetable), r.2.1, r.2.2.1, r.2.2.2.1)
noncomputable def zq30 (n : Int) (lo : Int) (hi : Int) : Option (Bool) :=
 (if (decide (lo ≤ n)) = true then some (decide (n ≤ hi)) else some false).bind fun (v : Bool) =>
 some v
noncomputable def zq18_L1 (s : ByteArray) : Int → Option (Lp (Int) (Fl (Bool) (Unit)))
 | v1 =>
  if (decide (v1 < (s.size : Int))) = true then
   (chk ((0 : Int) ≤ v1 ∧ v1 < (s.size : Int))).bind fun u =>
   (if (decide (97 ≤ ((s.data.toList.getD v1.toNat 0).toNat : Int))) = true then (chk ((0 : Int) ≤ v1 ∧ v1 < (s.size : Int))).bind fun u1 =>
   some (decide (((s.data.toList.getD v1.toNat 0).toNat : Int) ≤ 122)) else some false).bind fun (v2 : Bool) =>
   (if (!v2) = true then if (v1 == 0) = true then some true else (chk ((0 : Int) ≤ v1 ∧ v1 < (s.size : Int))).bind fun u2 =>
   if (decide (((s.data.toList.getD v1.toNat 0).toNat : Int) < 48)) = true then some true else (chk ((0 : Int) ≤ v1 ∧ v1 < (s.size : Int))).bind fun u3 =>
   some (decide (57 < ((s.data.toList.getD v1.toNat 0).toNat : Int))) else some false).bind fun (v3 : Bool) =>
   if v3 = true then
    some (.dn (.ret false))
   else
    some (.nx (w64 (v1 + 1)))
  else
   some (.dn (.go ()))
noncomputable def zq18 (s : ByteArray) : Option (Bool) :=
 (if (decide ((s.size : Int) < 1)) = true then some true else some (decide (8 < (s.size : Int)))).bind fun (v : Bool) =>
 if v = true then
  some false
 else
  flb (iter (zq18_L1 s) (0 : Int)) fun (_ : Unit) =>
  some true
noncomputable def zq89_L1 (s : List ByteArray) (v : ByteArray) : Int → Option (Lp (Int) (Fl (Int) (Unit)))
 | v1 =>
  if (decide (v1 < (s.length : Int))) = true then
   (idx s v1).bind fun e =>
   if (v.toList == e.toList) = true then
    some (.dn (.ret v1))
   else
    some (.nx (w64 (v1 + 1)))
  else
   some (.dn (.go ()))
noncomputable def zq89 (s : List ByteArray) (v : ByteArray) : Option (Int) :=
 flb (iter (zq89_L1 s v) (0 : Int)) fun (_ : Unit) =>
 some (-1)
noncomputable def zq8_L1 (names : List ByteArray) : Int → Option (Lp (Int) (Fl (Bool) (Unit)))
 | v =>
  if (decide (v < (names.length : Int))) = true then
   (idx names v).bind fun e =>
   (zq18 e).bind fun r =>
   (if (!r) = true then some true else (zq89 names e).bind fun r1 =>
   some (r1 != v)).bind fun (v1 : Bool) =>
   if v1 = true then
    some (.dn (.ret false))
   else
    some (.nx (w64 (v + 1)))
  else
   some (.dn (.go ()))
noncomputable def zq8 (names : List ByteArray) : Option (Bool) :=
 flb (iter (zq8_L1 names) (0 : Int)) fun (_ : Unit) =>
 some true
noncomputable def zq22_L1 (n : Network) : Int × (List ByteArray) → Option (Lp (Int × (List ByteArray)) ((List ByteArray)))
 | (v, i) =>
  if (decide (v < (n.Lines.length : Int))) = true then
   (idx n.Lines v).bind fun e =>
   (idx i v).bind fun e1 =>
   some (.nx ((w64 (v + 1)), (i.set v.toNat e.Name)))
  else
   some (.dn i)
noncomputable def zq22 (n : Network) : Option ((List ByteArray)) :=
 (chk ((0 : Int) ≤ (n.Lines.length : Int) ∧ ((n.Lines.length : Int) : Int) ≤ 4294967296)).bind fun u =>
 (iter (zq22_L1 n) ((0 : Int), (List.replicate (n.Lines.length : Int).toNat (ByteArray.empty : ByteArray)))).bind fun (i1 : List ByteArray) =>
 some i1
noncomputable def zq20 (n : Network) (stop : Int) : Option (Bool) :=
 (if (decide (0 ≤ stop)) = true then some (decide (stop < (n.Stops.length : Int))) else some false).bind fun (v : Bool) =>
 some v
noncomputable def zq88_L1 (s : List Int) (v : Int) : Int → Option (Lp (Int) (Fl (Int) (Unit)))
 | v1 =>
  if (decide (v1 < (s.length : Int))) = true then
   (idx s v1).bind fun e =>
   if (v == e) = true then
    some (.dn (.ret v1))
   else
    some (.nx (w64 (v1 + 1)))
  else
   some (.dn (.go ()))
noncomputable def zq88 (s : List Int) (v : Int) : Option (Int) :=
 flb (iter (zq88_L1 s v) (0 : Int)) fun (_ : Unit) =>
 some (-1)
noncomputable def zq21_L1 (n : Network) (l : Line) : Int → Option (Lp (Int) (Fl (Bool) (Unit)))
 | v1 =>
  if (decide (v1 < (l.Stops.length : Int))) = true then
   (idx l.Stops v1).bind fun e =>
   (zq20 n e).bind fun r1 =>
   (if (!r1) = true then some true else (zq88 l.Stops e).bind fun r2 =>
   some (r2 != v1)).bind fun (v2 : Bool) =>
   if v2 = true then
    some (.dn (.ret false))
   else
    some (.nx (w64 (v1 + 1)))
  else
   some (.dn (.go ()))
noncomputable def zq21_L2 (l : Line) : Int → Option (Lp (Int) (Fl (Bool) (Unit)))
 | v3 =>
  if (decide (v3 < (l.Runs.length : Int))) = true then
   (idx l.Runs v3).bind fun e2 =>
   (zq30 e2 1 60).bind fun r4 =>
   if (!r4) = true then
    some (.dn (.ret false))
   else
    some (.nx (w64 (v3 + 1)))
  else
   some (.dn (.go ()))
noncomputable def zq21 (n : Network) (l : Line) : Option (Bool) :=
 (zq30 (l.Stops.length : Int) 2 6).bind fun r =>
 (if (!r) = true then some true else some ((l.Runs.length : Int) != (w64 ((l.Stops.length : Int) - 1)))).bind fun (v : Bool) =>
 if v = true then
  some false
 else
  flb (iter (zq21_L1 n l) (0 : Int)) fun (_ : Unit) =>
  flb (iter (zq21_L2 l) (0 : Int)) fun (_ : Unit) =>
  some true
noncomputable def zq4_L1 (n : Network) : Int → Option (Lp (Int) (Fl (Bool) (Unit)))
 | v1 =>
  if (decide (v1 < (n.Lines.length : Int))) = true then
   (idx n.Lines v1).bind fun e =>
   (zq21 n e).bind fun r5 =>
   if (!r5) = true then
    some (.dn (.ret false))
   else
    some (.nx (w64 (v1 + 1)))
  else
   some (.dn (.go ()))
noncomputable def zq4 (n : Network) : Option (Bool) :=
 (zq30 (n.Stops.length : Int) 2 8).bind fun r =>
 (if (!r) = true then some true else (zq30 (n.Lines.length : Int) 1 5).bind fun r1 =>
 if (!r1) = true then some true else (zq8 n.Stops).bind fun r2 =>
 if (!r2) = true then some true else (zq22 n).bind fun r3 =>
 (zq8 r3).bind fun r4 =>
 some (!r4)).bind fun (v : Bool) =>
 if v = true then
  some false
 else
  flb (iter (zq4_L1 n) (0 : Int)) fun (_ : Unit) =>
  some true
noncomputable def zq17 (n : Network) (line : Int) : Option (Bool) :=
 (if (decide (0 ≤ line)) = true then some (decide (line < (n.Lines.length : Int))) else some false).bind fun (v : Bool) =>
 some v
noncomputable def zq5 (t : Int) : Option (Bool) :=
 (zq30 t 0 1799).bind fun r =>
 some r
noncomputable def zq27_L1 (list : List Int) : Int × Int → Option (Lp (Int × Int) (Int))
 | (v, v1) =>
  if (decide (v1 < (list.length : Int))) = true then
   (idx list v1).bind fun e =>
   some (.nx ((w64 (v + e)), (w64 (v1 + 1))))
  else
   some (.dn v)
noncomputable def zq27 (list : List Int) : Option (Int) :=
 (iter (zq27_L1 list) ((0 : Int), (0 : Int))).bind fun (v2 : Int) =>
 some v2
noncomputable def zq13 (t : Timetable) (x : Trip) : Option (Int) :=
 (idx t.Network.Lines x.Line).bind fun e1 =>
 (zq27 e1.Runs).bind fun r1 =>
 some (w64 (x.Start + r1))
noncomputable def zq9_L1 (t : Timetable) : Int × Int → Option (Lp (Int × Int) (Fl (Bool) (Unit)))
 | (v, v1) =>
  if (decide (v1 < (t.Trips.length : Int))) = true then
   (idx t.Trips v1).bind fun e =>
   (if (decide (e.Id ≤ v)) = true then some true else if (decide (999 < e.Id)) = true then some true else (zq17 t.Network e.Line).bind fun r =>
   if (!r) = true then some true else (zq5 e.Start).bind fun r1 =>
   if (!r1) = true then some true else (zq13 t e).bind fun r2 =>
   (zq5 r2).bind fun r3 =>
   some (!r3)).bind fun (v2 : Bool) =>
   if v2 = true then
    some (.dn (.ret false))
   else
    some (.nx (e.Id, (w64 (v1 + 1))))
  else
   some (.dn (.go ()))
noncomputable def zq9 (t : Timetable) : Option (Bool) :=
 if (decide (12 < (t.Trips.length : Int))) = true then
  some false
 else
  flb (iter (zq9_L1 t) ((0 : Int), (0 : Int))) fun (_ : Unit) =>
  some true
noncomputable def zq6 (t : Timetable) : Option (Bool) :=
 (zq4 t.Network).bind fun r =>
 (if r = true then (zq9 t).bind fun r1 =>
 some r1 else some false).bind fun (v : Bool) =>
 some v
noncomputable def zq15 (change : Int) : Option (Bool) :=
 (zq30 change 0 30).bind fun r =>
 some r
noncomputable def zq19 (t : Timetable) (change : Int) (from_ : Int) (to_ : Int) : Option (Bool) :=
 (zq6 t).bind fun r =>
 (if r = true then (zq15 change).bind fun r1 =>
 if r1 = true then (zq20 t.Network from_).bind fun r2 =>
 if r2 = true then (zq20 t.Network to_).bind fun r3 =>
 if r3 = true then some (from_ != to_) else some false else some false else some false else some false).bind fun (v : Bool) =>
 some v
noncomputable def zq23 (t : Timetable) (x : Trip) : Option (Line) :=
 (idx t.Network.Lines x.Line).bind fun e =>
 some e
noncomputable def zq26_L1 (r : Line) : Int × (List Int) → Option (Lp (Int × (List Int)) ((List Int)))
 | (v, r1) =>
  if (decide (v < (r.Runs.length : Int))) = true then
   (idx r.Runs v).bind fun e =>
   (idx r1 v).bind fun e1 =>
   (chk (r1.length + ([(w64 (e1 + e))] : List Int).length ≤ 4294967296)).bind fun u =>
   some (.nx ((w64 (v + 1)), (r1 ++ ([(w64 (e1 + e))] : List Int))))
  else
   some (.dn r1)
noncomputable def zq26 (t : Timetable) (x : Trip) : Option ((List Int)) :=
 (zq23 t x).bind fun r =>
 (iter (zq26_L1 r) ((0 : Int), ([x.Start] : List Int))).bind fun (r2 : List Int) =>
 some r2
noncomputable def zq32 (x : IK .u64) : Option (Int) :=
 (if (decide (4294967296 ≤ x.v)) = true then
  (chk ((0 : Int) ≤ 32)).bind fun u =>
  some ((x.v.fdiv (2 ^ (min (32 : Int).toNat (IntKind.u64).bits))), (32 : Int))
 else
  some (x.v, (0 : Int))).bind fun ((x1, v) : Int × Int) =>
 (if (decide (65536 ≤ x1)) = true then
  (chk ((0 : Int) ≤ 16)).bind fun u1 =>
  some ((x1.fdiv (2 ^ (min (16 : Int).toNat (IntKind.u64).bits))), (w64 (v + 16)))
 else
  some (x1, v)).bind fun ((x2, v1) : Int × Int) =>
 (if (decide (256 ≤ x2)) = true then
  (chk ((0 : Int) ≤ 8)).bind fun u2 =>
  some ((x2.fdiv (2 ^ (min (8 : Int).toNat (IntKind.u64).bits))), (w64 (v1 + 8)))
 else
  some (x2, v1)).bind fun ((x3, v2) : Int × Int) =>
 (chk ((0 : Int) ≤ (IntKind.u8.wrap (x3)) ∧ (IntKind.u8.wrap (x3)) < ((str [0, 1, 2, 2, 3, 3, 3, 3, 4, 4, 4, 4, 4, 4, 4, 4, 5, 5, 5, 5, 5, 5, 5, 5, 5, 5, 5, 5, 5, 5, 5, 5, 6, 6, 6, 6, 6, 6, 6, 6, 6, 6, 6, 6, 6, 6, 6, 6, 6, 6, 6, 6, 6, 6, 6, 6, 6, 6, 6, 6, 6, 6, 6, 6, 7, 7, 7, 7, 7, 7, 7, 7, 7, 7, 7, 7, 7, 7, 7, 7, 7, 7, 7, 7, 7, 7, 7, 7, 7, 7, 7, 7, 7, 7, 7, 7, 7, 7, 7, 7, 7, 7, 7, 7, 7, 7, 7, 7, 7, 7, 7, 7, 7, 7, 7, 7, 7, 7, 7, 7, 7, 7, 7, 7, 7, 7, 7, 7, 8, 8, 8, 8, 8, 8, 8, 8, 8, 8, 8, 8, 8, 8, 8, 8, 8, 8, 8, 8, 8, 8, 8, 8, 8, 8, 8, 8, 8, 8, 8, 8, 8, 8, 8, 8, 8, 8, 8, 8, 8, 8, 8, 8, 8, 8, 8, 8, 8, 8, 8, 8, 8, 8, 8, 8, 8, 8, 8, 8, 8, 8, 8, 8, 8, 8, 8, 8, 8, 8, 8, 8, 8, 8, 8, 8, 8, 8, 8, 8, 8, 8, 8, 8, 8, 8, 8, 8, 8, 8, 8, 8, 8, 8, 8, 8, 8, 8, 8, 8, 8, 8, 8, 8, 8, 8, 8, 8, 8, 8, 8, 8, 8, 8, 8, 8, 8, 8, 8, 8, 8, 8, 8, 8, 8, 8, 8, 8]).size : Int))).bind fun u3 =>
 some (w64 (v2 + (w64 ((((str [0, 1, 2, 2, 3, 3, 3, 3, 4, 4, 4, 4, 4, 4, 4, 4, 5, 5, 5, 5, 5, 5, 5, 5, 5, 5, 5, 5, 5, 5, 5, 5, 6, 6, 6, 6, 6, 6, 6, 6, 6, 6, 6, 6, 6, 6, 6, 6, 6, 6, 6, 6, 6, 6, 6, 6, 6, 6, 6, 6, 6, 6, 6, 6, 7, 7, 7, 7, 7, 7, 7, 7, 7, 7, 7, 7, 7, 7, 7, 7, 7, 7, 7, 7, 7, 7, 7, 7, 7, 7, 7, 7, 7, 7, 7, 7, 7, 7, 7, 7, 7, 7, 7, 7, 7, 7, 7, 7, 7, 7, 7, 7, 7, 7, 7, 7, 7, 7, 7, 7, 7, 7, 7, 7, 7, 7, 7, 7, 8, 8, 8, 8, 8, 8, 8, 8, 8, 8, 8, 8, 8, 8, 8, 8, 8, 8, 8, 8, 8, 8, 8, 8, 8, 8, 8, 8, 8, 8, 8, 8, 8, 8, 8, 8, 8, 8, 8, 8, 8, 8, 8, 8, 8, 8, 8, 8, 8, 8, 8, 8, 8, 8, 8, 8, 8, 8, 8, 8, 8, 8, 8, 8, 8, 8, 8, 8, 8, 8, 8, 8, 8, 8, 8, 8, 8, 8, 8, 8, 8, 8, 8, 8, 8, 8, 8, 8, 8, 8, 8, 8, 8, 8, 8, 8, 8, 8, 8, 8, 8, 8, 8, 8, 8, 8, 8, 8, 8, 8, 8, 8, 8, 8, 8, 8, 8, 8, 8, 8, 8, 8, 8, 8, 8, 8, 8, 8]).data.toList.getD (IntKind.u8.wrap (x3)).toNat 0).toNat : Int)))))
noncomputable def zq31 (x : IK .u64) : Option (Int) :=
 (zq32 x).bind fun r =>
 some r
noncomputable def zq1 (x : Int) : Option (Bool) :=
 some (x != x)
noncomputable def zq0 (x : Int) (y_ : Int) : Option (Bool) :=
 (zq1 x).bind fun r =>
 (if r = true then (zq1 y_).bind fun r1 =>
 if (!r1) = true then some true else some (decide (x < y_)) else some (decide (x < y_))).bind fun (v : Bool) =>
 some v
noncomputable def zq94_L1 (a : Int) : Int × (List Int) → Option (Lp (Int × (List Int)) ((List Int)))
 | (v1, data2) =>
  (if (decide (a < v1)) = true then (idx data2 v1).bind fun e2 =>
  (idx data2 (w64 (v1 - 1))).bind fun e3 =>
  (zq0 e2 e3).bind fun r1 =>
  some r1 else some false).bind fun (v2 : Bool) =>
  if v2 = true then
   (idx data2 (w64 (v1 - 1))).bind fun e8 =>
   (idx data2 v1).bind fun e9 =>
   (idx data2 v1).bind fun e10 =>
   (idx (data2.set v1.toNat e8) (w64 (v1 - 1))).bind fun e11 =>
   some (.nx ((w64 (v1 - 1)), ((data2.set v1.toNat e8).set (w64 (v1 - 1)).toNat e9)))
  else
   some (.dn data2)
noncomputable def zq94_L2 (a : Int) (b : Int) : Int × (List Int) → Option (Lp (Int × (List Int)) ((List Int)))
 | (v, data1) =>
  if (decide (v < b)) = true then
   (iter (zq94_L1 a) (v, data1)).bind fun (data3 : List Int) =>
   some (.nx ((w64 (v + 1)), data3))
  else
   some (.dn data1)
noncomputable def zq94 (data : List Int) (a : Int) (b : Int) : Option ((List Int)) :=
 iter (zq94_L2 a b) ((w64 (a + 1)), data)
noncomputable def zq104_L1 (hi : Int) (first : Int) : Int × (List Int) → Option (Lp (Int × (List Int)) ((List Int)))
 | (v, data1) =>
  if (decide (hi ≤ (w64 ((w64 (2 * v)) + 1)))) = true then
   some (.dn data1)
  else
   ((if (decide ((w64 ((w64 ((w64 (2 * v)) + 1)) + 1)) < hi)) = true then (idx data1 (w64 (first + (w64 ((w64 (2 * v)) + 1))))).bind fun e3 =>
   (idx data1 (w64 ((w64 (first + (w64 ((w64 (2 * v)) + 1)))) + 1))).bind fun e4 =>
   (zq0 e3 e4).bind fun r2 =>
   some r2 else some false).bind fun (v2 : Bool) =>
   if v2 = true then
    some (w64 ((w64 ((w64 (2 * v)) + 1)) + 1))
   else
    some (w64 ((w64 (2 * v)) + 1))).bind fun (v1 : Int) =>
   (idx data1 (w64 (first + v))).bind fun e7 =>
   (idx data1 (w64 (first + v1))).bind fun e8 =>
   (zq0 e7 e8).bind fun r4 =>
   if (!r4) = true then
    some (.dn data1)
   else
    (idx data1 (w64 (first + v1))).bind fun e14 =>
    (idx data1 (w64 (first + v))).bind fun e15 =>
    (idx data1 (w64 (first + v))).bind fun e16 =>
    (idx (data1.set (w64 (first + v)).toNat e14) (w64 (first + v1))).bind fun e17 =>
    some (.nx (v1, ((data1.set (w64 (first + v)).toNat e14).set (w64 (first + v1)).toNat e15)))
noncomputable def zq104 (data : List Int) (lo : Int) (hi : Int) (first : Int) : Option ((List Int)) :=
 iter (zq104_L1 hi first) (lo, data)
noncomputable def zq93_L1 (a : Int) (b : Int) : Int × (List Int) → Option (Lp (Int × (List Int)) ((List Int)))
 | (v, data1) =>
  if (decide (0 ≤ v)) = true then
   (zq104 data1 v (w64 (b - a)) a).bind fun r =>
   some (.nx ((w64 (v - 1)), r))
  else
   some (.dn data1)
noncomputable def zq93_L2 (a : Int) : Int × (List Int) → Option (Lp (Int × (List Int)) ((List Int)))
 | (v1, data3) =>
  if (decide (0 ≤ v1)) = true then
   (idx data3 (w64 (a + v1))).bind fun e4 =>
   (idx data3 a).bind fun e5 =>
   (idx data3 a).bind fun e6 =>
   (idx (data3.set a.toNat e4) (w64 (a + v1))).bind fun e7 =>
   (zq104 ((data3.set a.toNat e4).set (w64 (a + v1)).toNat e5) 0 v1 a).bind fun r1 =>
   some (.nx ((w64 (v1 - 1)), r1))
  else
   some (.dn data3)
noncomputable def zq93 (data : List Int) (a : Int) (b : Int) : Option ((List Int)) :=
 (chk ((2 : Int) ≠ 0)).bind fun u =>
 (iter (zq93_L1 a b) ((w64 ((w64 ((w64 (b - a)) - 1)).tdiv 2)), data)).bind fun (data2 : List Int) =>
 iter (zq93_L2 a) ((w64 ((w64 (b - a)) - 1)), data2)
noncomputable def zq98 (data : List Int) (a : Int) (b : Int) (swaps : Int) : Option (Int × Int × Int) :=
 (idx data b).bind fun e2 =>
 (idx data a).bind fun e3 =>
 (zq0 e2 e3).bind fun r1 =>
 if r1 = true then
  some (b, a, (w64 (swaps + 1)))
 else
  some (a, b, swaps)
noncomputable def zq96 (data : List Int) (a : Int) (b : Int) (c : Int) (swaps : Int) : Option (Int × Int) :=
 (zq98 data a b swaps).bind fun r =>
 (zq98 data r.2.1 c r.2.2).bind fun r1 =>
 (zq98 data r.1 r1.1 r1.2.2).bind fun r2 =>
 some (r2.2.1, r2.2.2)
noncomputable def zq95 (data : List Int) (a : Int) (swaps : Int) : Option (Int × Int) :=
 (zq96 data (w64 (a - 1)) a (w64 (a + 1)) swaps).bind fun r =>
 some (r.1, r.2)
noncomputable def zq92 (data : List Int) (a : Int) (b : Int) : Option (Int × Int) :=
 (chk ((4 : Int) ≠ 0)).bind fun u =>
 (chk ((4 : Int) ≠ 0)).bind fun u1 =>
 (chk ((4 : Int) ≠ 0)).bind fun u2 =>
 (if (decide (8 ≤ (w64 (b - a)))) = true then
  (if (decide (50 ≤ (w64 (b - a)))) = true then
   (zq95 data (w64 (a + (w64 ((w64 ((w64 (b - a)).tdiv 4)) * 1)))) 0).bind fun r =>
   (zq95 data (w64 (a + (w64 ((w64 ((w64 (b - a)).tdiv 4)) * 2)))) r.2).bind fun r1 =>
   (zq95 data (w64 (a + (w64 ((w64 ((w64 (b - a)).tdiv 4)) * 3)))) r1.2).bind fun r2 =>
   some (r.1, r1.1, r2.1, r2.2)
  else
   some ((w64 (a + (w64 ((w64 ((w64 (b - a)).tdiv 4)) * 1)))), (w64 (a + (w64 ((w64 ((w64 (b - a)).tdiv 4)) * 2)))), (w64 (a + (w64 ((w64 ((w64 (b - a)).tdiv 4)) * 3)))), (0 : Int))).bind fun ((v2, v3, v4, v5) : Int × Int × Int × Int) =>
  (zq96 data v2 v3 v4 v5).bind fun r3 =>
  some (r3.1, r3.2)
 else
  some ((w64 (a + (w64 ((w64 ((w64 (b - a)).tdiv 4)) * 2)))), (0 : Int))).bind fun ((v, v1) : Int × Int) =>
 if (v1 == 0) = true then
  some (v, 1)
 else
  if (v1 == 12) = true then
   some (v, 2)
  else
   some (v, 0)
noncomputable def zq103_L1 : Int × Int × (List Int) → Option (Lp (Int × Int × (List Int)) ((List Int)))
 | (v, v1, data1) =>
  if (decide (v < v1)) = true then
   (idx data1 v1).bind fun e4 =>
   (idx data1 v).bind fun e5 =>
   (idx data1 v).bind fun e6 =>
   (idx (data1.set v.toNat e4) v1).bind fun e7 =>
   some (.nx ((w64 (v + 1)), (w64 (v1 - 1)), ((data1.set v.toNat e4).set v1.toNat e5)))
  else
   some (.dn data1)
noncomputable def zq103 (data : List Int) (a : Int) (b : Int) : Option ((List Int)) :=
 iter (zq103_L1) (a, (w64 (b - 1)), data)
noncomputable def zq99_L1 (b : Int) (data1 : List Int) : Int → Option (Lp (Int) (Int))
 | j2 =>
  (if (decide (j2 < b)) = true then (idx data1 j2).bind fun e2 =>
  (idx data1 (w64 (j2 - 1))).bind fun e3 =>
  (zq0 e2 e3).bind fun r1 =>
  some (!r1) else some false).bind fun (v1 : Bool) =>
  if v1 = true then
   some (.nx (w64 (j2 + 1)))
  else
   some (.dn j2)
noncomputable def zq99_L2 : Int × (List Int) → Option (Lp (Int × (List Int)) ((List Int)))
 | (v2, data4) =>
  if (decide (1 ≤ v2)) = true then
   (idx data4 v2).bind fun e18 =>
   (idx data4 (w64 (v2 - 1))).bind fun e19 =>
   (zq0 e18 e19).bind fun r7 =>
   if (!r7) = true then
    some (.dn data4)
   else
    (idx data4 (w64 (v2 - 1))).bind fun e24 =>
    (idx data4 v2).bind fun e25 =>
    (idx data4 v2).bind fun e26 =>
    (idx (data4.set v2.toNat e24) (w64 (v2 - 1))).bind fun e27 =>
    some (.nx ((w64 (v2 - 1)), ((data4.set v2.toNat e24).set (w64 (v2 - 1)).toNat e25)))
  else
   some (.dn data4)
noncomputable def zq99_L3 (b : Int) : Int × (List Int) → Option (Lp (Int × (List Int)) ((List Int)))
 | (v3, data6) =>
  if (decide (v3 < b)) = true then
   (idx data6 v3).bind fun e30 =>
   (idx data6 (w64 (v3 - 1))).bind fun e31 =>
   (zq0 e30 e31).bind fun r9 =>
   if (!r9) = true then
    some (.dn data6)
   else
    (idx data6 (w64 (v3 - 1))).bind fun e36 =>
    (idx data6 v3).bind fun e37 =>
    (idx data6 v3).bind fun e38 =>
    (idx (data6.set v3.toNat e36) (w64 (v3 - 1))).bind fun e39 =>
    some (.nx ((w64 (v3 + 1)), ((data6.set v3.toNat e36).set (w64 (v3 - 1)).toNat e37)))
  else
   some (.dn data6)
noncomputable def zq99_L4 (a : Int) (b : Int) : Int × Int × (List Int) → Option (Lp (Int × Int × (List Int)) (Fl (Bool × (List Int)) ((List Int))))
 | (j, v, data1) =>
  if (decide (v < 5)) = true then
   flb ((iter (zq99_L1 b data1) j).bind fun (j3 : Int) =>
   if (j3 == b) = true then
    some (.ret (.dn (.ret (true, data1))))
   else
    if (decide ((w64 (b - a)) < 50)) = true then
     some (.ret (.dn (.ret (false, data1))))
    else
     (idx data1 (w64 (j3 - 1))).bind fun e12 =>
     (idx data1 j3).bind fun e13 =>
     (idx data1 j3).bind fun e14 =>
     (idx (data1.set j3.toNat e12) (w64 (j3 - 1))).bind fun e15 =>
     (if (decide (2 ≤ (w64 (j3 - a)))) = true then
      (iter (zq99_L2) ((w64 (j3 - 1)), ((data1.set j3.toNat e12).set (w64 (j3 - 1)).toNat e13))).bind fun (data5 : List Int) =>
      some data5
     else
      some ((data1.set j3.toNat e12).set (w64 (j3 - 1)).toNat e13)).bind fun (data3 : List Int) =>
     if (decide (2 ≤ (w64 (b - j3)))) = true then
      (iter (zq99_L3 b) ((w64 (j3 + 1)), data3)).bind fun (data7 : List Int) =>
      some (.go (j3, data7))
     else
      some (.go (j3, data3))) fun ((j1, data2) : Int × (List Int)) =>
   some (.nx (j1, (w64 (v + 1)), data2))
  else
   some (.dn (.go data1))
noncomputable def zq99 (data : List Int) (a : Int) (b : Int) : Option (Bool × (List Int)) :=
 flb (iter (zq99_L4 a b) ((w64 (a + 1)), (0 : Int), data)) fun (data8 : List Int) =>
 some (false, data8)
noncomputable def zq100_L1 (a : Int) (v1 : Int) (data1 : List Int) : Int → Option (Lp (Int) (Int))
 | v2 =>
  (if (decide (v2 ≤ v1)) = true then (idx data1 a).bind fun e10 =>
  (idx data1 v2).bind fun e11 =>
  (zq0 e10 e11).bind fun r1 =>
  some (!r1) else some false).bind fun (v3 : Bool) =>
  if v3 = true then
   some (.nx (w64 (v2 + 1)))
  else
   some (.dn v2)
noncomputable def zq100_L2 (a : Int) (data1 : List Int) (v4 : Int) : Int → Option (Lp (Int) (Int))
 | v5 =>
  (if (decide (v4 ≤ v5)) = true then (idx data1 a).bind fun e14 =>
  (idx data1 v5).bind fun e15 =>
  (zq0 e14 e15).bind fun r3 =>
  some r3 else some false).bind fun (v6 : Bool) =>
  if v6 = true then
   some (.nx (w64 (v5 - 1)))
  else
   some (.dn v5)
noncomputable def zq100_L3 (a : Int) : Int × Int × (List Int) → Option (Lp (Int × Int × (List Int)) (Int × (List Int)))
 | (v, v1, data1) =>
  (iter (zq100_L1 a v1 data1) v).bind fun (v4 : Int) =>
  (iter (zq100_L2 a data1 v4) v1).bind fun (v7 : Int) =>
  if (decide (v7 < v4)) = true then
   some (.dn (v4, data1))
  else
   (idx data1 v7).bind fun e20 =>
   (idx data1 v4).bind fun e21 =>
   (idx data1 v4).bind fun e22 =>
   (idx (data1.set v4.toNat e20) v7).bind fun e23 =>
   some (.nx ((w64 (v4 + 1)), (w64 (v7 - 1)), ((data1.set v4.toNat e20).set v7.toNat e21)))
noncomputable def zq100 (data : List Int) (a : Int) (b : Int) (pivot : Int) : Option (Int × (List Int)) :=
 (idx data pivot).bind fun e4 =>
 (idx data a).bind fun e5 =>
 (idx data a).bind fun e6 =>
 (idx (data.set a.toNat e4) pivot).bind fun e7 =>
 (iter (zq100_L3 a) ((w64 (a + 1)), (w64 (b - 1)), ((data.set a.toNat e4).set pivot.toNat e5))).bind fun ((v8, data2) : Int × (List Int)) =>
 some (v8, data2)
noncomputable def zq101_L1 (data : List Int) (a : Int) (b : Int) (pivot : Int) (e4 : Int) (e5 : Int) : Int → Option (Lp (Int) (Int))
 | v =>
  (if (decide (v ≤ (w64 (b - 1)))) = true then (idx ((data.set a.toNat e4).set pivot.toNat e5) v).bind fun e10 =>
  (idx ((data.set a.toNat e4).set pivot.toNat e5) a).bind fun e11 =>
  (zq0 e10 e11).bind fun r1 =>
  some r1 else some false).bind fun (v1 : Bool) =>
  if v1 = true then
   some (.nx (w64 (v + 1)))
  else
   some (.dn v)
noncomputable def zq101_L2 (data : List Int) (a : Int) (pivot : Int) (e4 : Int) (e5 : Int) (v2 : Int) : Int → Option (Lp (Int) (Int))
 | v3 =>
  (if (decide (v2 ≤ v3)) = true then (idx ((data.set a.toNat e4).set pivot.toNat e5) v3).bind fun e14 =>
  (idx ((data.set a.toNat e4).set pivot.toNat e5) a).bind fun e15 =>
  (zq0 e14 e15).bind fun r3 =>
  some (!r3) else some false).bind fun (v4 : Bool) =>
  if v4 = true then
   some (.nx (w64 (v3 - 1)))
  else
   some (.dn v3)
noncomputable def zq101_L3 (a : Int) (v7 : Int) (data1 : List Int) : Int → Option (Lp (Int) (Int))
 | v8 =>
  (if (decide (v8 ≤ v7)) = true then (idx data1 v8).bind fun e34 =>
  (idx data1 a).bind fun e35 =>
  (zq0 e34 e35).bind fun r5 =>
  some r5 else some false).bind fun (v9 : Bool) =>
  if v9 = true then
   some (.nx (w64 (v8 + 1)))
  else
   some (.dn v8)
noncomputable def zq101_L4 (a : Int) (data1 : List Int) (v10 : Int) : Int → Option (Lp (Int) (Int))
 | v11 =>
  (if (decide (v10 ≤ v11)) = true then (idx data1 v11).bind fun e38 =>
  (idx data1 a).bind fun e39 =>
  (zq0 e38 e39).bind fun r7 =>
  some (!r7) else some false).bind fun (v12 : Bool) =>
  if v12 = true then
   some (.nx (w64 (v11 - 1)))
  else
   some (.dn v11)
noncomputable def zq101_L5 (a : Int) : Int × Int × (List Int) → Option (Lp (Int × Int × (List Int)) (Int × (List Int)))
 | (v6, v7, data1) =>
  (iter (zq101_L3 a v7 data1) v6).bind fun (v10 : Int) =>
  (iter (zq101_L4 a data1 v10) v7).bind fun (v13 : Int) =>
  if (decide (v13 < v10)) = true then
   some (.dn (v13, data1))
  else
   (idx data1 v13).bind fun e44 =>
   (idx data1 v10).bind fun e45 =>
   (idx data1 v10).bind fun e46 =>
   (idx (data1.set v10.toNat e44) v13).bind fun e47 =>
   some (.nx ((w64 (v10 + 1)), (w64 (v13 - 1)), ((data1.set v10.toNat e44).set v13.toNat e45)))
noncomputable def zq101 (data : List Int) (a : Int) (b : Int) (pivot : Int) : Option (Int × Bool × (List Int)) :=
 (idx data pivot).bind fun e4 =>
 (idx data a).bind fun e5 =>
 (idx data a).bind fun e6 =>
 (idx (data.set a.toNat e4) pivot).bind fun e7 =>
 (iter (zq101_L1 data a b pivot e4 e5) (w64 (a + 1))).bind fun (v2 : Int) =>
 (iter (zq101_L2 data a pivot e4 e5 v2) (w64 (b - 1))).bind fun (v5 : Int) =>
 if (decide (v5 < v2)) = true then
  (idx ((data.set a.toNat e4).set pivot.toNat e5) a).bind fun e20 =>
  (idx ((data.set a.toNat e4).set pivot.toNat e5) v5).bind fun e21 =>
  (idx ((data.set a.toNat e4).set pivot.toNat e5) v5).bind fun e22 =>
  (idx (((data.set a.toNat e4).set pivot.toNat e5).set v5.toNat e20) a).bind fun e23 =>
  some (v5, true, ((((data.set a.toNat e4).set pivot.toNat e5).set v5.toNat e20).set a.toNat e21))
 else
  (idx ((data.set a.toNat e4).set pivot.toNat e5) v5).bind fun e28 =>
  (idx ((data.set a.toNat e4).set pivot.toNat e5) v2).bind fun e29 =>
  (idx ((data.set a.toNat e4).set pivot.toNat e5) v2).bind fun e30 =>
  (idx (((data.set a.toNat e4).set pivot.toNat e5).set v2.toNat e28) v5).bind fun e31 =>
  (iter (zq101_L5 a) ((w64 (v2 + 1)), (w64 (v5 - 1)), ((((data.set a.toNat e4).set pivot.toNat e5).set v2.toNat e28).set v5.toNat e29))).bind fun ((v14, data2) : Int × (List Int)) =>
  (idx data2 a).bind fun e52 =>
  (idx data2 v14).bind fun e53 =>
  (idx data2 v14).bind fun e54 =>
  (idx (data2.set v14.toNat e52) a).bind fun e55 =>
  some (v14, false, ((data2.set v14.toNat e52).set a.toNat e53))
noncomputable def zq97 (length : Int) : Option ((IK .u64)) :=
 (zq31 (⟨(IntKind.u64.wrap (length))⟩ : IK .u64)).bind fun r =>
 (chk ((0 : Int) ≤ r)).bind fun u =>
 some (⟨(IntKind.u64.wrap (1 * 2 ^ (min (r : Int).toNat (IntKind.u64).bits)))⟩ : IK .u64)
noncomputable def zq105 (r : IK .u64) : Option ((IK .u64) × (IK .u64)) :=
 (chk ((0 : Int) ≤ 13)).bind fun u1 =>
 (chk ((0 : Int) ≤ 7)).bind fun u3 =>
 (chk ((0 : Int) ≤ 17)).bind fun u5 =>
 some ((⟨(IntKind.u64.wrap ((BitVec.ofInt (IntKind.u64).bits (IntKind.u64.wrap ((BitVec.ofInt (IntKind.u64).bits (IntKind.u64.wrap ((BitVec.ofInt (IntKind.u64).bits r.v ^^^ BitVec.ofInt (IntKind.u64).bits (IntKind.u64.wrap (r.v * 2 ^ (min (13 : Int).toNat (IntKind.u64).bits)))).toNat : Int)) ^^^ BitVec.ofInt (IntKind.u64).bits ((IntKind.u64.wrap ((BitVec.ofInt (IntKind.u64).bits r.v ^^^ BitVec.ofInt (IntKind.u64).bits (IntKind.u64.wrap (r.v * 2 ^ (min (13 : Int).toNat (IntKind.u64).bits)))).toNat : Int)).fdiv (2 ^ (min (7 : Int).toNat (IntKind.u64).bits)))).toNat : Int)) ^^^ BitVec.ofInt (IntKind.u64).bits (IntKind.u64.wrap ((IntKind.u64.wrap ((BitVec.ofInt (IntKind.u64).bits (IntKind.u64.wrap ((BitVec.ofInt (IntKind.u64).bits r.v ^^^ BitVec.ofInt (IntKind.u64).bits (IntKind.u64.wrap (r.v * 2 ^ (min (13 : Int).toNat (IntKind.u64).bits)))).toNat : Int)) ^^^ BitVec.ofInt (IntKind.u64).bits ((IntKind.u64.wrap ((BitVec.ofInt (IntKind.u64).bits r.v ^^^ BitVec.ofInt (IntKind.u64).bits (IntKind.u64.wrap (r.v * 2 ^ (min (13 : Int).toNat (IntKind.u64).bits)))).toNat : Int)).fdiv (2 ^ (min (7 : Int).toNat (IntKind.u64).bits)))).toNat : Int)) * 2 ^ (min (17 : Int).toNat (IntKind.u64).bits)))).toNat : Int))⟩ : IK .u64), (⟨(IntKind.u64.wrap ((BitVec.ofInt (IntKind.u64).bits (IntKind.u64.wrap ((BitVec.ofInt (IntKind.u64).bits (IntKind.u64.wrap ((BitVec.ofInt (IntKind.u64).bits r.v ^^^ BitVec.ofInt (IntKind.u64).bits (IntKind.u64.wrap (r.v * 2 ^ (min (13 : Int).toNat (IntKind.u64).bits)))).toNat : Int)) ^^^ BitVec.ofInt (IntKind.u64).bits ((IntKind.u64.wrap ((BitVec.ofInt (IntKind.u64).bits r.v ^^^ BitVec.ofInt (IntKind.u64).bits (IntKind.u64.wrap (r.v * 2 ^ (min (13 : Int).toNat (IntKind.u64).bits)))).toNat : Int)).fdiv (2 ^ (min (7 : Int).toNat (IntKind.u64).bits)))).toNat : Int)) ^^^ BitVec.ofInt (IntKind.u64).bits (IntKind.u64.wrap ((IntKind.u64.wrap ((BitVec.ofInt (IntKind.u64).bits (IntKind.u64.wrap ((BitVec.ofInt (IntKind.u64).bits r.v ^^^ BitVec.ofInt (IntKind.u64).bits (IntKind.u64.wrap (r.v * 2 ^ (min (13 : Int).toNat (IntKind.u64).bits)))).toNat : Int)) ^^^ BitVec.ofInt (IntKind.u64).bits ((IntKind.u64.wrap ((BitVec.ofInt (IntKind.u64).bits r.v ^^^ BitVec.ofInt (IntKind.u64).bits (IntKind.u64.wrap (r.v * 2 ^ (min (13 : Int).toNat (IntKind.u64).bits)))).toNat : Int)).fdiv (2 ^ (min (7 : Int).toNat (IntKind.u64).bits)))).toNat : Int)) * 2 ^ (min (17 : Int).toNat (IntKind.u64).bits)))).toNat : Int))⟩ : IK .u64))
noncomputable def zq91_L1 (a : Int) (b : Int) (r : (IK .u64)) : Int × (List Int) × Int → Option (Lp (Int × (List Int) × Int) ((List Int)))
 | (v, data1, v1) =>
  (chk ((4 : Int) ≠ 0)).bind fun u1 =>
  if (decide (v ≤ (w64 ((w64 (a + (w64 ((w64 ((w64 (b - a)).tdiv 4)) * 2)))) + 1)))) = true then
   (zq105 (⟨v1⟩ : IK .u64)).bind fun r1 =>
   (if (decide ((w64 (b - a)) ≤ (w64 ((IntKind.u64.wrap ((BitVec.ofInt (IntKind.u64).bits r1.1.v &&& BitVec.ofInt (IntKind.u64).bits (IntKind.u64.wrap (r.v - 1))).toNat : Int)))))) = true then
    some (w64 ((w64 ((IntKind.u64.wrap ((BitVec.ofInt (IntKind.u64).bits r1.1.v &&& BitVec.ofInt (IntKind.u64).bits (IntKind.u64.wrap (r.v - 1))).toNat : Int)))) - (w64 (b - a))))
   else
    some (w64 ((IntKind.u64.wrap ((BitVec.ofInt (IntKind.u64).bits r1.1.v &&& BitVec.ofInt (IntKind.u64).bits (IntKind.u64.wrap (r.v - 1))).toNat : Int))))).bind fun (v2 : Int) =>
   (idx data1 (w64 (a + v2))).bind fun e4 =>
   (idx data1 v).bind fun e5 =>
   (idx data1 v).bind fun e6 =>
   (idx (data1.set v.toNat e4) (w64 (a + v2))).bind fun e7 =>
   some (.nx ((w64 (v + 1)), ((data1.set v.toNat e4).set (w64 (a + v2)).toNat e5), r1.2.v))
  else
   some (.dn data1)
noncomputable def zq91 (data : List Int) (a : Int) (b : Int) : Option ((List Int)) :=
 if (decide (8 ≤ (w64 (b - a)))) = true then
  (zq97 (w64 (b - a))).bind fun r =>
  (chk ((4 : Int) ≠ 0)).bind fun u =>
  iter (zq91_L1 a b r) ((w64 ((w64 (a + (w64 ((w64 ((w64 (b - a)).tdiv 4)) * 2)))) - 1)), data, (IntKind.u64.wrap ((w64 (b - a)))))
 else
  some data
noncomputable def zq102_L1 (rec_ : (List Int) → Int → Int → Int → Option ((List Int))) : Int × Int × Int × Bool × Bool × (List Int) → Option (Lp (Int × Int × Int × Bool × Bool × (List Int)) ((List Int)))
 | (a1, b1, limit1, hint, mid, data1) =>
  if (decide ((w64 (b1 - a1)) ≤ 12)) = true then
   (zq94 data1 a1 b1).bind fun r =>
   some (.dn r)
  else
   if (limit1 == 0) = true then
    (zq93 data1 a1 b1).bind fun r2 =>
    some (.dn r2)
   else
    (if (!hint) = true then
     (zq91 data1 a1 b1).bind fun r4 =>
     some ((w64 (limit1 - 1)), r4)
    else
     some (limit1, data1)).bind fun ((limit2, data2) : Int × (List Int)) =>
    (zq92 data2 a1 b1).bind fun r5 =>
    (if (r5.2 == 2) = true then
     (zq103 data2 a1 b1).bind fun r6 =>
     some ((w64 ((w64 (b1 - 1)) - (w64 (r5.1 - a1)))), (1 : Int), r6)
    else
     some (r5.1, r5.2, data2)).bind fun ((alreadyPartitioned, leftLen, data3) : Int × Int × (List Int)) =>
    flb ((if hint = true then if mid = true then some (leftLen == 1) else some false else some false).bind fun (v : Bool) =>
    if v = true then
     (zq99 data3 a1 b1).bind fun r7 =>
     if r7.1 = true then
      some (.ret (.dn r7.2))
     else
      some (.go r7.2)
    else
     some (.go data3)) fun (data4 : List Int) =>
    (if (decide (0 < a1)) = true then (idx data4 (w64 (a1 - 1))).bind fun e6 =>
    (idx data4 alreadyPartitioned).bind fun e7 =>
    (zq0 e6 e7).bind fun r11 =>
    some (!r11) else some false).bind fun (v1 : Bool) =>
    if v1 = true then
     (zq100 data4 a1 b1 alreadyPartitioned).bind fun r12 =>
     some (.nx (r12.1, b1, limit2, hint, mid, r12.2))
    else
     (zq101 data4 a1 b1 alreadyPartitioned).bind fun r13 =>
     (chk ((8 : Int) ≠ 0)).bind fun u =>
     if (decide ((w64 (r13.1 - a1)) < (w64 (b1 - r13.1)))) = true then
      (rec_ r13.2.2 a1 r13.1 limit2).bind fun r14 =>
      some (.nx ((w64 (r13.1 + 1)), b1, limit2, (decide ((w64 ((w64 (b1 - a1)).tdiv 8)) ≤ (w64 (r13.1 - a1)))), r13.2.1, r14))
     else
      (rec_ r13.2.2 (w64 (r13.1 + 1)) b1 limit2).bind fun r15 =>
      some (.nx (a1, r13.1, limit2, (decide ((w64 ((w64 (b1 - a1)).tdiv 8)) ≤ (w64 (b1 - r13.1)))), r13.2.1, r15))
noncomputable def zq102_F (rec_ : (List Int) → Int → Int → Int → Option ((List Int))) (data : List Int) (a : Int) (b : Int) (limit : Int) : Option ((List Int)) :=
 iter (zq102_L1 rec_) (a, b, limit, true, true, data)
noncomputable def zq102_k : Nat → (List Int) → Int → Int → Int → Option ((List Int))
 | 0 => fun _ _ _ _ => none
 | n + 1 => zq102_F (zq102_k n)
noncomputable def zq102 (data : List Int) (a : Int) (b : Int) (limit : Int) : Option ((List Int)) := zq102_k 4294967296 data a b limit
noncomputable def zq90 (x : List Int) : Option ((List Int)) :=
 (zq31 (⟨(IntKind.u64.wrap ((x.length : Int)))⟩ : IK .u64)).bind fun r =>
 (zq102 x 0 (x.length : Int) r).bind fun r1 =>
 some r1
noncomputable def zq83 (s : List Int) : Option ((List Int)) :=
 comM s
noncomputable def zq11_L1 (t : Timetable) (stop : Int) : Int × (List Int) → Option (Lp (Int × (List Int)) ((List Int)))
 | (v, x) =>
  if (decide (v < (t.Trips.length : Int))) = true then
   ((idx t.Trips v).bind fun e =>
   (zq23 t e).bind fun r2 =>
   (zq26 t e).bind fun r3 =>
   (zq88 r2.Stops stop).bind fun r4 =>
   (if (decide (0 ≤ r4)) = true then some (decide (r4 < (w64 ((r2.Stops.length : Int) - 1)))) else some false).bind fun (v1 : Bool) =>
   if v1 = true then
    (idx r3 r4).bind fun e1 =>
    (chk (x.length + ([e1] : List Int).length ≤ 4294967296)).bind fun u =>
    some (x ++ ([e1] : List Int))
   else
    some x).bind fun (x1 : List Int) =>
   some (.nx ((w64 (v + 1)), x1))
  else
   some (.dn x)
noncomputable def zq11 (t : Timetable) (stop : Int) : Option ((List Int)) :=
 (iter (zq11_L1 t stop) ((0 : Int), ([] : List Int))).bind fun (x2 : List Int) =>
 (zq90 x2).bind fun r5 =>
 (zq83 r5).bind fun r6 =>
 some r6
noncomputable def zq24_L1 (t : Timetable) : Int × (List Int) → Option (Lp (Int × (List Int)) ((List Int)))
 | (v, v1) =>
  if (decide (v < ((List.replicate (t.Network.Stops.length : Int).toNat (0 : Int)).length : Int))) = true then
   (idx v1 v).bind fun e =>
   some (.nx ((w64 (v + 1)), (v1.set v.toNat 1073741824)))
  else
   some (.dn v1)
noncomputable def zq24 (t : Timetable) (stop : Int) (at_ : Int) : Option ((List Int)) :=
 (chk ((0 : Int) ≤ (t.Network.Stops.length : Int) ∧ ((t.Network.Stops.length : Int) : Int) ≤ 4294967296)).bind fun u =>
 (iter (zq24_L1 t) ((0 : Int), (List.replicate (t.Network.Stops.length : Int).toNat (0 : Int)))).bind fun (v2 : List Int) =>
 (idx v2 stop).bind fun e1 =>
 some (v2.set stop.toNat at_)
noncomputable def zq25_L1 (ready : List Int) : Int × (List Int) → Option (Lp (Int × (List Int)) ((List Int)))
 | (v, v1) =>
  if (decide (v < ((List.replicate (ready.length : Int).toNat (0 : Int)).length : Int))) = true then
   (idx v1 v).bind fun e =>
   some (.nx ((w64 (v + 1)), (v1.set v.toNat 1073741824)))
  else
   some (.dn v1)
noncomputable def zq25_L2 (ready : List Int) (r : (List Int)) (r1 : Line) : Bool × Int × (List Int) → Option (Lp (Bool × Int × (List Int)) ((List Int)))
 | (s1, v5, v6) =>
  if (decide (v5 < (r1.Stops.length : Int))) = true then
   (idx r1.Stops v5).bind fun e2 =>
   (if s1 = true then
    (idx v6 e2).bind fun e6 =>
    (idx r v5).bind fun e7 =>
    (idx v6 e2).bind fun e8 =>
    some (v6.set e2.toNat (if e7 < e6 then e7 else e6))
   else
    some v6).bind fun (v7 : List Int) =>
   if s1 = true then some (.nx (true, (w64 (v5 + 1)), v7)) else (idx ready e2).bind fun e11 =>
   (idx r v5).bind fun e12 =>
   some (.nx ((decide (e11 ≤ e12)), (w64 (v5 + 1)), v7))
  else
   some (.dn v6)
noncomputable def zq25_L3 (t : Timetable) (ready : List Int) : Int × (List Int) → Option (Lp (Int × (List Int)) ((List Int)))
 | (v3, v4) =>
  if (decide (v3 < (t.Trips.length : Int))) = true then
   (idx t.Trips v3).bind fun e1 =>
   (zq26 t e1).bind fun r =>
   (zq23 t e1).bind fun r1 =>
   (iter (zq25_L2 ready r r1) (false, (0 : Int), v4)).bind fun (v8 : List Int) =>
   some (.nx ((w64 (v3 + 1)), v8))
  else
   some (.dn v4)
noncomputable def zq25 (t : Timetable) (ready : List Int) : Option ((List Int)) :=
 (chk ((0 : Int) ≤ (ready.length : Int) ∧ ((ready.length : Int) : Int) ≤ 4294967296)).bind fun u =>
 (iter (zq25_L1 ready) ((0 : Int), (List.replicate (ready.length : Int).toNat (0 : Int)))).bind fun (v2 : List Int) =>
 (iter (zq25_L3 t ready) ((0 : Int), v2)).bind fun (v9 : List Int) =>
 some v9
noncomputable def zq10_L1 (ready : List Int) : Int × (List Int) → Option (Lp (Int × (List Int)) ((List Int)))
 | (v, a) =>
  if (decide (v < ((List.replicate (ready.length : Int).toNat (0 : Int)).length : Int))) = true then
   (idx a v).bind fun e =>
   some (.nx ((w64 (v + 1)), (a.set v.toNat 1073741824)))
  else
   some (.dn a)
noncomputable def zq10_L2 (change : Int) (r : (List Int)) : Int × (List Int) × (List Int) → Option (Lp (Int × (List Int) × (List Int)) ((List Int) × (List Int)))
 | (v2, ready2, a3) =>
  if (decide (v2 < (r.length : Int))) = true then
   ((idx r v2).bind fun e1 =>
   (idx ready2 v2).bind fun e2 =>
   (idx a3 v2).bind fun e3 =>
   if (decide (e1 < e3)) = true then
    (idx a3 v2).bind fun e4 =>
    (idx (ready2.set v2.toNat 1073741824) v2).bind fun e5 =>
    some (((ready2.set v2.toNat 1073741824).set v2.toNat (w64 (e1 + change))), (a3.set v2.toNat e1))
   else
    some ((ready2.set v2.toNat 1073741824), a3)).bind fun ((ready3, a4) : (List Int) × (List Int)) =>
   some (.nx ((w64 (v2 + 1)), ready3, a4))
  else
   some (.dn (ready2, a3))
noncomputable def zq10_L3 (t : Timetable) (change : Int) (legs : Int) : (List Int) × Int × (List Int) → Option (Lp ((List Int) × Int × (List Int)) ((List Int)))
 | (ready1, v1, a2) =>
  if (decide (v1 < legs)) = true then
   (zq25 t ready1).bind fun r =>
   (chk ((0 : Int) ≤ (a2.length : Int) ∧ ((a2.length : Int) : Int) ≤ 4294967296)).bind fun u1 =>
   (iter (zq10_L2 change r) ((0 : Int), (List.replicate (a2.length : Int).toNat (0 : Int)), a2)).bind fun ((ready4, a5) : (List Int) × (List Int)) =>
   some (.nx (ready4, (w64 (v1 + 1)), a5))
  else
   some (.dn a2)
noncomputable def zq10 (t : Timetable) (change : Int) (ready : List Int) (legs : Int) : Option ((List Int)) :=
 (chk ((0 : Int) ≤ (ready.length : Int) ∧ ((ready.length : Int) : Int) ≤ 4294967296)).bind fun u =>
 (iter (zq10_L1 ready) ((0 : Int), (List.replicate (ready.length : Int).toNat (0 : Int)))).bind fun (a1 : List Int) =>
 (iter (zq10_L3 t change legs) (ready, (0 : Int), a1)).bind fun (a6 : List Int) =>
 some a6
noncomputable def zq14 (a : Choice) (b : Choice) : Option (Bool) :=
 (if (!((a.Depart == b.Depart) && ((a.Arrive == b.Arrive) && ((a.Legs == b.Legs) && true)))) = true then if (decide (b.Depart ≤ a.Depart)) = true then if (decide (a.Arrive ≤ b.Arrive)) = true then some (decide (a.Legs ≤ b.Legs)) else some false else some false else some false).bind fun (v : Bool) =>
 some v
noncomputable def zq29 (b : Choice) (c1 : Choice) : Option (Bool) :=
 (zq14 b c1).bind fun r =>
 some r
noncomputable def zq86_L1 (s : List Choice) (f : Choice → Option (Bool)) : Int → Option (Lp (Int) (Fl (Int) (Unit)))
 | v =>
  if (decide (v < (s.length : Int))) = true then
   (idx s v).bind fun e =>
   (f e).bind fun r =>
   if r = true then
    some (.dn (.ret v))
   else
    some (.nx (w64 (v + 1)))
  else
   some (.dn (.go ()))
noncomputable def zq86 (s : List Choice) (f : Choice → Option (Bool)) : Option (Int) :=
 flb (iter (zq86_L1 s f) (0 : Int)) fun (_ : Unit) =>
 some (-1)
noncomputable def zq87 (s : List Choice) (c1 : Choice) : Option (Int) :=
 zq86 s (fun (z0 : Choice) => zq29 z0 c1)
noncomputable def zq84 (s : List Choice) (f : Choice → Option (Bool)) : Option (Bool) :=
 (zq86 s f).bind fun r =>
 some (decide (0 ≤ r))
noncomputable def zq85 (s : List Choice) (c1 : Choice) : Option (Bool) :=
 zq84 s (fun (z0 : Choice) => zq29 z0 c1)
noncomputable def zq28_L1 (t : Timetable) (change : Int) (from_ : Int) (to_ : Int) (e : Int) : Int × Int × (List Choice) → Option (Lp (Int × Int × (List Choice)) ((List Choice)))
 | (v1, c, legs1) =>
  if (decide (c ≤ 4)) = true then
   ((zq24 t from_ e).bind fun r3 =>
   (zq10 t change r3 c).bind fun r4 =>
   (idx r4 to_).bind fun e2 =>
   if (decide (e2 < v1)) = true then
    (chk (legs1.length + ([(⟨e, e2, c⟩ : Choice)] : List Choice).length ≤ 4294967296)).bind fun u =>
    some (e2, (legs1 ++ ([(⟨e, e2, c⟩ : Choice)] : List Choice)))
   else
    some (v1, legs1)).bind fun ((v2, legs2) : Int × (List Choice)) =>
   some (.nx (v2, (w64 (c + 1)), legs2))
  else
   some (.dn legs1)
noncomputable def zq28_L2 (t : Timetable) (change : Int) (from_ : Int) (to_ : Int) (r : (List Int)) : Int × (List Choice) → Option (Lp (Int × (List Choice)) ((List Choice)))
 | (v, legs) =>
  if (decide (v < (r.length : Int))) = true then
   (idx r v).bind fun e =>
   (iter (zq28_L1 t change from_ to_ e) ((1073741824 : Int), (1 : Int), legs)).bind fun (legs3 : List Choice) =>
   some (.nx ((w64 (v + 1)), legs3))
  else
   some (.dn legs)
noncomputable def zq28_L3 (legs4 : List Choice) : Int × (List Choice) → Option (Lp (Int × (List Choice)) ((List Choice)))
 | (v3, v4) =>
  if (decide (v3 < (legs4.length : Int))) = true then
   ((idx legs4 v3).bind fun e3 =>
   (zq85 legs4 e3).bind fun r5 =>
   if (!r5) = true then
    (chk (v4.length + ([e3] : List Choice).length ≤ 4294967296)).bind fun u1 =>
    some (v4 ++ ([e3] : List Choice))
   else
    some v4).bind fun (v5 : List Choice) =>
   some (.nx ((w64 (v3 + 1)), v5))
  else
   some (.dn v4)
noncomputable def zq28 (t : Timetable) (change : Int) (from_ : Int) (to_ : Int) : Option ((List Choice)) :=
 (zq11 t from_).bind fun r =>
 (iter (zq28_L2 t change from_ to_ r) ((0 : Int), ([] : List Choice))).bind fun (legs4 : List Choice) =>
 (iter (zq28_L3 legs4) ((0 : Int), ([] : List Choice))).bind fun (v6 : List Choice) =>
 some v6
noncomputable def zq7 (t : Timetable) (change : Int) (from_ : Int) (to_ : Int) : Option ((List Choice) × Bool) :=
 (zq19 t change from_ to_).bind fun r =>
 if (!r) = true then
  some (([] : List Choice), false)
 else
  (zq28 t change from_ to_).bind fun r1 =>
  some (r1, true)
noncomputable def zq53 (x : Int) (a : Int) (b : Int) : Option (Bool) :=
 (if (decide (a ≤ x)) = true then some (decide (x ≤ b)) else some false).bind fun (v : Bool) =>
 some v
noncomputable def zq65_L1 (s : ByteArray) : Int → Option (Lp (Int) (Fl (Bool) (Unit)))
 | v1 =>
  if (decide (v1 < (s.size : Int))) = true then
   (chk ((0 : Int) ≤ v1 ∧ v1 < (s.size : Int))).bind fun u2 =>
   (if (decide (((s.data.toList.getD v1.toNat 0).toNat : Int) < 97)) = true then (chk ((0 : Int) ≤ v1 ∧ v1 < (s.size : Int))).bind fun u3 =>
   if (decide (((s.data.toList.getD v1.toNat 0).toNat : Int) < 48)) = true then some true else (chk ((0 : Int) ≤ v1 ∧ v1 < (s.size : Int))).bind fun u4 =>
   some (decide (57 < ((s.data.toList.getD v1.toNat 0).toNat : Int))) else (chk ((0 : Int) ≤ v1 ∧ v1 < (s.size : Int))).bind fun u5 =>
   if (decide (122 < ((s.data.toList.getD v1.toNat 0).toNat : Int))) = true then (chk ((0 : Int) ≤ v1 ∧ v1 < (s.size : Int))).bind fun u6 =>
   if (decide (((s.data.toList.getD v1.toNat 0).toNat : Int) < 48)) = true then some true else (chk ((0 : Int) ≤ v1 ∧ v1 < (s.size : Int))).bind fun u7 =>
   some (decide (57 < ((s.data.toList.getD v1.toNat 0).toNat : Int))) else some false).bind fun (v2 : Bool) =>
   if v2 = true then
    some (.dn (.ret false))
   else
    some (.nx (w64 (v1 + 1)))
  else
   some (.dn (.go ()))
noncomputable def zq65 (s : ByteArray) : Option (Bool) :=
 (zq53 (s.size : Int) 1 8).bind fun r =>
 (if (!r) = true then some true else (chk ((0 : Int) ≤ 0 ∧ 0 < (s.size : Int))).bind fun u =>
 if (decide (((s.data.toList.getD (0 : Int).toNat 0).toNat : Int) < 97)) = true then some true else (chk ((0 : Int) ≤ 0 ∧ 0 < (s.size : Int))).bind fun u1 =>
 some (decide (122 < ((s.data.toList.getD (0 : Int).toNat 0).toNat : Int)))).bind fun (v : Bool) =>
 if v = true then
  some false
 else
  flb (iter (zq65_L1 s) (0 : Int)) fun (_ : Unit) =>
  some true
noncomputable def zq61_L1 (list : List ByteArray) (name : ByteArray) : Int → Option (Lp (Int) (Fl (Int) (Unit)))
 | v =>
  if (decide (v < (list.length : Int))) = true then
   (idx list v).bind fun e =>
   if (e.toList == name.toList) = true then
    some (.dn (.ret v))
   else
    some (.nx (w64 (v + 1)))
  else
   some (.dn (.go ()))
noncomputable def zq61 (list : List ByteArray) (name : ByteArray) : Option (Int) :=
 flb (iter (zq61_L1 list name) (0 : Int)) fun (_ : Unit) =>
 some (-1)
noncomputable def zq63_L1 (x : Line) (stops : Int) : Int → Option (Lp (Int) (Fl (Bool) (Unit)))
 | v1 =>
  if (decide (v1 < (x.Stops.length : Int))) = true then
   (idx x.Stops v1).bind fun e2 =>
   (zq53 e2 0 (w64 (stops - 1))).bind fun r4 =>
   (if (!r4) = true then some true else (idx x.Stops v1).bind fun e3 =>
   (zq68 x e3).bind fun r5 =>
   some (r5 != v1)).bind fun (v2 : Bool) =>
   if v2 = true then
    some (.dn (.ret false))
   else
    some (.nx (w64 (v1 + 1)))
  else
   some (.dn (.go ()))
noncomputable def zq63_L2 (x : Line) : Int → Option (Lp (Int) (Fl (Bool) (Unit)))
 | v3 =>
  if (decide (v3 < (x.Runs.length : Int))) = true then
   (idx x.Runs v3).bind fun e5 =>
   (zq53 e5 1 60).bind fun r7 =>
   if (!r7) = true then
    some (.dn (.ret false))
   else
    some (.nx (w64 (v3 + 1)))
  else
   some (.dn (.go ()))
noncomputable def zq63 (x : Line) (stops : Int) : Option (Bool) :=
 (zq65 x.Name).bind fun r =>
 (if (!r) = true then some true else (zq53 (x.Stops.length : Int) 2 6).bind fun r1 =>
 if (!r1) = true then some true else some ((x.Runs.length : Int) != (w64 ((x.Stops.length : Int) - 1)))).bind fun (v : Bool) =>
 if v = true then
  some false
 else
  flb (iter (zq63_L1 x stops) (0 : Int)) fun (_ : Unit) =>
  flb (iter (zq63_L2 x) (0 : Int)) fun (_ : Unit) =>
  some true
noncomputable def zq64_L1 (n : Network) (name : ByteArray) : Int → Option (Lp (Int) (Fl (Int) (Unit)))
 | v =>
  if (decide (v < (n.Lines.length : Int))) = true then
   (idx n.Lines v).bind fun e =>
   if (e.Name.toList == name.toList) = true then
    some (.dn (.ret v))
   else
    some (.nx (w64 (v + 1)))
  else
   some (.dn (.go ()))
noncomputable def zq64 (n : Network) (name : ByteArray) : Option (Int) :=
 flb (iter (zq64_L1 n name) (0 : Int)) fun (_ : Unit) =>
 some (-1)
noncomputable def zq62_L1 (n : Network) : Int → Option (Lp (Int) (Fl (Bool) (Unit)))
 | i =>
  if (decide (i < (n.Stops.length : Int))) = true then
   (idx n.Stops i).bind fun e2 =>
   (zq65 e2).bind fun r4 =>
   (if (!r4) = true then some true else (idx n.Stops i).bind fun e3 =>
   (zq61 n.Stops e3).bind fun r5 =>
   some (r5 != i)).bind fun (v1 : Bool) =>
   if v1 = true then
    some (.dn (.ret false))
   else
    some (.nx (w64 (i + 1)))
  else
   some (.dn (.go ()))
noncomputable def zq62_L2 (n : Network) : Int → Option (Lp (Int) (Fl (Bool) (Unit)))
 | v2 =>
  if (decide (v2 < (n.Lines.length : Int))) = true then
   (idx n.Lines v2).bind fun e7 =>
   (zq63 e7 (n.Stops.length : Int)).bind fun r9 =>
   (if (!r9) = true then some true else (idx n.Lines v2).bind fun e8 =>
   (zq64 n e8.Name).bind fun r10 =>
   some (r10 != v2)).bind fun (v3 : Bool) =>
   if v3 = true then
    some (.dn (.ret false))
   else
    some (.nx (w64 (v2 + 1)))
  else
   some (.dn (.go ()))
noncomputable def zq62 (n : Network) : Option (Bool) :=
 (zq53 (n.Stops.length : Int) 2 8).bind fun r =>
 (if (!r) = true then some true else (zq53 (n.Lines.length : Int) 1 5).bind fun r1 =>
 some (!r1)).bind fun (v : Bool) =>
 if v = true then
  some false
 else
  flb (iter (zq62_L1 n) (0 : Int)) fun (_ : Unit) =>
  flb (iter (zq62_L2 n) (0 : Int)) fun (_ : Unit) =>
  some true
noncomputable def zq70 (t : Int) : Option (Bool) :=
 (zq53 t 0 1799).bind fun r =>
 some r
noncomputable def zq74 (t : Timetable) (i : Int) : Option (Line) :=
 (idx t.Trips i).bind fun e2 =>
 (idx t.Network.Lines e2.Line).bind fun e3 =>
 some e3
noncomputable def zq75 (t : Timetable) (i : Int) : Option ((List Int)) :=
 (zq74 t i).bind fun r =>
 some r.Stops
noncomputable def zq69_L1 (x : Line) (to_ : Int) : Int × Int → Option (Lp (Int × Int) (Int))
 | (v, v1) =>
  if (decide (v1 < to_)) = true then
   (idx x.Runs v1).bind fun e =>
   some (.nx ((w64 (v + e)), (w64 (v1 + 1))))
  else
   some (.dn v)
noncomputable def zq69 (x : Line) (from_ : Int) (to_ : Int) : Option (Int) :=
 (iter (zq69_L1 x to_) ((0 : Int), from_)).bind fun (v2 : Int) =>
 some v2
noncomputable def zq71 (t : Timetable) (i : Int) (k : Int) : Option (Int) :=
 (idx t.Trips i).bind fun e1 =>
 (zq74 t i).bind fun r2 =>
 (zq69 r2 0 k).bind fun r3 =>
 some (w64 (e1.Start + r3))
noncomputable def zq72 (t : Timetable) (i : Int) : Option (Int) :=
 (zq75 t i).bind fun r2 =>
 (zq71 t i (w64 ((r2.length : Int) - 1))).bind fun r3 =>
 some r3
noncomputable def zq73_L1 (t : Timetable) : Int → Option (Lp (Int) (Fl (Bool) (Unit)))
 | x =>
  if (decide (x < (t.Trips.length : Int))) = true then
   (idx t.Trips x).bind fun e =>
   (zq53 e.Id 1 999).bind fun r6 =>
   (if (!r6) = true then some true else (zq53 e.Line 0 (w64 ((t.Network.Lines.length : Int) - 1))).bind fun r7 =>
   if (!r7) = true then some true else (zq70 e.Start).bind fun r8 =>
   if (!r8) = true then some true else (zq72 t x).bind fun r9 =>
   (zq70 r9).bind fun r10 =>
   if (!r10) = true then some true else if (decide (0 < x)) = true then (idx t.Trips (w64 (x - 1))).bind fun e2 =>
   some (decide (e.Id ≤ e2.Id)) else some false).bind fun (v1 : Bool) =>
   if v1 = true then
    some (.dn (.ret false))
   else
    some (.nx (w64 (x + 1)))
  else
   some (.dn (.go ()))
noncomputable def zq73 (t : Timetable) : Option (Bool) :=
 (zq62 t.Network).bind fun r =>
 (if (!r) = true then some true else some (decide (12 < (t.Trips.length : Int)))).bind fun (v : Bool) =>
 if v = true then
  some false
 else
  flb (iter (zq73_L1 t) (0 : Int)) fun (_ : Unit) =>
  some true
noncomputable def zq77 (t : Timetable) (change : Int) : Option (Bool) :=
 (zq73 t).bind fun r =>
 (if r = true then (zq53 change 0 30).bind fun r1 =>
 some r1 else some false).bind fun (v : Bool) =>
 some v
noncomputable def zq79 (t : Timetable) (change : Int) (from_ : Int) (at_ : Int) : Option (Bool) :=
 (zq77 t change).bind fun r =>
 (if r = true then (zq53 from_ 0 (w64 ((t.Network.Stops.length : Int) - 1))).bind fun r1 =>
 if r1 = true then (zq70 at_).bind fun r2 =>
 some r2 else some false else some false).bind fun (v : Bool) =>
 some v
noncomputable def zq80 (t : Timetable) (change : Int) (from_ : Int) (to_ : Int) (at_ : Int) : Option (Bool) :=
 (zq79 t change from_ at_).bind fun r =>
 (if r = true then (zq53 to_ 0 (w64 ((t.Network.Stops.length : Int) - 1))).bind fun r1 =>
 if r1 = true then some (from_ != to_) else some false else some false).bind fun (v : Bool) =>
 some v
noncomputable def zq81 (t : Timetable) (change : Int) (from_ : Int) (to_ : Int) : Option (Bool) :=
 (zq80 t change from_ to_ 0).bind fun r =>
 some r
noncomputable def zq58_L1 (l : List Int) (n : Int) : Int → Option (Lp (Int) (Int))
 | v =>
  (if (decide (v < (l.length : Int))) = true then (idx l v).bind fun e =>
  some (decide (e < n)) else some false).bind fun (v1 : Bool) =>
  if v1 = true then
   some (.nx (w64 (v + 1)))
  else
   some (.dn v)
noncomputable def zq58 (l : List Int) (n : Int) : Option ((List Int)) :=
 (iter (zq58_L1 l n) (0 : Int)).bind fun (v2 : Int) =>
 (if (decide (v2 < (l.length : Int))) = true then (idx l v2).bind fun e1 =>
 some (e1 == n) else some false).bind fun (v3 : Bool) =>
 if v3 = true then
  some l
 else
  (chk ((0 : Int) ≤ 0 ∧ (0 : Int) ≤ v2 ∧ v2 ≤ (l.length : Int))).bind fun u5 =>
  (chk (([] : List Int).length + ((l.take v2.toNat).drop (0 : Int).toNat).length ≤ 4294967296)).bind fun u6 =>
  (chk ((([] : List Int) ++ ((l.take v2.toNat).drop (0 : Int).toNat)).length + ([n] : List Int).length ≤ 4294967296)).bind fun u7 =>
  (chk ((0 : Int) ≤ v2 ∧ v2 ≤ (l.length : Int))).bind fun u8 =>
  (chk (((([] : List Int) ++ ((l.take v2.toNat).drop (0 : Int).toNat)) ++ ([n] : List Int)).length + (l.drop v2.toNat).length ≤ 4294967296)).bind fun u9 =>
  some (((([] : List Int) ++ ((l.take v2.toNat).drop (0 : Int).toNat)) ++ ([n] : List Int)) ++ (l.drop v2.toNat))
noncomputable def zq78_L1 (t : Timetable) (from_ : Int) : (List Int) × Int → Option (Lp ((List Int) × Int) ((List Int)))
 | (k, v) =>
  if (decide (v < (t.Trips.length : Int))) = true then
   ((zq74 t v).bind fun r =>
   (zq68 r from_).bind fun r1 =>
   if (decide (0 ≤ r1)) = true then
    (zq71 t v r1).bind fun r2 =>
    (zq58 k r2).bind fun r3 =>
    some r3
   else
    some k).bind fun (k1 : List Int) =>
   some (.nx (k1, (w64 (v + 1))))
  else
   some (.dn k)
noncomputable def zq78 (t : Timetable) (from_ : Int) : Option ((List Int)) :=
 (iter (zq78_L1 t from_) (([] : List Int), (0 : Int))).bind fun (k2 : List Int) =>
 (zq59 k2).bind fun r4 =>
 some r4
noncomputable def zq76_L1 : Int × (List Int) → Option (Lp (Int × (List Int)) ((List Int)))
 | (on_, i) =>
  if (decide (on_ < (i.length : Int))) = true then
   (idx i on_).bind fun e =>
   some (.nx ((w64 (on_ + 1)), (i.set on_.toNat (-1))))
  else
   some (.dn i)
noncomputable def zq76_L2 (t : Timetable) (from_ : Int) (at_ : Int) (i2 : List Int) (s1 : Int) (time : Int) (r : (List Int)) : Bool × Int × (List Int) → Option (Lp (Bool × Int × (List Int)) ((List Int)))
 | (ready, v, k1) =>
  if (decide (v < (r.length : Int))) = true then
   (idx r v).bind fun e3 =>
   (zq71 t time v).bind fun r2 =>
   ((if ready = true then (idx k1 e3).bind fun e4 =>
   if (decide (e4 < 0)) = true then some true else (idx k1 e3).bind fun e5 =>
   some (decide (r2 < e5)) else some false).bind fun (v1 : Bool) =>
   if v1 = true then
    (idx k1 e3).bind fun e6 =>
    some (k1.set e3.toNat r2)
   else
    some k1).bind fun (k2 : List Int) =>
   (idx i2 e3).bind fun e7 =>
   (if (e3 == from_) = true then
    some at_
   else
    some (w64 (e7 + s1))).bind fun (v2 : Int) =>
   if ready = true then some (.nx (true, (w64 (v + 1)), k2)) else (idx i2 e3).bind fun e8 =>
   if (decide (0 ≤ e8)) = true then some (.nx ((decide (v2 ≤ r2)), (w64 (v + 1)), k2)) else some (.nx (false, (w64 (v + 1)), k2))
  else
   some (.dn k1)
noncomputable def zq76_L3 (t : Timetable) (from_ : Int) (at_ : Int) (i2 : List Int) (s1 : Int) : Int × (List Int) → Option (Lp (Int × (List Int)) ((List Int)))
 | (time, k) =>
  if (decide (time < (t.Trips.length : Int))) = true then
   (zq75 t time).bind fun r =>
   (iter (zq76_L2 t from_ at_ i2 s1 time r) (false, (0 : Int), k)).bind fun (k3 : List Int) =>
   some (.nx ((w64 (time + 1)), k3))
  else
   some (.dn k)
noncomputable def zq76_L4 (t : Timetable) (change : Int) (from_ : Int) (at_ : Int) (legs : Int) : Int × (List Int) → Option (Lp (Int × (List Int)) ((List Int)))
 | (stops, i2) =>
  if (decide (stops < legs)) = true then
   (chk (([] : List Int).length + i2.length ≤ 4294967296)).bind fun u1 =>
   (if (stops == 0) = true then
    some (0 : Int)
   else
    some change).bind fun (s1 : Int) =>
   (iter (zq76_L3 t from_ at_ i2 s1) ((0 : Int), (([] : List Int) ++ i2))).bind fun (k4 : List Int) =>
   some (.nx ((w64 (stops + 1)), k4))
  else
   some (.dn i2)
noncomputable def zq76 (t : Timetable) (change : Int) (from_ : Int) (at_ : Int) (legs : Int) : Option ((List Int)) :=
 (chk ((0 : Int) ≤ (t.Network.Stops.length : Int) ∧ ((t.Network.Stops.length : Int) : Int) ≤ 4294967296)).bind fun u =>
 (iter (zq76_L1) ((0 : Int), (List.replicate (t.Network.Stops.length : Int).toNat (0 : Int)))).bind fun (i1 : List Int) =>
 (idx i1 from_).bind fun e1 =>
 (iter (zq76_L4 t change from_ at_ legs) ((0 : Int), (i1.set from_.toNat at_))).bind fun (i3 : List Int) =>
 some i3
noncomputable def zq82_L1 (t : Timetable) (change : Int) (from_ : Int) (to_ : Int) (r : (List Int)) (n : Int) : Int × (List Int) × (List Choice) → Option (Lp (Int × (List Int) × (List Choice)) ((List Int) × (List Choice)))
 | (v, arrive1, v1) =>
  if (decide (v ≤ 4)) = true then
   ((idx r n).bind fun e2 =>
   (zq76 t change from_ e2 v).bind fun r2 =>
   (idx r2 to_).bind fun e3 =>
   (if (decide (0 ≤ e3)) = true then (idx arrive1 v).bind fun e4 =>
   if (decide (e4 < 0)) = true then some true else (idx arrive1 v).bind fun e5 =>
   some (decide (e3 < e5)) else some false).bind fun (v3 : Bool) =>
   if v3 = true then
    ((if ((v1.length : Int) == 0) = true then some true else (idx v1 (w64 ((v1.length : Int) - 1))).bind fun e6 =>
    some (decide (e3 < e6.Arrive))).bind fun (v5 : Bool) =>
    if v5 = true then
     (idx r n).bind fun e7 =>
     (chk (v1.length + ([(⟨e7, e3, v⟩ : Choice)] : List Choice).length ≤ 4294967296)).bind fun u =>
     some (v1 ++ ([(⟨e7, e3, v⟩ : Choice)] : List Choice))
    else
     some v1).bind fun (v4 : List Choice) =>
    (idx arrive1 v).bind fun e8 =>
    some ((arrive1.set v.toNat e3), v4)
   else
    some (arrive1, v1)).bind fun ((arrive2, v2) : (List Int) × (List Choice)) =>
   some (.nx ((w64 (v + 1)), arrive2, v2))
  else
   some (.dn (arrive1, v1))
noncomputable def zq82_L2 (t : Timetable) (change : Int) (from_ : Int) (to_ : Int) (r : (List Int)) : Int × (List Choice) × (List Int) → Option (Lp (Int × (List Choice) × (List Int)) ((List Choice)))
 | (n, now, arrive) =>
  if (decide (n < (r.length : Int))) = true then
   (iter (zq82_L1 t change from_ to_ r n) ((1 : Int), arrive, ([] : List Choice))).bind fun ((arrive3, v6) : (List Int) × (List Choice)) =>
   (chk (v6.length + now.length ≤ 4294967296)).bind fun u1 =>
   some (.nx ((w64 (n + 1)), (v6 ++ now), arrive3))
  else
   some (.dn now)
noncomputable def zq82 (t : Timetable) (change : Int) (from_ : Int) (to_ : Int) : Option ((List Choice)) :=
 (zq78 t from_).bind fun r =>
 (iter (zq82_L2 t change from_ to_ r) ((0 : Int), ([] : List Choice), ([(-1), (-1), (-1), (-1), (-1)] : List Int))).bind fun (now1 : List Choice) =>
 some now1
noncomputable def zq34 (t : Timetable) (change : Int) (from_ : Int) (to_ : Int) : Option ((List Choice) × Bool) :=
 (zq81 t change from_ to_).bind fun r =>
 if (!r) = true then
  some (([] : List Choice), false)
 else
  (zq82 t change from_ to_).bind fun r1 =>
  some (r1, true)
noncomputable def zq3_L1 (r1 : (List Choice)) : Bool × Int × Int × Int × Int → Option (Lp (Bool × Int × Int × Int × Int) (Bool × Int × Int × Int))
 | (v, v1, v2, v3, v4) =>
  if (decide (v1 < (r1.length : Int))) = true then
   ((idx r1 v1).bind fun e =>
   (if (!v) = true then some true else some (decide ((w64 (e.Arrive - e.Depart)) < (w64 (v3 - v2))))).bind fun (v9 : Bool) =>
   if v9 = true then
    some (true, e.Depart, e.Arrive, e.Legs)
   else
    some (v, v2, v3, v4)).bind fun ((v5, v6, v7, v8) : Bool × Int × Int × Int) =>
   some (.nx (v5, (w64 (v1 + 1)), v6, v7, v8))
  else
   some (.dn (v, v2, v3, v4))
noncomputable def zq3 (t : Timetable) (change : Int) (from_ : Int) (to_ : Int) : Option (Choice × Bool) :=
 (zq19 t change from_ to_).bind fun r =>
 if (!r) = true then
  some ((⟨0, 0, 0⟩ : Choice), false)
 else
  (zq28 t change from_ to_).bind fun r1 =>
  (iter (zq3_L1 r1) (false, (0 : Int), (0 : Int), (0 : Int), (0 : Int))).bind fun ((v10, v11, v12, v13) : Bool × Int × Int × Int) =>
  some ((⟨v11, v12, v13⟩ : Choice), v10)
noncomputable def zq16 (t : Timetable) (change : Int) (from_ : Int) (at_ : Int) : Option (Bool) :=
 (zq6 t).bind fun r =>
 (if r = true then (zq15 change).bind fun r1 =>
 if r1 = true then (zq20 t.Network from_).bind fun r2 =>
 if r2 = true then (zq5 at_).bind fun r3 =>
 some r3 else some false else some false else some false).bind fun (v : Bool) =>
 some v
noncomputable def zq12_L1 (r3 : (List Int)) : Int × (List Int) → Option (Lp (Int × (List Int)) ((List Int)))
 | (v, v1) =>
  if (decide (v < (r3.length : Int))) = true then
   ((idx v1 v).bind fun e =>
   if (e == 1073741824) = true then
    (idx v1 v).bind fun e1 =>
    some (v1.set v.toNat (-1))
   else
    some v1).bind fun (v2 : List Int) =>
   some (.nx ((w64 (v + 1)), v2))
  else
   some (.dn v1)
noncomputable def zq12 (t : Timetable) (change : Int) (from_ : Int) (at_ : Int) : Option ((List Int)) :=
 (zq24 t from_ at_).bind fun r2 =>
 (zq10 t change r2 4).bind fun r3 =>
 (iter (zq12_L1 r3) ((0 : Int), r3)).bind fun (v3 : List Int) =>
 (idx v3 from_).bind fun e2 =>
 some (v3.set from_.toNat at_)
noncomputable def zq2 (t : Timetable) (change : Int) (from_ : Int) (at_ : Int) : Option ((List Int) × Bool) :=
 (zq16 t change from_ at_).bind fun r =>
 if (!r) = true then
  some (([] : List Int), false)
 else
  (zq12 t change from_ at_).bind fun r1 =>
  some (r1, true)
noncomputable def v_FnProfile_L1 (r2 : (List Choice) × Bool) (k : Int) : Int → Option (Lp (Int) (Fl (Lp (Bool × Int) (Fl (Bool) (Bool))) (Unit)))
 | best =>
  if (decide (best < (r2.1.length : Int))) = true then
   (if (best != k) = true then (idx r2.1 best).bind fun e18 =>
   (idx r2.1 k).bind fun e19 =>
   if (decide (e19.Depart ≤ e18.Depart)) = true then (idx r2.1 best).bind fun e20 =>
   (idx r2.1 k).bind fun e21 =>
   if (decide (e20.Arrive ≤ e21.Arrive)) = true then (idx r2.1 best).bind fun e22 =>
   (idx r2.1 k).bind fun e23 =>
   some (decide (e22.Legs ≤ e23.Legs)) else some false else some false else some false).bind fun (v2 : Bool) =>
   if v2 = true then
    some (.dn (.ret (.dn (.ret false))))
   else
    some (.nx (w64 (best + 1)))
  else
   some (.dn (.go ()))
noncomputable def v_FnProfile_L2 (r1 : Timetable × Int × Int × Int) (r2 : (List Choice) × Bool) (r3 : (List Choice) × Bool) (r4 : Choice × Bool) : Bool × Int → Option (Lp (Bool × Int) (Fl (Bool) (Bool)))
 | (i, k) =>
  if (decide (k < (r2.1.length : Int))) = true then
   (idx r2.1 k).bind fun e2 =>
   (idx r3.1 k).bind fun e3 =>
   if (!((e2.Depart == e3.Depart) && ((e2.Arrive == e3.Arrive) && ((e2.Legs == e3.Legs) && true)))) = true then
    some (.dn (.ret false))
   else
    (if i = true then some true else (idx r2.1 k).bind fun e6 =>
    some ((e6.Depart == r4.1.Depart) && ((e6.Arrive == r4.1.Arrive) && ((e6.Legs == r4.1.Legs) && true)))).bind fun (i1 : Bool) =>
    (if r4.2 = true then (idx r2.1 k).bind fun e9 =>
    (idx r2.1 k).bind fun e10 =>
    some (decide ((w64 (e9.Arrive - e10.Depart)) < (w64 (r4.1.Arrive - r4.1.Depart)))) else some false).bind fun (v1 : Bool) =>
    if v1 = true then
     some (.dn (.ret false))
    else
     flb (iter (v_FnProfile_L1 r2 k) (0 : Int)) fun (_ : Unit) =>
     (idx r2.1 k).bind fun e27 =>
     (zq2 r1.1 r1.2.1 r1.2.2.1 e27.Depart).bind fun r10 =>
     (if (!r10.2) = true then some true else if (decide ((r10.1.length : Int) ≤ r1.2.2.2)) = true then some true else (idx r10.1 r1.2.2.2).bind fun e30 =>
     (idx r2.1 k).bind fun e31 =>
     some (decide (e31.Arrive < e30))).bind fun (v3 : Bool) =>
     if v3 = true then
      some (.dn (.ret false))
     else
      some (.nx (i1, (w64 (k + 1))))
  else
   some (.dn (.go i))
noncomputable def v_FnProfile (code : List UInt8) : Option (Bool) :=
 (zq106 code).bind fun r =>
 if r = true then
  some true
 else
  (zq33 code).bind fun r1 =>
  (zq7 r1.1 r1.2.1 r1.2.2.1 r1.2.2.2).bind fun r2 =>
  (zq34 r1.1 r1.2.1 r1.2.2.1 r1.2.2.2).bind fun r3 =>
  (if (!(r2.2 == r3.2)) = true then some true else some ((r2.1.length : Int) != (r3.1.length : Int))).bind fun (v : Bool) =>
  if v = true then
   some false
  else
   (zq3 r1.1 r1.2.1 r1.2.2.1 r1.2.2.2).bind fun r4 =>
   if (!(r4.2 == (decide (0 < (r2.1.length : Int))))) = true then
    some false
   else
    flb (iter (v_FnProfile_L2 r1 r2 r3 r4) ((!r4.2), (0 : Int))) fun (i2 : Bool) =>
    some i2
end Go.Proofs.Ytdocbkbpjdjlpaa
