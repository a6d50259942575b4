/- Models of the functions that the law reaches: plain Lean; none where the function would panic or not end. Made by program (dec.py). -/
import Derived.Test.YtimaoofeephgjaaGreatDoorAbC0
import Derived.Test.YtimaoofeephgjaaGreatDoorAbStr1
import Derived.Test.YtimaoofeephgjaaGreatDoorAbStr2
import Derived.Test.YtimaoofeephgjaaGreatDoorAbBld
namespace Go.Proofs.YtimaoofeephgjaaGreatDoor
open Go Go.Ab
set_option maxRecDepth 100000
set_option maxHeartbeats 4000000
set_option linter.unusedVariables false
set_option linter.unusedSimpArgs false
structure l1Cur where
 code_ : List UInt8
 at_ : Int
 seed_ : IK .u64
instance enc_l1Cur : Enc l1Cur := ⟨3, fun x => .agg [Enc.e x.code_, .sc (.int .i64 x.at_), .sc (.int .u64 x.seed_.v)], fun a b h => by
 simp only [D.agg.injEq, List.cons.injEq, and_true] at h
 obtain ⟨a1, a2, a3⟩ := a
 obtain ⟨b1, b2, b3⟩ := b
 obtain ⟨h1, h2, h3⟩ := h
 have q1 := Enc.inj (α := List UInt8) a1 b1 h1
 have q2 := Enc.inj (α := Int) a2 b2 h2
 have q3 := Enc.inj (α := IK .u64) a3 b3 h3
 subst q1; subst q2; subst q3; rfl⟩
structure Line where
 Name : ByteArray
 Stops : List Int
 Runs : List Int
instance enc_Line : Enc Line := ⟨3, fun x => .agg [.sc (.string x.Name), Enc.e x.Stops, Enc.e x.Runs], fun a b h => by
 simp only [D.agg.injEq, List.cons.injEq, and_true] at h
 obtain ⟨a1, a2, a3⟩ := a
 obtain ⟨b1, b2, b3⟩ := b
 obtain ⟨h1, h2, h3⟩ := h
 have q1 := Enc.inj (α := ByteArray) a1 b1 h1
 have q2 := Enc.inj (α := List Int) a2 b2 h2
 have q3 := Enc.inj (α := List Int) a3 b3 h3
 subst q1; subst q2; subst q3; rfl⟩
structure Network where
 Stops : List ByteArray
 Lines : List Line
instance enc_Network : Enc Network := ⟨2, fun x => .agg [Enc.e x.Stops, Enc.e x.Lines], fun a b h => by
 simp only [D.agg.injEq, List.cons.injEq, and_true] at h
 obtain ⟨a1, a2⟩ := a
 obtain ⟨b1, b2⟩ := b
 obtain ⟨h1, h2⟩ := h
 have q1 := Enc.inj (α := List ByteArray) a1 b1 h1
 have q2 := Enc.inj (α := List Line) a2 b2 h2
 subst q1; subst q2; rfl⟩
structure Trip where
 Id : Int
 Line : Int
 Start : Int
instance enc_Trip : Enc Trip := ⟨3, fun x => .agg [.sc (.int .i64 x.Id), .sc (.int .i64 x.Line), .sc (.int .i64 x.Start)], fun a b h => by
 simp only [D.agg.injEq, List.cons.injEq, and_true] at h
 obtain ⟨a1, a2, a3⟩ := a
 obtain ⟨b1, b2, b3⟩ := b
 obtain ⟨h1, h2, h3⟩ := h
 have q1 := Enc.inj (α := Int) a1 b1 h1
 have q2 := Enc.inj (α := Int) a2 b2 h2
 have q3 := Enc.inj (α := Int) a3 b3 h3
 subst q1; subst q2; subst q3; rfl⟩
structure Timetable where
 Network : Network
 Trips : List Trip
instance enc_Timetable : Enc Timetable := ⟨3, fun x => .agg [Enc.e x.Network.Stops, Enc.e x.Network.Lines, Enc.e x.Trips], fun a b h => by
 simp only [D.agg.injEq, List.cons.injEq, and_true] at h
 obtain ⟨⟨a1, a2⟩, a3⟩ := a
 obtain ⟨⟨b1, b2⟩, b3⟩ := b
 obtain ⟨h1, h2, h3⟩ := h
 have q1 := Enc.inj (α := List ByteArray) a1 b1 h1
 have q2 := Enc.inj (α := List Line) a2 b2 h2
 have q3 := Enc.inj (α := List Trip) a3 b3 h3
 subst q1; subst q2; subst q3; rfl⟩
instance : BxE l1Cur := ⟨fun x y h => Enc.inj x y (congrArg D.agg h)⟩
instance : BxE Line := ⟨fun x y h => Enc.inj x y (congrArg D.agg h)⟩
instance : BxE Network := ⟨fun x y h => Enc.inj x y (congrArg D.agg h)⟩
instance : BxE Trip := ⟨fun x y h => Enc.inj x y (congrArg D.agg h)⟩
instance : BxE Timetable := ⟨fun x y h => Enc.inj x y (congrArg D.agg h)⟩
instance : FlatEnc Trip := ⟨fun _ => flatDB_ok rfl⟩
noncomputable def zq86 (code : List UInt8) : Option (Bool) :=
 some (decide (65536 < (code.length : Int)))
noncomputable def zq45 (c : l1Cur) : Option (Int × l1Cur) :=
 (if (decide (c.at_ < (c.code_.length : Int))) = true then
  (idx c.code_ c.at_).bind fun e1 =>
  some (w64 ((e1.toNat : Int)))
 else
  some (0 : Int)).bind fun (v : Int) =>
 if (decide ((w64 (c.at_ + 1)) ≤ (c.code_.length : Int))) = true then
  some (v, (⟨c.code_, (w64 (c.at_ + 1)), (⟨(IntKind.u64.wrap ((IntKind.u64.wrap ((IntKind.u64.wrap (c.seed_.v * 6364136223846793005)) + (IntKind.u64.wrap (v)))) + 900900))⟩ : IK .u64)⟩ : l1Cur))
 else
  (chk ((0 : Int) ≤ 40)).bind fun u =>
  some ((w64 ((IntKind.u64.wrap ((BitVec.ofInt (IntKind.u64).bits ((IntKind.u64.wrap ((IntKind.u64.wrap ((IntKind.u64.wrap (c.seed_.v * 6364136223846793005)) + (IntKind.u64.wrap (v)))) + 900900)).fdiv (2 ^ (min (40 : Int).toNat (IntKind.u64).bits))) &&& BitVec.ofInt (IntKind.u64).bits 255).toNat : Int)))), (⟨c.code_, (w64 (c.at_ + 1)), (⟨(IntKind.u64.wrap ((IntKind.u64.wrap ((IntKind.u64.wrap (c.seed_.v * 6364136223846793005)) + (IntKind.u64.wrap (v)))) + 900900))⟩ : IK .u64)⟩ : l1Cur))
noncomputable def zq49 (c : l1Cur) (n : Int) : Option (Int × l1Cur) :=
 if (decide (n ≤ 1)) = true then
  some (0, c)
 else
  (zq45 c).bind fun r =>
  (if (decide (200 < n)) = true then
   (zq45 r.2).bind fun r1 =>
   some ((w64 ((w64 (r.1 * 256)) + r1.1)), r1.2.code_, r1.2.at_, r1.2.seed_.v)
  else
   some (r.1, r.2.code_, r.2.at_, r.2.seed_.v)).bind fun ((v, v1, v2, v3) : Int × (List UInt8) × Int × Int) =>
  (chk ((n : Int) ≠ 0)).bind fun u =>
  some ((v.tmod n), (⟨v1, v2, (⟨v3⟩ : IK .u64)⟩ : l1Cur))
noncomputable def zq53_F (rec_ : Int → Option (ByteArray)) (n : Int) : Option (ByteArray) :=
 if (decide (n < 0)) = true then
  (rec_ (w64 (0 - n))).bind fun r =>
  (chk ((str [45]).size + r.size ≤ 4294967296)).bind fun u =>
  some ((str [45]) ++ r)
 else
  if (decide (n < 10)) = true then
   (chk ((0 : Int) ≤ n ∧ (n : Int) ≤ (w64 (n + 1)) ∧ (w64 (n + 1)) ≤ ((str [48, 49, 50, 51, 52, 53, 54, 55, 56, 57]).size : Int))).bind fun u1 =>
   some ((str [48, 49, 50, 51, 52, 53, 54, 55, 56, 57]).extract n.toNat (w64 (n + 1)).toNat)
  else
   (chk ((10 : Int) ≠ 0)).bind fun u7 =>
   (rec_ (w64 (n.tdiv 10))).bind fun r2 =>
   (chk ((10 : Int) ≠ 0)).bind fun u8 =>
   (chk ((10 : Int) ≠ 0)).bind fun u9 =>
   (chk ((0 : Int) ≤ (n.tmod 10) ∧ ((n.tmod 10) : Int) ≤ (w64 ((n.tmod 10) + 1)) ∧ (w64 ((n.tmod 10) + 1)) ≤ ((str [48, 49, 50, 51, 52, 53, 54, 55, 56, 57]).size : Int))).bind fun u10 =>
   (chk (r2.size + ((str [48, 49, 50, 51, 52, 53, 54, 55, 56, 57]).extract (n.tmod 10).toNat (w64 ((n.tmod 10) + 1)).toNat).size ≤ 4294967296)).bind fun u11 =>
   some (r2 ++ ((str [48, 49, 50, 51, 52, 53, 54, 55, 56, 57]).extract (n.tmod 10).toNat (w64 ((n.tmod 10) + 1)).toNat))
noncomputable def zq53_k : Nat → Int → Option (ByteArray)
 | 0 => fun _ => none
 | n + 1 => zq53_F (zq53_k n)
noncomputable def zq53 (n : Int) : Option (ByteArray) := zq53_k 4294967296 n
noncomputable def zq65_L1 (x : Line) (stop : Int) : Int → Option (Lp (Int) (Fl (Int) (Unit)))
 | v =>
  if (decide (v < (x.Stops.length : Int))) = true then
   (idx x.Stops v).bind fun e =>
   if (e == stop) = true then
    some (.dn (.ret v))
   else
    some (.nx (w64 (v + 1)))
  else
   some (.dn (.go ()))
noncomputable def zq65 (x : Line) (stop : Int) : Option (Int) :=
 flb (iter (zq65_L1 x stop) (0 : Int)) fun (_ : Unit) =>
 some (-1)
noncomputable def zq41_L1 (name : ByteArray) (stops : Int) : Int × Int × (List UInt8) × Int × Int × (List Int) → Option (Lp (Int × Int × (List UInt8) × Int × Int × (List Int)) ((List UInt8) × Int × Int × (List Int)))
 | (v, v1, v2, v3, v4, v5) =>
  if (decide (0 < v1)) = true then
   ((zq65 (⟨name, v5, ([] : List Int)⟩ : Line) v).bind fun r2 =>
   if (decide (r2 < 0)) = true then
    (chk (v5.length + ([v] : List Int).length ≤ 4294967296)).bind fun u =>
    some (v5 ++ ([v] : List Int))
   else
    some v5).bind fun (v6 : List Int) =>
   (zq49 (⟨v2, v3, (⟨v4⟩ : IK .u64)⟩ : l1Cur) 2).bind fun r3 =>
   (chk ((stops : Int) ≠ 0)).bind fun u1 =>
   some (.nx (((w64 ((w64 (v + 1)) + r3.1)).tmod stops), (w64 (v1 - 1)), r3.2.code_, r3.2.at_, r3.2.seed_.v, v6))
  else
   some (.dn (v2, v3, v4, v5))
noncomputable def zq41_L2 (v11 : List Int) : Int × (List UInt8) × Int × Int × (List Int) → Option (Lp (Int × (List UInt8) × Int × Int × (List Int)) ((List UInt8) × Int × Int × (List Int)))
 | (v12, v13, v14, v15, v16) =>
  if (decide (v12 < (v11.length : Int))) = true then
   (zq49 (⟨v13, v14, (⟨v15⟩ : IK .u64)⟩ : l1Cur) 12).bind fun r5 =>
   (chk (v16.length + ([(w64 (3 + r5.1))] : List Int).length ≤ 4294967296)).bind fun u7 =>
   some (.nx ((w64 (v12 + 1)), r5.2.code_, r5.2.at_, r5.2.seed_.v, (v16 ++ ([(w64 (3 + r5.1))] : List Int))))
  else
   some (.dn (v13, v14, v15, v16))
noncomputable def zq41 (c : l1Cur) (name : ByteArray) (stops : Int) : Option (Line × l1Cur) :=
 (zq49 c stops).bind fun r =>
 (zq49 r.2 3).bind fun r1 =>
 (iter (zq41_L1 name stops) (r.1, (w64 (2 + r1.1)), r1.2.code_, r1.2.at_, r1.2.seed_.v, ([] : List Int))).bind fun ((v7, v8, v9, v10) : (List UInt8) × Int × Int × (List Int)) =>
 (if (decide ((v10.length : Int) < 2)) = true then
  (idx v10 0).bind fun e1 =>
  (chk ((stops : Int) ≠ 0)).bind fun u4 =>
  (chk (v10.length + ([((w64 (e1 + 1)).tmod stops)] : List Int).length ≤ 4294967296)).bind fun u5 =>
  some (v10 ++ ([((w64 (e1 + 1)).tmod stops)] : List Int))
 else
  some v10).bind fun (v11 : List Int) =>
 (iter (zq41_L2 v11) ((1 : Int), v7, v8, v9, ([] : List Int))).bind fun ((v17, v18, v19, v20) : (List UInt8) × Int × Int × (List Int)) =>
 some ((⟨name, v11, v20⟩ : Line), (⟨v17, v18, (⟨v19⟩ : IK .u64)⟩ : l1Cur))
noncomputable def zq42_L1 (name : ByteArray) (stops : Int) : Int × Int × (List UInt8) × Int × Int × (List Int) → Option (Lp (Int × Int × (List UInt8) × Int × Int × (List Int)) ((List UInt8) × Int × Int × (List Int)))
 | (v, v1, v2, v3, v4, v5) =>
  if (decide (0 < v1)) = true then
   ((zq65 (⟨name, v5, ([] : List Int)⟩ : Line) v).bind fun r2 =>
   if (decide (r2 < 0)) = true then
    (chk (v5.length + ([v] : List Int).length ≤ 4294967296)).bind fun u =>
    some (v5 ++ ([v] : List Int))
   else
    some v5).bind fun (v6 : List Int) =>
   (zq49 (⟨v2, v3, (⟨v4⟩ : IK .u64)⟩ : l1Cur) 2).bind fun r3 =>
   (chk ((stops : Int) ≠ 0)).bind fun u1 =>
   some (.nx (((w64 ((w64 (v + 1)) + r3.1)).tmod stops), (w64 (v1 - 1)), r3.2.code_, r3.2.at_, r3.2.seed_.v, v6))
  else
   some (.dn (v2, v3, v4, v5))
noncomputable def zq42_L2 (v11 : List Int) : Int × (List UInt8) × Int × Int × (List Int) → Option (Lp (Int × (List UInt8) × Int × Int × (List Int)) ((List UInt8) × Int × Int × (List Int)))
 | (v12, v13, v14, v15, v16) =>
  if (decide (v12 < (v11.length : Int))) = true then
   (zq49 (⟨v13, v14, (⟨v15⟩ : IK .u64)⟩ : l1Cur) 12).bind fun r5 =>
   (chk (v16.length + ([(w64 (3 + r5.1))] : List Int).length ≤ 4294967296)).bind fun u7 =>
   some (.nx ((w64 (v12 + 1)), r5.2.code_, r5.2.at_, r5.2.seed_.v, (v16 ++ ([(w64 (3 + r5.1))] : List Int))))
  else
   some (.dn (v13, v14, v15, v16))
noncomputable def zq42 (c : l1Cur) (name : ByteArray) (stops : Int) : Option (Line × l1Cur) :=
 (zq49 c stops).bind fun r =>
 (zq49 r.2 3).bind fun r1 =>
 (iter (zq42_L1 name stops) (r.1, (w64 (2 + r1.1)), r1.2.code_, r1.2.at_, r1.2.seed_.v, ([] : List Int))).bind fun ((v7, v8, v9, v10) : (List UInt8) × Int × Int × (List Int)) =>
 (if (decide ((v10.length : Int) < 2)) = true then
  (idx v10 0).bind fun e1 =>
  (chk ((stops : Int) ≠ 0)).bind fun u4 =>
  (chk (v10.length + ([((w64 (e1 + 1)).tmod stops)] : List Int).length ≤ 4294967296)).bind fun u5 =>
  some (v10 ++ ([((w64 (e1 + 1)).tmod stops)] : List Int))
 else
  some v10).bind fun (v11 : List Int) =>
 (iter (zq42_L2 v11) ((1 : Int), v7, v8, v9, ([] : List Int))).bind fun ((v17, v18, v19, v20) : (List UInt8) × Int × Int × (List Int)) =>
 some ((⟨name, v11, v20⟩ : Line), (⟨v17, v18, (⟨v19⟩ : IK .u64)⟩ : l1Cur))
noncomputable def zq48 (c : l1Cur) (n : Int) : Option (Bool × l1Cur) :=
 (zq49 c n).bind fun r =>
 some ((r.1 == 0), r.2)
noncomputable def zq56_L1 (list : List Int) : Int × (List Int) → Option (Lp (Int × (List Int)) ((List Int)))
 | (v, i) =>
  if (decide (0 ≤ v)) = true then
   (idx list v).bind fun e =>
   (chk (i.length + ([e] : List Int).length ≤ 4294967296)).bind fun u =>
   some (.nx ((w64 (v - 1)), (i ++ ([e] : List Int))))
  else
   some (.dn i)
noncomputable def zq56 (list : List Int) : Option ((List Int)) :=
 (iter (zq56_L1 list) ((w64 ((list.length : Int) - 1)), ([] : List Int))).bind fun (i1 : List Int) =>
 some i1
noncomputable def zq57_L1 (list : List Int) : Int × (List Int) → Option (Lp (Int × (List Int)) ((List Int)))
 | (v, i) =>
  if (decide (0 ≤ v)) = true then
   (idx list v).bind fun e =>
   (chk (i.length + ([e] : List Int).length ≤ 4294967296)).bind fun u =>
   some (.nx ((w64 (v - 1)), (i ++ ([e] : List Int))))
  else
   some (.dn i)
noncomputable def zq57 (list : List Int) : Option ((List Int)) :=
 (iter (zq57_L1 list) ((w64 ((list.length : Int) - 1)), ([] : List Int))).bind fun (i1 : List Int) =>
 some i1
noncomputable def zq54 (l : List Int) : Option ((List Int)) :=
 (chk (([] : List Int).length + l.length ≤ 4294967296)).bind fun u =>
 some (([] : List Int) ++ l)
noncomputable def zq55 (l : List Int) : Option ((List Int)) :=
 (chk (([] : List Int).length + l.length ≤ 4294967296)).bind fun u =>
 some (([] : List Int) ++ l)
noncomputable def zq63_L1 (n : Network) : Int × (List Line) → Option (Lp (Int × (List Line)) ((List Line)))
 | (v, v1) =>
  if (decide (v < (n.Lines.length : Int))) = true then
   (idx n.Lines v).bind fun e3 =>
   (idx n.Lines v).bind fun e4 =>
   (zq55 e4.Stops).bind fun r2 =>
   (idx n.Lines v).bind fun e5 =>
   (zq55 e5.Runs).bind fun r3 =>
   (chk (v1.length + ([(⟨e3.Name, r2, r3⟩ : Line)] : List Line).length ≤ 4294967296)).bind fun u2 =>
   some (.nx ((w64 (v + 1)), (v1 ++ ([(⟨e3.Name, r2, r3⟩ : Line)] : List Line))))
  else
   some (.dn v1)
noncomputable def zq63 (n : Network) : Option (Network) :=
 (chk (([] : List ByteArray).length + n.Stops.length ≤ 4294967296)).bind fun u =>
 (iter (zq63_L1 n) ((0 : Int), ([] : List Line))).bind fun (v2 : List Line) =>
 some (⟨(([] : List ByteArray) ++ n.Stops), v2⟩ : Network)
noncomputable def zq43_L1 (r : Int × l1Cur) : Int × (List UInt8) × Int × Int × (List Line) → Option (Lp (Int × (List UInt8) × Int × Int × (List Line)) ((List UInt8) × Int × Int × (List Line)))
 | (x, v, v1, v2, v3) =>
  if (decide (0 < x)) = true then
   (zq53 x).bind fun r4 =>
   (chk ((str [108]).size + r4.size ≤ 4294967296)).bind fun u3 =>
   (zq42 (⟨v, v1, (⟨v2⟩ : IK .u64)⟩ : l1Cur) ((str [108]) ++ r4) (w64 (2 + r.1))).bind fun r5 =>
   (chk (v3.length + ([r5.1] : List Line).length ≤ 4294967296)).bind fun u4 =>
   some (.nx ((w64 (x - 1)), r5.2.code_, r5.2.at_, r5.2.seed_.v, (v3 ++ ([r5.1] : List Line))))
  else
   some (.dn (v, v1, v2, v3))
noncomputable def zq43 (c : l1Cur) : Option (Network × l1Cur) :=
 (zq49 c 5).bind fun r =>
 (chk ((0 : Int) ≤ 0 ∧ (0 : Int) ≤ (w64 (2 + r.1)) ∧ (w64 (2 + r.1)) ≤ (([(str [112, 111, 114, 116]), (str [109, 105, 108, 108]), (str [112, 97, 114, 107]), (str [104, 97, 108, 108]), (str [100, 111, 99, 107]), (str [102, 97, 105, 114])] : List ByteArray).length : Int))).bind fun u =>
 (zq49 r.2 3).bind fun r1 =>
 (iter (zq43_L1 r) ((w64 (1 + r1.1)), r1.2.code_, r1.2.at_, r1.2.seed_.v, ([] : List Line))).bind fun ((v4, v5, v6, v7) : (List UInt8) × Int × Int × (List Line)) =>
 ((zq48 (⟨v4, v5, (⟨v6⟩ : IK .u64)⟩ : l1Cur) 2).bind fun r6 =>
 if r6.1 = true then
  (idx v7 0).bind fun e =>
  (zq57 e.Stops).bind fun r9 =>
  (zq57 e.Runs).bind fun r10 =>
  (chk (v7.length + ([(⟨(str [114, 49]), r9, r10⟩ : Line)] : List Line).length ≤ 4294967296)).bind fun u6 =>
  some (r6.2.code_, r6.2.at_, r6.2.seed_.v, (v7 ++ ([(⟨(str [114, 49]), r9, r10⟩ : Line)] : List Line)))
 else
  some (r6.2.code_, r6.2.at_, r6.2.seed_.v, v7)).bind fun ((v8, v9, v10, v11) : (List UInt8) × Int × Int × (List Line)) =>
 (zq63 (⟨((([(str [112, 111, 114, 116]), (str [109, 105, 108, 108]), (str [112, 97, 114, 107]), (str [104, 97, 108, 108]), (str [100, 111, 99, 107]), (str [102, 97, 105, 114])] : List ByteArray).take (w64 (2 + r.1)).toNat).drop (0 : Int).toNat), v11⟩ : Network)).bind fun r11 =>
 some ((⟨r11.Stops, r11.Lines⟩ : Network), (⟨v8, v9, (⟨v10⟩ : IK .u64)⟩ : l1Cur))
noncomputable def zq51_L1 (r : Network × l1Cur) : Int × Int × (List UInt8) × Int × Int × (List Trip) → Option (Lp (Int × Int × (List UInt8) × Int × Int × (List Trip)) ((List UInt8) × Int × Int × (List Trip)))
 | (n, v, v1, v2, v3, v4) =>
  if (decide (0 < v)) = true then
   (zq49 (⟨v1, v2, (⟨v3⟩ : IK .u64)⟩ : l1Cur) 3).bind fun r2 =>
   (zq49 r2.2 (r.1.Lines.length : Int)).bind fun r5 =>
   (zq49 r5.2 24).bind fun r6 =>
   (chk (v4.length + ([(⟨(w64 ((w64 (n + 1)) + r2.1)), r5.1, (w64 (360 + (w64 (5 * r6.1))))⟩ : Trip)] : List Trip).length ≤ 4294967296)).bind fun u1 =>
   some (.nx ((w64 ((w64 (n + 1)) + r2.1)), (w64 (v - 1)), r6.2.code_, r6.2.at_, r6.2.seed_.v, (v4 ++ ([(⟨(w64 ((w64 (n + 1)) + r2.1)), r5.1, (w64 (360 + (w64 (5 * r6.1))))⟩ : Trip)] : List Trip))))
  else
   some (.dn (v1, v2, v3, v4))
noncomputable def zq51 (c : l1Cur) : Option (Timetable × l1Cur) :=
 (zq43 c).bind fun r =>
 (zq49 r.2 8).bind fun r1 =>
 (iter (zq51_L1 r) ((0 : Int), r1.1, r1.2.code_, r1.2.at_, r1.2.seed_.v, ([] : List Trip))).bind fun ((v5, v6, v7, v8) : (List UInt8) × Int × Int × (List Trip)) =>
 some ((⟨(⟨r.1.Stops, r.1.Lines⟩ : Network), v8⟩ : Timetable), (⟨v5, v6, (⟨v7⟩ : IK .u64)⟩ : l1Cur))
noncomputable def zq37 (c : l1Cur) (list : List Int) : Option (Int × l1Cur) :=
 (zq49 c (list.length : Int)).bind fun r =>
 (idx list r.1).bind fun e =>
 some (e, r.2)
noncomputable def zq46 (c : l1Cur) (list : List ByteArray) : Option (ByteArray × l1Cur) :=
 (zq49 c (list.length : Int)).bind fun r =>
 (idx list r.1).bind fun e =>
 some (e, r.2)
noncomputable def zq47 (c : l1Cur) (list : List ByteArray) : Option (ByteArray × l1Cur) :=
 (zq49 c (list.length : Int)).bind fun r =>
 (idx list r.1).bind fun e =>
 some (e, r.2)
noncomputable def zq64_L1 (n : Network) : Int × (List Line) → Option (Lp (Int × (List Line)) ((List Line)))
 | (v, v1) =>
  if (decide (v < (n.Lines.length : Int))) = true then
   (idx n.Lines v).bind fun e3 =>
   (idx n.Lines v).bind fun e4 =>
   (zq54 e4.Stops).bind fun r2 =>
   (idx n.Lines v).bind fun e5 =>
   (zq54 e5.Runs).bind fun r3 =>
   (chk (v1.length + ([(⟨e3.Name, r2, r3⟩ : Line)] : List Line).length ≤ 4294967296)).bind fun u2 =>
   some (.nx ((w64 (v + 1)), (v1 ++ ([(⟨e3.Name, r2, r3⟩ : Line)] : List Line))))
  else
   some (.dn v1)
noncomputable def zq64 (n : Network) : Option (Network) :=
 (chk (([] : List ByteArray).length + n.Stops.length ≤ 4294967296)).bind fun u =>
 (iter (zq64_L1 n) ((0 : Int), ([] : List Line))).bind fun (v2 : List Line) =>
 some (⟨(([] : List ByteArray) ++ n.Stops), v2⟩ : Network)
noncomputable def zq44_L1 (r : Int × l1Cur) : Int × (List UInt8) × Int × Int × (List Line) → Option (Lp (Int × (List UInt8) × Int × Int × (List Line)) ((List UInt8) × Int × Int × (List Line)))
 | (x, v, v1, v2, v3) =>
  if (decide (0 < x)) = true then
   (zq53 x).bind fun r4 =>
   (chk ((str [108]).size + r4.size ≤ 4294967296)).bind fun u3 =>
   (zq42 (⟨v, v1, (⟨v2⟩ : IK .u64)⟩ : l1Cur) ((str [108]) ++ r4) (w64 (2 + r.1))).bind fun r5 =>
   (chk (v3.length + ([r5.1] : List Line).length ≤ 4294967296)).bind fun u4 =>
   some (.nx ((w64 (x - 1)), r5.2.code_, r5.2.at_, r5.2.seed_.v, (v3 ++ ([r5.1] : List Line))))
  else
   some (.dn (v, v1, v2, v3))
noncomputable def zq44 (c : l1Cur) : Option (Network × l1Cur) :=
 (zq49 c 5).bind fun r =>
 (chk ((0 : Int) ≤ 0 ∧ (0 : Int) ≤ (w64 (2 + r.1)) ∧ (w64 (2 + r.1)) ≤ (([(str [112, 111, 114, 116]), (str [109, 105, 108, 108]), (str [112, 97, 114, 107]), (str [104, 97, 108, 108]), (str [100, 111, 99, 107]), (str [102, 97, 105, 114])] : List ByteArray).length : Int))).bind fun u =>
 (zq49 r.2 3).bind fun r1 =>
 (iter (zq44_L1 r) ((w64 (1 + r1.1)), r1.2.code_, r1.2.at_, r1.2.seed_.v, ([] : List Line))).bind fun ((v4, v5, v6, v7) : (List UInt8) × Int × Int × (List Line)) =>
 ((zq48 (⟨v4, v5, (⟨v6⟩ : IK .u64)⟩ : l1Cur) 2).bind fun r6 =>
 if r6.1 = true then
  (idx v7 0).bind fun e =>
  (zq57 e.Stops).bind fun r9 =>
  (zq57 e.Runs).bind fun r10 =>
  (chk (v7.length + ([(⟨(str [114, 49]), r9, r10⟩ : Line)] : List Line).length ≤ 4294967296)).bind fun u6 =>
  some (r6.2.code_, r6.2.at_, r6.2.seed_.v, (v7 ++ ([(⟨(str [114, 49]), r9, r10⟩ : Line)] : List Line)))
 else
  some (r6.2.code_, r6.2.at_, r6.2.seed_.v, v7)).bind fun ((v8, v9, v10, v11) : (List UInt8) × Int × Int × (List Line)) =>
 (zq64 (⟨((([(str [112, 111, 114, 116]), (str [109, 105, 108, 108]), (str [112, 97, 114, 107]), (str [104, 97, 108, 108]), (str [100, 111, 99, 107]), (str [102, 97, 105, 114])] : List ByteArray).take (w64 (2 + r.1)).toNat).drop (0 : Int).toNat), v11⟩ : Network)).bind fun r11 =>
 some ((⟨r11.Stops, r11.Lines⟩ : Network), (⟨v8, v9, (⟨v10⟩ : IK .u64)⟩ : l1Cur))
noncomputable def zq38 (c : l1Cur) (list : List Int) : Option (Int × l1Cur) :=
 (zq49 c (list.length : Int)).bind fun r =>
 (idx list r.1).bind fun e =>
 some (e, r.2)
noncomputable def zq39_L1 (r : Network × l1Cur) : Int × (List UInt8) × Int × Int × (List Line) → Option (Lp (Int × (List UInt8) × Int × Int × (List Line)) ((List UInt8) × Int × Int × (List Line)))
 | (v7, v8, v9, v10, v11) =>
  (zq49 (⟨v8, v9, (⟨v10⟩ : IK .u64)⟩ : l1Cur) 2).bind fun r16 =>
  (if (decide ((v11.length : Int) < (w64 (5 + r16.1)))) = true then some (decide (v7 < 7)) else some false).bind fun (v12 : Bool) =>
  if v12 = true then
   (zq53 v7).bind fun r19 =>
   (chk ((str [120]).size + r19.size ≤ 4294967296)).bind fun u3 =>
   (zq41 r16.2 ((str [120]) ++ r19) (r.1.Stops.length : Int)).bind fun r20 =>
   (chk (v11.length + ([(⟨r20.1.Name, r20.1.Stops, r20.1.Runs⟩ : Line)] : List Line).length ≤ 4294967296)).bind fun u4 =>
   some (.nx ((w64 (v7 + 1)), r20.2.code_, r20.2.at_, r20.2.seed_.v, (v11 ++ ([(⟨r20.1.Name, r20.1.Stops, r20.1.Runs⟩ : Line)] : List Line))))
  else
   some (.dn (r16.2.code_, r16.2.at_, r16.2.seed_.v, v11))
noncomputable def zq39 (c : l1Cur) : Option (Network × l1Cur) :=
 (zq44 c).bind fun r =>
 (zq49 r.2 (r.1.Lines.length : Int)).bind fun r1 =>
 (idx r.1.Lines r1.1).bind fun e =>
 flb ((zq49 r1.2 24).bind fun r2 =>
 if (r2.1 == 0) = true then
  (zq47 r2.2 ([(str [109, 105, 108, 108]), (str []), (str [65]), (str [97, 98, 99, 100, 101, 102, 103, 104]), (str [97, 98, 99, 100, 101, 102, 103, 104, 105])] : List ByteArray)).bind fun r4 =>
  (idx r.1.Stops 0).bind fun e2 =>
  some (.go (r4.2.code_, r4.2.at_, r4.2.seed_.v, e.Name, (r.1.Stops.set (0 : Int).toNat r4.1), r.1.Lines, e.Runs))
 else
  if (r2.1 == 1) = true then
   (zq47 r2.2 ([(str [114, 49]), (str [108, 49]), (str []), (str [88])] : List ByteArray)).bind fun r5 =>
   some (.go (r5.2.code_, r5.2.at_, r5.2.seed_.v, r5.1, r.1.Stops, r.1.Lines, e.Runs))
  else
   if (r2.1 == 2) = true then
    (zq49 r2.2 (e.Stops.length : Int)).bind fun r8 =>
    (zq49 r8.2 10).bind fun r9 =>
    (idx e.Stops r8.1).bind fun e4 =>
    some (.go (r9.2.code_, r9.2.at_, r9.2.seed_.v, e.Name, r.1.Stops, (r.1.Lines.set r1.1.toNat (⟨e.Name, (e.Stops.set r8.1.toNat (w64 (r9.1 - 1))), e.Runs⟩ : Line)), ((⟨e.Name, (e.Stops.set r8.1.toNat (w64 (r9.1 - 1))), e.Runs⟩ : Line).Runs)))
   else
    if (r2.1 == 3) = true then
     (zq49 r2.2 (e.Runs.length : Int)).bind fun r12 =>
     (zq38 r12.2 ([0, 60, 61, (-1)] : List Int)).bind fun r13 =>
     (idx e.Runs r12.1).bind fun e6 =>
     some (.go (r13.2.code_, r13.2.at_, r13.2.seed_.v, e.Name, r.1.Stops, (r.1.Lines.set r1.1.toNat (⟨e.Name, e.Stops, (e.Runs.set r12.1.toNat r13.1)⟩ : Line)), ((⟨e.Name, e.Stops, (e.Runs.set r12.1.toNat r13.1)⟩ : Line).Runs)))
    else
     if (r2.1 == 4) = true then
      (chk (e.Runs.length + ([3] : List Int).length ≤ 4294967296)).bind fun u =>
      some (.go (r2.2.code_, r2.2.at_, r2.2.seed_.v, e.Name, r.1.Stops, r.1.Lines, (e.Runs ++ ([3] : List Int))))
     else
      if (r2.1 == 5) = true then
       some (.ret ((⟨r.1.Stops, ([] : List Line)⟩ : Network), r2.2))
      else
       if (r2.1 == 6) = true then
        (iter (zq39_L1 r) ((0 : Int), r2.2.code_, r2.2.at_, r2.2.seed_.v, r.1.Lines)).bind fun ((v13, v14, v15, v16) : (List UInt8) × Int × Int × (List Line)) =>
        some (.ret ((⟨r.1.Stops, v16⟩ : Network), (⟨v13, v14, (⟨v15⟩ : IK .u64)⟩ : l1Cur)))
       else
        some (.go (r2.2.code_, r2.2.at_, r2.2.seed_.v, e.Name, r.1.Stops, r.1.Lines, e.Runs))) fun ((v, v1, v2, v3, v4, v5, v6) : (List UInt8) × Int × Int × ByteArray × (List ByteArray) × (List Line) × (List Int)) =>
 (idx v5 r1.1).bind fun e9 =>
 some ((⟨v4, (v5.set r1.1.toNat (⟨v3, e9.Stops, v6⟩ : Line))⟩ : Network), (⟨v, v1, (⟨v2⟩ : IK .u64)⟩ : l1Cur))
noncomputable def zq40_L1 : Int × (List UInt8) × Int × Int × (List Trip) → Option (Lp (Int × (List UInt8) × Int × Int × (List Trip)) ((List UInt8) × Int × Int × (List Trip)))
 | (v8, v9, v10, v11, v12) =>
  (zq49 (⟨v9, v10, (⟨v11⟩ : IK .u64)⟩ : l1Cur) 2).bind fun r8 =>
  (if (decide ((v12.length : Int) < (w64 (12 + r8.1)))) = true then some (decide (v8 < 14)) else some false).bind fun (v13 : Bool) =>
  if v13 = true then
   (chk (v12.length + ([(⟨(w64 (100 + v8)), 0, (w64 (400 + v8))⟩ : Trip)] : List Trip).length ≤ 4294967296)).bind fun u =>
   some (.nx ((w64 (v8 + 1)), r8.2.code_, r8.2.at_, r8.2.seed_.v, (v12 ++ ([(⟨(w64 (100 + v8)), 0, (w64 (400 + v8))⟩ : Trip)] : List Trip))))
  else
   some (.dn (r8.2.code_, r8.2.at_, r8.2.seed_.v, v12))
noncomputable def zq40 (c : l1Cur) : Option (Timetable × l1Cur) :=
 (zq51 c).bind fun r =>
 if ((r.1.Trips.length : Int) == 0) = true then
  some ((⟨(⟨r.1.Network.Stops, r.1.Network.Lines⟩ : Network), r.1.Trips⟩ : Timetable), r.2)
 else
  (zq49 r.2 (r.1.Trips.length : Int)).bind fun r1 =>
  (idx r.1.Trips r1.1).bind fun e =>
  flb ((zq49 r1.2 24).bind fun r2 =>
  if (r2.1 == 0) = true then
   (zq37 r2.2 ([0, 999, 1000, 2] : List Int)).bind fun r3 =>
   some (.go (r3.2.code_, r3.2.at_, r3.2.seed_.v, r.1.Network.Lines, r3.1, e.Line, e.Start, r.1.Network.Stops))
  else
   if (r2.1 == 1) = true then
    (zq49 r2.2 7).bind fun r4 =>
    some (.go (r4.2.code_, r4.2.at_, r4.2.seed_.v, r.1.Network.Lines, e.Id, (w64 (r4.1 - 1)), e.Start, r.1.Network.Stops))
   else
    if (r2.1 == 2) = true then
     (zq37 r2.2 ([(-1), 0, 1799, 1798, 1800] : List Int)).bind fun r5 =>
     some (.go (r5.2.code_, r5.2.at_, r5.2.seed_.v, r.1.Network.Lines, e.Id, e.Line, r5.1, r.1.Network.Stops))
    else
     if (r2.1 == 3) = true then
      (zq39 r2.2).bind fun r6 =>
      some (.go (r6.2.code_, r6.2.at_, r6.2.seed_.v, r6.1.Lines, e.Id, e.Line, e.Start, r6.1.Stops))
     else
      if (r2.1 == 4) = true then
       (iter (zq40_L1) ((0 : Int), r2.2.code_, r2.2.at_, r2.2.seed_.v, r.1.Trips)).bind fun ((v14, v15, v16, v17) : (List UInt8) × Int × Int × (List Trip)) =>
       some (.ret ((⟨(⟨r.1.Network.Stops, r.1.Network.Lines⟩ : Network), v17⟩ : Timetable), (⟨v14, v15, (⟨v16⟩ : IK .u64)⟩ : l1Cur)))
      else
       some (.go (r2.2.code_, r2.2.at_, r2.2.seed_.v, r.1.Network.Lines, e.Id, e.Line, e.Start, r.1.Network.Stops))) fun ((v, v1, v2, v3, v4, v5, v6, v7) : (List UInt8) × Int × Int × (List Line) × Int × Int × Int × (List ByteArray)) =>
  (idx r.1.Trips r1.1).bind fun e2 =>
  some ((⟨(⟨v7, v3⟩ : Network), (r.1.Trips.set r1.1.toNat (⟨v4, v5, v6⟩ : Trip))⟩ : Timetable), (⟨v, v1, (⟨v2⟩ : IK .u64)⟩ : l1Cur))
noncomputable def zq33 (code : List UInt8) : Option (Timetable) :=
 (zq40 (⟨code, 0, (⟨0⟩ : IK .u64)⟩ : l1Cur)).bind fun r =>
 some (⟨(⟨r.1.Network.Stops, r.1.Network.Lines⟩ : Network), r.1.Trips⟩ : Timetable)
noncomputable def zq31 (code : List UInt8) : Option (Timetable) :=
 (zq33 code).bind fun r =>
 some (⟨(⟨r.Network.Stops, r.Network.Lines⟩ : Network), r.Trips⟩ : Timetable)
noncomputable def zq29 (n : Int) (lo : Int) (hi : Int) : Option (Bool) :=
 (if (decide (lo ≤ n)) = true then some (decide (n ≤ hi)) else some false).bind fun (v : Bool) =>
 some v
noncomputable def zq18_L1 (s : ByteArray) : Int → Option (Lp (Int) (Fl (Bool) (Unit)))
 | v1 =>
  if (decide (v1 < (s.size : Int))) = true then
   (chk ((0 : Int) ≤ v1 ∧ v1 < (s.size : Int))).bind fun u =>
   (if (decide (97 ≤ ((s.data.toList.getD v1.toNat 0).toNat : Int))) = true then (chk ((0 : Int) ≤ v1 ∧ v1 < (s.size : Int))).bind fun u1 =>
   some (decide (((s.data.toList.getD v1.toNat 0).toNat : Int) ≤ 122)) else some false).bind fun (v2 : Bool) =>
   (if (!v2) = true then if (v1 == 0) = true then some true else (chk ((0 : Int) ≤ v1 ∧ v1 < (s.size : Int))).bind fun u2 =>
   if (decide (((s.data.toList.getD v1.toNat 0).toNat : Int) < 48)) = true then some true else (chk ((0 : Int) ≤ v1 ∧ v1 < (s.size : Int))).bind fun u3 =>
   some (decide (57 < ((s.data.toList.getD v1.toNat 0).toNat : Int))) else some false).bind fun (v3 : Bool) =>
   if v3 = true then
    some (.dn (.ret false))
   else
    some (.nx (w64 (v1 + 1)))
  else
   some (.dn (.go ()))
noncomputable def zq18 (s : ByteArray) : Option (Bool) :=
 (if (decide ((s.size : Int) < 1)) = true then some true else some (decide (8 < (s.size : Int)))).bind fun (v : Bool) =>
 if v = true then
  some false
 else
  flb (iter (zq18_L1 s) (0 : Int)) fun (_ : Unit) =>
  some true
noncomputable def zq78_L1 (s : List ByteArray) (v : ByteArray) : Int → Option (Lp (Int) (Fl (Int) (Unit)))
 | v1 =>
  if (decide (v1 < (s.length : Int))) = true then
   (idx s v1).bind fun e =>
   if (v.toList == e.toList) = true then
    some (.dn (.ret v1))
   else
    some (.nx (w64 (v1 + 1)))
  else
   some (.dn (.go ()))
noncomputable def zq78 (s : List ByteArray) (v : ByteArray) : Option (Int) :=
 flb (iter (zq78_L1 s v) (0 : Int)) fun (_ : Unit) =>
 some (-1)
noncomputable def zq9_L1 (names : List ByteArray) : Int → Option (Lp (Int) (Fl (Bool) (Unit)))
 | v =>
  if (decide (v < (names.length : Int))) = true then
   (idx names v).bind fun e =>
   (zq18 e).bind fun r =>
   (if (!r) = true then some true else (zq78 names e).bind fun r1 =>
   some (r1 != v)).bind fun (v1 : Bool) =>
   if v1 = true then
    some (.dn (.ret false))
   else
    some (.nx (w64 (v + 1)))
  else
   some (.dn (.go ()))
noncomputable def zq9 (names : List ByteArray) : Option (Bool) :=
 flb (iter (zq9_L1 names) (0 : Int)) fun (_ : Unit) =>
 some true
noncomputable def zq21_L1 (n : Network) : Int × (List ByteArray) → Option (Lp (Int × (List ByteArray)) ((List ByteArray)))
 | (v, i) =>
  if (decide (v < (n.Lines.length : Int))) = true then
   (idx n.Lines v).bind fun e =>
   (idx i v).bind fun e1 =>
   some (.nx ((w64 (v + 1)), (i.set v.toNat e.Name)))
  else
   some (.dn i)
noncomputable def zq21 (n : Network) : Option ((List ByteArray)) :=
 (chk ((0 : Int) ≤ (n.Lines.length : Int) ∧ ((n.Lines.length : Int) : Int) ≤ 4294967296)).bind fun u =>
 (iter (zq21_L1 n) ((0 : Int), (List.replicate (n.Lines.length : Int).toNat (ByteArray.empty : ByteArray)))).bind fun (i1 : List ByteArray) =>
 some i1
noncomputable def zq19 (n : Network) (stop : Int) : Option (Bool) :=
 (if (decide (0 ≤ stop)) = true then some (decide (stop < (n.Stops.length : Int))) else some false).bind fun (v : Bool) =>
 some v
noncomputable def zq77_L1 (s : List Int) (v : Int) : Int → Option (Lp (Int) (Fl (Int) (Unit)))
 | v1 =>
  if (decide (v1 < (s.length : Int))) = true then
   (idx s v1).bind fun e =>
   if (v == e) = true then
    some (.dn (.ret v1))
   else
    some (.nx (w64 (v1 + 1)))
  else
   some (.dn (.go ()))
noncomputable def zq77 (s : List Int) (v : Int) : Option (Int) :=
 flb (iter (zq77_L1 s v) (0 : Int)) fun (_ : Unit) =>
 some (-1)
noncomputable def zq20_L1 (n : Network) (l : Line) : Int → Option (Lp (Int) (Fl (Bool) (Unit)))
 | v1 =>
  if (decide (v1 < (l.Stops.length : Int))) = true then
   (idx l.Stops v1).bind fun e =>
   (zq19 n e).bind fun r1 =>
   (if (!r1) = true then some true else (zq77 l.Stops e).bind fun r2 =>
   some (r2 != v1)).bind fun (v2 : Bool) =>
   if v2 = true then
    some (.dn (.ret false))
   else
    some (.nx (w64 (v1 + 1)))
  else
   some (.dn (.go ()))
noncomputable def zq20_L2 (l : Line) : Int → Option (Lp (Int) (Fl (Bool) (Unit)))
 | v3 =>
  if (decide (v3 < (l.Runs.length : Int))) = true then
   (idx l.Runs v3).bind fun e2 =>
   (zq29 e2 1 60).bind fun r4 =>
   if (!r4) = true then
    some (.dn (.ret false))
   else
    some (.nx (w64 (v3 + 1)))
  else
   some (.dn (.go ()))
noncomputable def zq20 (n : Network) (l : Line) : Option (Bool) :=
 (zq29 (l.Stops.length : Int) 2 6).bind fun r =>
 (if (!r) = true then some true else some ((l.Runs.length : Int) != (w64 ((l.Stops.length : Int) - 1)))).bind fun (v : Bool) =>
 if v = true then
  some false
 else
  flb (iter (zq20_L1 n l) (0 : Int)) fun (_ : Unit) =>
  flb (iter (zq20_L2 l) (0 : Int)) fun (_ : Unit) =>
  some true
noncomputable def zq2_L1 (n : Network) : Int → Option (Lp (Int) (Fl (Bool) (Unit)))
 | v1 =>
  if (decide (v1 < (n.Lines.length : Int))) = true then
   (idx n.Lines v1).bind fun e =>
   (zq20 n e).bind fun r5 =>
   if (!r5) = true then
    some (.dn (.ret false))
   else
    some (.nx (w64 (v1 + 1)))
  else
   some (.dn (.go ()))
noncomputable def zq2 (n : Network) : Option (Bool) :=
 (zq29 (n.Stops.length : Int) 2 8).bind fun r =>
 (if (!r) = true then some true else (zq29 (n.Lines.length : Int) 1 5).bind fun r1 =>
 if (!r1) = true then some true else (zq9 n.Stops).bind fun r2 =>
 if (!r2) = true then some true else (zq21 n).bind fun r3 =>
 (zq9 r3).bind fun r4 =>
 some (!r4)).bind fun (v : Bool) =>
 if v = true then
  some false
 else
  flb (iter (zq2_L1 n) (0 : Int)) fun (_ : Unit) =>
  some true
noncomputable def zq17 (n : Network) (line : Int) : Option (Bool) :=
 (if (decide (0 ≤ line)) = true then some (decide (line < (n.Lines.length : Int))) else some false).bind fun (v : Bool) =>
 some v
noncomputable def zq3 (t : Int) : Option (Bool) :=
 (zq29 t 0 1799).bind fun r =>
 some r
noncomputable def zq28_L1 (list : List Int) : Int × Int → Option (Lp (Int × Int) (Int))
 | (v, v1) =>
  if (decide (v1 < (list.length : Int))) = true then
   (idx list v1).bind fun e =>
   some (.nx ((w64 (v + e)), (w64 (v1 + 1))))
  else
   some (.dn v)
noncomputable def zq28 (list : List Int) : Option (Int) :=
 (iter (zq28_L1 list) ((0 : Int), (0 : Int))).bind fun (v2 : Int) =>
 some v2
noncomputable def zq14 (t : Timetable) (x : Trip) : Option (Int) :=
 (idx t.Network.Lines x.Line).bind fun e1 =>
 (zq28 e1.Runs).bind fun r1 =>
 some (w64 (x.Start + r1))
noncomputable def zq10_L1 (t : Timetable) : Int × Int → Option (Lp (Int × Int) (Fl (Bool) (Unit)))
 | (v, v1) =>
  if (decide (v1 < (t.Trips.length : Int))) = true then
   (idx t.Trips v1).bind fun e =>
   (if (decide (e.Id ≤ v)) = true then some true else if (decide (999 < e.Id)) = true then some true else (zq17 t.Network e.Line).bind fun r =>
   if (!r) = true then some true else (zq3 e.Start).bind fun r1 =>
   if (!r1) = true then some true else (zq14 t e).bind fun r2 =>
   (zq3 r2).bind fun r3 =>
   some (!r3)).bind fun (v2 : Bool) =>
   if v2 = true then
    some (.dn (.ret false))
   else
    some (.nx (e.Id, (w64 (v1 + 1))))
  else
   some (.dn (.go ()))
noncomputable def zq10 (t : Timetable) : Option (Bool) :=
 if (decide (12 < (t.Trips.length : Int))) = true then
  some false
 else
  flb (iter (zq10_L1 t) ((0 : Int), (0 : Int))) fun (_ : Unit) =>
  some true
noncomputable def zq4 (t : Timetable) : Option (Bool) :=
 (zq2 t.Network).bind fun r =>
 (if r = true then (zq10 t).bind fun r1 =>
 some r1 else some false).bind fun (v : Bool) =>
 some v
noncomputable def zq82 (b : List UInt8) (s : ByteArray) : Option (Int × NilErr × (List UInt8)) :=
 writeStringM b s
noncomputable def zq79 (i : Int) : Option (ByteArray) :=
 itoaM i
noncomputable def zq81 (b : List UInt8) (c : UInt8) : Option (NilErr × (List UInt8)) :=
 writeByteM b c
noncomputable def zq80 (b : List UInt8) : Option (ByteArray) :=
 bldStringM b
noncomputable def zq15_L1 (n : Network) : Int × (List UInt8) → Option (Lp (Int × (List UInt8)) ((List UInt8)))
 | (v, v1) =>
  if (decide (v < (n.Stops.length : Int))) = true then
   (idx n.Stops v).bind fun e =>
   (chk ((str [115, 116, 111, 112, 32]).size + e.size ≤ 4294967296)).bind fun u =>
   (chk (((str [115, 116, 111, 112, 32]) ++ e).size + (str [10]).size ≤ 4294967296)).bind fun u1 =>
   (zq82 v1 (((str [115, 116, 111, 112, 32]) ++ e) ++ (str [10]))).bind fun r =>
   some (.nx ((w64 (v + 1)), r.2.2))
  else
   some (.dn v1)
noncomputable def zq15_L2 (n : Network) (e1 : Line) : Int × (List UInt8) → Option (Lp (Int × (List UInt8)) ((List UInt8)))
 | (v5, v6) =>
  if (decide (v5 < (e1.Stops.length : Int))) = true then
   (idx e1.Stops v5).bind fun e2 =>
   (if (decide (0 < v5)) = true then
    (idx e1.Runs (w64 (v5 - 1))).bind fun e3 =>
    (zq79 e3).bind fun r2 =>
    (chk ((str [32]).size + r2.size ≤ 4294967296)).bind fun u3 =>
    (zq82 v6 ((str [32]) ++ r2)).bind fun r3 =>
    some r3.2.2
   else
    some v6).bind fun (v7 : List UInt8) =>
   (idx n.Stops e2).bind fun e4 =>
   (chk ((str [32]).size + e4.size ≤ 4294967296)).bind fun u4 =>
   (zq82 v7 ((str [32]) ++ e4)).bind fun r4 =>
   some (.nx ((w64 (v5 + 1)), r4.2.2))
  else
   some (.dn v6)
noncomputable def zq15_L3 (n : Network) : Int × (List UInt8) → Option (Lp (Int × (List UInt8)) ((List UInt8)))
 | (v3, v4) =>
  if (decide (v3 < (n.Lines.length : Int))) = true then
   (idx n.Lines v3).bind fun e1 =>
   (chk ((str [108, 105, 110, 101, 32]).size + e1.Name.size ≤ 4294967296)).bind fun u2 =>
   (zq82 v4 ((str [108, 105, 110, 101, 32]) ++ e1.Name)).bind fun r1 =>
   (iter (zq15_L2 n e1) ((0 : Int), r1.2.2)).bind fun (v8 : List UInt8) =>
   (zq81 v8 (mkU8 10)).bind fun r5 =>
   some (.nx ((w64 (v3 + 1)), r5.2))
  else
   some (.dn v4)
noncomputable def zq15 (n : Network) : Option (ByteArray) :=
 (iter (zq15_L1 n) ((0 : Int), ([] : List UInt8))).bind fun (v2 : List UInt8) =>
 (iter (zq15_L3 n) ((0 : Int), v2)).bind fun (v9 : List UInt8) =>
 (zq80 v9).bind fun r6 =>
 some r6
noncomputable def zq22 (t : Timetable) (x : Trip) : Option (Line) :=
 (idx t.Network.Lines x.Line).bind fun e =>
 some e
noncomputable def zq13 (n : Int) : Option (ByteArray) :=
 (chk ((10 : Int) ≠ 0)).bind fun u =>
 (chk ((10 : Int) ≠ 0)).bind fun u1 =>
 some (bytS ([(mkU8 (IntKind.u8.wrap ((w64 (48 + (w64 (n.tdiv 10))))))), (mkU8 (IntKind.u8.wrap ((w64 (48 + (n.tmod 10))))))] : List UInt8))
noncomputable def zq12 (t : Int) : Option (ByteArray) :=
 (chk ((60 : Int) ≠ 0)).bind fun u =>
 (zq13 (w64 (t.tdiv 60))).bind fun r =>
 (chk (r.size + (str [58]).size ≤ 4294967296)).bind fun u1 =>
 (chk ((60 : Int) ≠ 0)).bind fun u2 =>
 (zq13 (t.tmod 60)).bind fun r1 =>
 (chk ((r ++ (str [58])).size + r1.size ≤ 4294967296)).bind fun u3 =>
 some ((r ++ (str [58])) ++ r1)
noncomputable def zq16_L1 (t : Timetable) : Int × (List UInt8) → Option (Lp (Int × (List UInt8)) ((List UInt8)))
 | (v, v1) =>
  if (decide (v < (t.Trips.length : Int))) = true then
   (idx t.Trips v).bind fun e =>
   (zq79 e.Id).bind fun r6 =>
   (chk ((str [116, 114, 105, 112, 32]).size + r6.size ≤ 4294967296)).bind fun u6 =>
   (chk (((str [116, 114, 105, 112, 32]) ++ r6).size + (str [32]).size ≤ 4294967296)).bind fun u7 =>
   (zq22 t e).bind fun r7 =>
   (chk ((((str [116, 114, 105, 112, 32]) ++ r6) ++ (str [32])).size + r7.Name.size ≤ 4294967296)).bind fun u8 =>
   (chk (((((str [116, 114, 105, 112, 32]) ++ r6) ++ (str [32])) ++ r7.Name).size + (str [32]).size ≤ 4294967296)).bind fun u9 =>
   (zq12 e.Start).bind fun r8 =>
   (chk ((((((str [116, 114, 105, 112, 32]) ++ r6) ++ (str [32])) ++ r7.Name) ++ (str [32])).size + r8.size ≤ 4294967296)).bind fun u10 =>
   (chk (((((((str [116, 114, 105, 112, 32]) ++ r6) ++ (str [32])) ++ r7.Name) ++ (str [32])) ++ r8).size + (str [10]).size ≤ 4294967296)).bind fun u11 =>
   (zq82 v1 (((((((str [116, 114, 105, 112, 32]) ++ r6) ++ (str [32])) ++ r7.Name) ++ (str [32])) ++ r8) ++ (str [10]))).bind fun r9 =>
   some (.nx ((w64 (v + 1)), r9.2.2))
  else
   some (.dn v1)
noncomputable def zq16 (t : Timetable) : Option (ByteArray) :=
 (zq15 t.Network).bind fun r =>
 (zq82 ([] : List UInt8) r).bind fun r1 =>
 (iter (zq16_L1 t) ((0 : Int), r1.2.2)).bind fun (v2 : List UInt8) =>
 (zq80 v2).bind fun r10 =>
 some r10
noncomputable def zq1 (t : Timetable) : Option (ByteArray × Bool) :=
 (zq4 t).bind fun r =>
 if (!r) = true then
  some ((str []), false)
 else
  (zq16 t).bind fun r1 =>
  some (r1, true)
noncomputable def zq84 (s : ByteArray) (suffix : ByteArray) : Option (ByteArray × Bool) :=
 cutSuffixM s suffix
noncomputable def zq85 (s : ByteArray) (sep : ByteArray) : Option ((List ByteArray)) :=
 splitM s sep
noncomputable def zq27 (s : ByteArray) : Option ((List ByteArray) × Bool) :=
 (zq84 s (str [10])).bind fun r =>
 (if (!r.2) = true then some true else some (decide (4000 < (s.size : Int)))).bind fun (v : Bool) =>
 if v = true then
  some (([] : List ByteArray), false)
 else
  (zq85 r.1 (str [10])).bind fun r1 =>
  some (r1, true)
noncomputable def zq83 (s : ByteArray) (prefix_ : ByteArray) : Option (ByteArray × Bool) :=
 cutPrefixM s prefix_
noncomputable def zq23_L1 (s : ByteArray) : Int × Int → Option (Lp (Int × Int) (Fl (Int × ByteArray × Bool) (Int × Int)))
 | (i, v) =>
  (if (decide (v < (s.size : Int))) = true then (chk ((0 : Int) ≤ v ∧ v < (s.size : Int))).bind fun u =>
  if (decide (48 ≤ ((s.data.toList.getD v.toNat 0).toNat : Int))) = true then (chk ((0 : Int) ≤ v ∧ v < (s.size : Int))).bind fun u1 =>
  some (decide (((s.data.toList.getD v.toNat 0).toNat : Int) ≤ 57)) else some false else some false).bind fun (v1 : Bool) =>
  if v1 = true then
   (if (v == 6) = true then some true else if (v == 1) = true then some (i == 0) else some false).bind fun (v2 : Bool) =>
   if v2 = true then
    some (.dn (.ret (0, (str []), false)))
   else
    (chk ((0 : Int) ≤ v ∧ v < (s.size : Int))).bind fun u2 =>
    some (.nx ((w64 ((w64 (i * 10)) + (w64 ((IntKind.u8.wrap (((s.data.toList.getD v.toNat 0).toNat : Int) - 48)))))), (w64 (v + 1))))
  else
   some (.dn (.go (i, v)))
noncomputable def zq23 (s : ByteArray) : Option (Int × ByteArray × Bool) :=
 flb (iter (zq23_L1 s) ((0 : Int), (0 : Int))) fun ((i1, v3) : Int × Int) =>
 (chk ((0 : Int) ≤ v3 ∧ v3 ≤ (s.size : Int))).bind fun u4 =>
 some (i1, (s.extract v3.toNat s.size), (decide (0 < v3)))
noncomputable def zq5 (s : ByteArray) : Option (Int × Bool) :=
 (zq83 s (str [45])).bind fun r =>
 (zq23 r.1).bind fun r1 =>
 (if (!r1.2.2) = true then some true else if (!(r1.2.1.toList == (str []).toList)) = true then some true else if r.2 = true then some (r1.1 == 0) else some false).bind fun (v : Bool) =>
 if v = true then
  some (0, false)
 else
  (if r.2 = true then
   some (w64 (0 - r1.1))
  else
   some r1.1).bind fun (rest : Int) =>
  some (rest, true)
noncomputable def zq24_L1 (n : Network) (words : List ByteArray) : Int × (List Int) × (List Int) → Option (Lp (Int × (List Int) × (List Int)) (Fl (Line × Bool) ((List Int) × (List Int))))
 | (v1, v2, v3) =>
  if (decide (v1 < ((words.drop (2 : Int).toNat).length : Int))) = true then
   flb ((idx (words.drop (2 : Int).toNat) v1).bind fun e1 =>
   (chk ((2 : Int) ≠ 0)).bind fun u2 =>
   if ((v1.tmod 2) == 1) = true then
    (zq5 e1).bind fun r =>
    if (!r.2) = true then
     some (.ret (.dn (.ret ((⟨ByteArray.empty, ([] : List Int), ([] : List Int)⟩ : Line), false))))
    else
     (chk (v3.length + ([r.1] : List Int).length ≤ 4294967296)).bind fun u3 =>
     some (.go (v2, (v3 ++ ([r.1] : List Int))))
   else
    (zq78 n.Stops e1).bind fun r3 =>
    if (decide (r3 < 0)) = true then
     some (.ret (.dn (.ret ((⟨ByteArray.empty, ([] : List Int), ([] : List Int)⟩ : Line), false))))
    else
     (chk (v2.length + ([r3] : List Int).length ≤ 4294967296)).bind fun u4 =>
     some (.go ((v2 ++ ([r3] : List Int)), v3))) fun ((v4, v5) : (List Int) × (List Int)) =>
   some (.nx ((w64 (v1 + 1)), v4, v5))
  else
   some (.dn (.go (v2, v3)))
noncomputable def zq24 (n : Network) (words : List ByteArray) : Option (Line × Bool) :=
 (if (decide ((words.length : Int) < 3)) = true then some true else (chk ((2 : Int) ≠ 0)).bind fun u =>
 some (((words.length : Int).tmod 2) == 0)).bind fun (v : Bool) =>
 if v = true then
  some ((⟨ByteArray.empty, ([] : List Int), ([] : List Int)⟩ : Line), false)
 else
  (idx words 1).bind fun e =>
  (chk ((0 : Int) ≤ 2 ∧ 2 ≤ (words.length : Int))).bind fun u1 =>
  flb (iter (zq24_L1 n words) ((0 : Int), ([] : List Int), ([] : List Int))) fun ((v7, v8) : (List Int) × (List Int)) =>
  some ((⟨e, v7, v8⟩ : Line), true)
noncomputable def zq7_L1 (s : ByteArray) : Int → Option (Lp (Int) (Fl (Int × Bool) (Unit)))
 | v1 =>
  if (decide (v1 < 4)) = true then
   (chk ((0 : Int) ≤ v1 ∧ (v1 : Int) < 4)).bind fun u1 =>
   (idx ([0, 1, 3, 4] : List Int) v1).bind fun e =>
   (chk ((0 : Int) ≤ e ∧ e < (s.size : Int))).bind fun u2 =>
   (if (decide (((s.data.toList.getD e.toNat 0).toNat : Int) < 48)) = true then some true else (chk ((0 : Int) ≤ e ∧ e < (s.size : Int))).bind fun u3 =>
   some (decide (57 < ((s.data.toList.getD e.toNat 0).toNat : Int)))).bind fun (v2 : Bool) =>
   if v2 = true then
    some (.dn (.ret (0, false)))
   else
    some (.nx (w64 (v1 + 1)))
  else
   some (.dn (.go ()))
noncomputable def zq7 (s : ByteArray) : Option (Int × Bool) :=
 (if ((s.size : Int) != 5) = true then some true else (chk ((0 : Int) ≤ 2 ∧ 2 < (s.size : Int))).bind fun u =>
 some (((s.data.toList.getD (2 : Int).toNat 0).toNat : Int) != 58)).bind fun (v : Bool) =>
 if v = true then
  some (0, false)
 else
  flb (iter (zq7_L1 s) (0 : Int)) fun (_ : Unit) =>
  (chk ((0 : Int) ≤ 0 ∧ 0 < (s.size : Int))).bind fun u8 =>
  (chk ((0 : Int) ≤ 1 ∧ 1 < (s.size : Int))).bind fun u9 =>
  (chk ((0 : Int) ≤ 3 ∧ 3 < (s.size : Int))).bind fun u10 =>
  (chk ((0 : Int) ≤ 4 ∧ 4 < (s.size : Int))).bind fun u11 =>
  (chk ((0 : Int) ≤ 3 ∧ 3 < (s.size : Int))).bind fun u12 =>
  (if (decide (53 < ((s.data.toList.getD (3 : Int).toNat 0).toNat : Int))) = true then some true else (zq3 (w64 ((w64 ((w64 ((w64 ((w64 ((w64 ((IntKind.u8.wrap (((s.data.toList.getD (0 : Int).toNat 0).toNat : Int) - 48)))) * 10)) + (w64 ((IntKind.u8.wrap (((s.data.toList.getD (1 : Int).toNat 0).toNat : Int) - 48)))))) * 60)) + (w64 ((w64 ((IntKind.u8.wrap (((s.data.toList.getD (3 : Int).toNat 0).toNat : Int) - 48)))) * 10)))) + (w64 ((IntKind.u8.wrap (((s.data.toList.getD (4 : Int).toNat 0).toNat : Int) - 48))))))).bind fun r1 =>
  some (!r1)).bind fun (v3 : Bool) =>
  if v3 = true then
   some (0, false)
  else
   some ((w64 ((w64 ((w64 ((w64 ((w64 ((w64 ((IntKind.u8.wrap (((s.data.toList.getD (0 : Int).toNat 0).toNat : Int) - 48)))) * 10)) + (w64 ((IntKind.u8.wrap (((s.data.toList.getD (1 : Int).toNat 0).toNat : Int) - 48)))))) * 60)) + (w64 ((w64 ((IntKind.u8.wrap (((s.data.toList.getD (3 : Int).toNat 0).toNat : Int) - 48)))) * 10)))) + (w64 ((IntKind.u8.wrap (((s.data.toList.getD (4 : Int).toNat 0).toNat : Int) - 48)))))), true)
noncomputable def zq26 (n : Network) (words : List ByteArray) : Option (Trip × Bool) :=
 if ((words.length : Int) != 4) = true then
  some ((⟨0, 0, 0⟩ : Trip), false)
 else
  (idx words 1).bind fun e =>
  (zq5 e).bind fun r =>
  if (!r.2) = true then
   some ((⟨0, 0, 0⟩ : Trip), false)
  else
   (zq21 n).bind fun r3 =>
   (idx words 2).bind fun e2 =>
   (zq78 r3 e2).bind fun r4 =>
   (idx words 3).bind fun e3 =>
   (zq7 e3).bind fun r5 =>
   (if (decide (r4 < 0)) = true then some true else some (!r5.2)).bind fun (v : Bool) =>
   if v = true then
    some ((⟨0, 0, 0⟩ : Trip), false)
   else
    some ((⟨r.1, r4, r5.1⟩ : Trip), true)
noncomputable def zq11 (t : Timetable) : Option (Timetable × Bool) :=
 (zq4 t).bind fun r =>
 if (!r) = true then
  some ((⟨(⟨([] : List ByteArray), ([] : List Line)⟩ : Network), ([] : List Trip)⟩ : Timetable), false)
 else
  some (t, true)
noncomputable def zq25_L1 (r : (List ByteArray) × Bool) : Int × (List ByteArray) × (List Line) × (List Trip) → Option (Lp (Int × (List ByteArray) × (List Line) × (List Trip)) (Fl (Timetable × Bool) ((List ByteArray) × (List Line) × (List Trip))))
 | (v, v1, v2, v3) =>
  if (decide (v < (r.1.length : Int))) = true then
   (idx r.1 v).bind fun e =>
   (zq85 e (str [32])).bind fun r1 =>
   ((idx r1 0).bind fun e1 =>
   if (e1.toList == (str [115, 116, 111, 112]).toList) = true then
    (if ((r1.length : Int) == 2) = true then if ((v2.length : Int) == 0) = true then some ((v3.length : Int) == 0) else some false else some false).bind fun (t1 : Bool) =>
    if t1 = true then
     (idx r1 1).bind fun e3 =>
     (chk (v1.length + ([e3] : List ByteArray).length ≤ 4294967296)).bind fun u1 =>
     some (t1, (v1 ++ ([e3] : List ByteArray)), v2, v3)
    else
     some (t1, v1, v2, v3)
   else
    if (e1.toList == (str [108, 105, 110, 101]).toList) = true then
     (zq24 (⟨v1, v2⟩ : Network) r1).bind fun r2 =>
     (if r2.2 = true then some ((v3.length : Int) == 0) else some false).bind fun (t2 : Bool) =>
     (chk (v2.length + ([r2.1] : List Line).length ≤ 4294967296)).bind fun u2 =>
     some (t2, v1, (v2 ++ ([r2.1] : List Line)), v3)
    else
     if (e1.toList == (str [116, 114, 105, 112]).toList) = true then
      (zq26 (⟨v1, v2⟩ : Network) r1).bind fun r3 =>
      (chk (v3.length + ([r3.1] : List Trip).length ≤ 4294967296)).bind fun u3 =>
      some (r3.2, v1, v2, (v3 ++ ([r3.1] : List Trip)))
     else
      some (false, v1, v2, v3)).bind fun ((t, v4, v5, v6) : Bool × (List ByteArray) × (List Line) × (List Trip)) =>
   if (!t) = true then
    some (.dn (.ret ((⟨(⟨([] : List ByteArray), ([] : List Line)⟩ : Network), ([] : List Trip)⟩ : Timetable), false)))
   else
    some (.nx ((w64 (v + 1)), v4, v5, v6))
  else
   some (.dn (.go (v1, v2, v3)))
noncomputable def zq25 (s : ByteArray) : Option (Timetable × Bool) :=
 (zq27 s).bind fun r =>
 if (!r.2) = true then
  some ((⟨(⟨([] : List ByteArray), ([] : List Line)⟩ : Network), ([] : List Trip)⟩ : Timetable), false)
 else
  flb (iter (zq25_L1 r) ((0 : Int), ([] : List ByteArray), ([] : List Line), ([] : List Trip))) fun ((v7, v8, v9) : (List ByteArray) × (List Line) × (List Trip)) =>
  (zq11 (⟨(⟨v7, v8⟩ : Network), v9⟩ : Timetable)).bind fun r5 =>
  some (r5.1, r5.2)
noncomputable def zq8 (s : ByteArray) : Option (Timetable × Bool) :=
 (zq25 s).bind fun r =>
 some (r.1, r.2)
noncomputable def zq52 (x : Int) (a : Int) (b : Int) : Option (Bool) :=
 (if (decide (a ≤ x)) = true then some (decide (x ≤ b)) else some false).bind fun (v : Bool) =>
 some v
noncomputable def zq62_L1 (s : ByteArray) : Int → Option (Lp (Int) (Fl (Bool) (Unit)))
 | v1 =>
  if (decide (v1 < (s.size : Int))) = true then
   (chk ((0 : Int) ≤ v1 ∧ v1 < (s.size : Int))).bind fun u2 =>
   (if (decide (((s.data.toList.getD v1.toNat 0).toNat : Int) < 97)) = true then (chk ((0 : Int) ≤ v1 ∧ v1 < (s.size : Int))).bind fun u3 =>
   if (decide (((s.data.toList.getD v1.toNat 0).toNat : Int) < 48)) = true then some true else (chk ((0 : Int) ≤ v1 ∧ v1 < (s.size : Int))).bind fun u4 =>
   some (decide (57 < ((s.data.toList.getD v1.toNat 0).toNat : Int))) else (chk ((0 : Int) ≤ v1 ∧ v1 < (s.size : Int))).bind fun u5 =>
   if (decide (122 < ((s.data.toList.getD v1.toNat 0).toNat : Int))) = true then (chk ((0 : Int) ≤ v1 ∧ v1 < (s.size : Int))).bind fun u6 =>
   if (decide (((s.data.toList.getD v1.toNat 0).toNat : Int) < 48)) = true then some true else (chk ((0 : Int) ≤ v1 ∧ v1 < (s.size : Int))).bind fun u7 =>
   some (decide (57 < ((s.data.toList.getD v1.toNat 0).toNat : Int))) else some false).bind fun (v2 : Bool) =>
   if v2 = true then
    some (.dn (.ret false))
   else
    some (.nx (w64 (v1 + 1)))
  else
   some (.dn (.go ()))
noncomputable def zq62 (s : ByteArray) : Option (Bool) :=
 (zq52 (s.size : Int) 1 8).bind fun r =>
 (if (!r) = true then some true else (chk ((0 : Int) ≤ 0 ∧ 0 < (s.size : Int))).bind fun u =>
 if (decide (((s.data.toList.getD (0 : Int).toNat 0).toNat : Int) < 97)) = true then some true else (chk ((0 : Int) ≤ 0 ∧ 0 < (s.size : Int))).bind fun u1 =>
 some (decide (122 < ((s.data.toList.getD (0 : Int).toNat 0).toNat : Int)))).bind fun (v : Bool) =>
 if v = true then
  some false
 else
  flb (iter (zq62_L1 s) (0 : Int)) fun (_ : Unit) =>
  some true
noncomputable def zq58_L1 (list : List ByteArray) (name : ByteArray) : Int → Option (Lp (Int) (Fl (Int) (Unit)))
 | v =>
  if (decide (v < (list.length : Int))) = true then
   (idx list v).bind fun e =>
   if (e.toList == name.toList) = true then
    some (.dn (.ret v))
   else
    some (.nx (w64 (v + 1)))
  else
   some (.dn (.go ()))
noncomputable def zq58 (list : List ByteArray) (name : ByteArray) : Option (Int) :=
 flb (iter (zq58_L1 list name) (0 : Int)) fun (_ : Unit) =>
 some (-1)
noncomputable def zq60_L1 (x : Line) (stops : Int) : Int → Option (Lp (Int) (Fl (Bool) (Unit)))
 | v1 =>
  if (decide (v1 < (x.Stops.length : Int))) = true then
   (idx x.Stops v1).bind fun e2 =>
   (zq52 e2 0 (w64 (stops - 1))).bind fun r4 =>
   (if (!r4) = true then some true else (idx x.Stops v1).bind fun e3 =>
   (zq65 x e3).bind fun r5 =>
   some (r5 != v1)).bind fun (v2 : Bool) =>
   if v2 = true then
    some (.dn (.ret false))
   else
    some (.nx (w64 (v1 + 1)))
  else
   some (.dn (.go ()))
noncomputable def zq60_L2 (x : Line) : Int → Option (Lp (Int) (Fl (Bool) (Unit)))
 | v3 =>
  if (decide (v3 < (x.Runs.length : Int))) = true then
   (idx x.Runs v3).bind fun e5 =>
   (zq52 e5 1 60).bind fun r7 =>
   if (!r7) = true then
    some (.dn (.ret false))
   else
    some (.nx (w64 (v3 + 1)))
  else
   some (.dn (.go ()))
noncomputable def zq60 (x : Line) (stops : Int) : Option (Bool) :=
 (zq62 x.Name).bind fun r =>
 (if (!r) = true then some true else (zq52 (x.Stops.length : Int) 2 6).bind fun r1 =>
 if (!r1) = true then some true else some ((x.Runs.length : Int) != (w64 ((x.Stops.length : Int) - 1)))).bind fun (v : Bool) =>
 if v = true then
  some false
 else
  flb (iter (zq60_L1 x stops) (0 : Int)) fun (_ : Unit) =>
  flb (iter (zq60_L2 x) (0 : Int)) fun (_ : Unit) =>
  some true
noncomputable def zq61_L1 (n : Network) (name : ByteArray) : Int → Option (Lp (Int) (Fl (Int) (Unit)))
 | v =>
  if (decide (v < (n.Lines.length : Int))) = true then
   (idx n.Lines v).bind fun e =>
   if (e.Name.toList == name.toList) = true then
    some (.dn (.ret v))
   else
    some (.nx (w64 (v + 1)))
  else
   some (.dn (.go ()))
noncomputable def zq61 (n : Network) (name : ByteArray) : Option (Int) :=
 flb (iter (zq61_L1 n name) (0 : Int)) fun (_ : Unit) =>
 some (-1)
noncomputable def zq59_L1 (n : Network) : Int → Option (Lp (Int) (Fl (Bool) (Unit)))
 | i =>
  if (decide (i < (n.Stops.length : Int))) = true then
   (idx n.Stops i).bind fun e2 =>
   (zq62 e2).bind fun r4 =>
   (if (!r4) = true then some true else (idx n.Stops i).bind fun e3 =>
   (zq58 n.Stops e3).bind fun r5 =>
   some (r5 != i)).bind fun (v1 : Bool) =>
   if v1 = true then
    some (.dn (.ret false))
   else
    some (.nx (w64 (i + 1)))
  else
   some (.dn (.go ()))
noncomputable def zq59_L2 (n : Network) : Int → Option (Lp (Int) (Fl (Bool) (Unit)))
 | v2 =>
  if (decide (v2 < (n.Lines.length : Int))) = true then
   (idx n.Lines v2).bind fun e7 =>
   (zq60 e7 (n.Stops.length : Int)).bind fun r9 =>
   (if (!r9) = true then some true else (idx n.Lines v2).bind fun e8 =>
   (zq61 n e8.Name).bind fun r10 =>
   some (r10 != v2)).bind fun (v3 : Bool) =>
   if v3 = true then
    some (.dn (.ret false))
   else
    some (.nx (w64 (v2 + 1)))
  else
   some (.dn (.go ()))
noncomputable def zq59 (n : Network) : Option (Bool) :=
 (zq52 (n.Stops.length : Int) 2 8).bind fun r =>
 (if (!r) = true then some true else (zq52 (n.Lines.length : Int) 1 5).bind fun r1 =>
 some (!r1)).bind fun (v : Bool) =>
 if v = true then
  some false
 else
  flb (iter (zq59_L1 n) (0 : Int)) fun (_ : Unit) =>
  flb (iter (zq59_L2 n) (0 : Int)) fun (_ : Unit) =>
  some true
noncomputable def zq68 (t : Int) : Option (Bool) :=
 (zq52 t 0 1799).bind fun r =>
 some r
noncomputable def zq73 (t : Timetable) (i : Int) : Option (Line) :=
 (idx t.Trips i).bind fun e2 =>
 (idx t.Network.Lines e2.Line).bind fun e3 =>
 some e3
noncomputable def zq74 (t : Timetable) (i : Int) : Option ((List Int)) :=
 (zq73 t i).bind fun r =>
 some r.Stops
noncomputable def zq66_L1 (x : Line) (to_ : Int) : Int × Int → Option (Lp (Int × Int) (Int))
 | (v, v1) =>
  if (decide (v1 < to_)) = true then
   (idx x.Runs v1).bind fun e =>
   some (.nx ((w64 (v + e)), (w64 (v1 + 1))))
  else
   some (.dn v)
noncomputable def zq66 (x : Line) (from_ : Int) (to_ : Int) : Option (Int) :=
 (iter (zq66_L1 x to_) ((0 : Int), from_)).bind fun (v2 : Int) =>
 some v2
noncomputable def zq70 (t : Timetable) (i : Int) (k : Int) : Option (Int) :=
 (idx t.Trips i).bind fun e1 =>
 (zq73 t i).bind fun r2 =>
 (zq66 r2 0 k).bind fun r3 =>
 some (w64 (e1.Start + r3))
noncomputable def zq71 (t : Timetable) (i : Int) : Option (Int) :=
 (zq74 t i).bind fun r2 =>
 (zq70 t i (w64 ((r2.length : Int) - 1))).bind fun r3 =>
 some r3
noncomputable def zq72_L1 (t : Timetable) : Int → Option (Lp (Int) (Fl (Bool) (Unit)))
 | x =>
  if (decide (x < (t.Trips.length : Int))) = true then
   (idx t.Trips x).bind fun e =>
   (zq52 e.Id 1 999).bind fun r6 =>
   (if (!r6) = true then some true else (zq52 e.Line 0 (w64 ((t.Network.Lines.length : Int) - 1))).bind fun r7 =>
   if (!r7) = true then some true else (zq68 e.Start).bind fun r8 =>
   if (!r8) = true then some true else (zq71 t x).bind fun r9 =>
   (zq68 r9).bind fun r10 =>
   if (!r10) = true then some true else if (decide (0 < x)) = true then (idx t.Trips (w64 (x - 1))).bind fun e2 =>
   some (decide (e.Id ≤ e2.Id)) else some false).bind fun (v1 : Bool) =>
   if v1 = true then
    some (.dn (.ret false))
   else
    some (.nx (w64 (x + 1)))
  else
   some (.dn (.go ()))
noncomputable def zq72 (t : Timetable) : Option (Bool) :=
 (zq59 t.Network).bind fun r =>
 (if (!r) = true then some true else some (decide (12 < (t.Trips.length : Int)))).bind fun (v : Bool) =>
 if v = true then
  some false
 else
  flb (iter (zq72_L1 t) (0 : Int)) fun (_ : Unit) =>
  some true
noncomputable def zq36 (t : Timetable) : Option (Bool) :=
 (zq72 t).bind fun r =>
 some r
noncomputable def zq89_L1 (a : List ByteArray) (b : List ByteArray) : Int → Option (Lp (Int) (Fl (Bool) (Unit)))
 | v =>
  if (decide (v < (a.length : Int))) = true then
   (idx a v).bind fun e2 =>
   (idx b v).bind fun e3 =>
   if (!(e2.toList == e3.toList)) = true then
    some (.dn (.ret false))
   else
    some (.nx (w64 (v + 1)))
  else
   some (.dn (.go ()))
noncomputable def zq89 (a : List ByteArray) (b : List ByteArray) : Option (Bool) :=
 if ((a.length : Int) != (b.length : Int)) = true then
  some false
 else
  flb (iter (zq89_L1 a b) (0 : Int)) fun (_ : Unit) =>
  some true
noncomputable def zq87_L1 (a : List Int) (b : List Int) : Int → Option (Lp (Int) (Fl (Bool) (Unit)))
 | v =>
  if (decide (v < (a.length : Int))) = true then
   (idx a v).bind fun e2 =>
   (idx b v).bind fun e3 =>
   if (e2 != e3) = true then
    some (.dn (.ret false))
   else
    some (.nx (w64 (v + 1)))
  else
   some (.dn (.go ()))
noncomputable def zq87 (a : List Int) (b : List Int) : Option (Bool) :=
 if ((a.length : Int) != (b.length : Int)) = true then
  some false
 else
  flb (iter (zq87_L1 a b) (0 : Int)) fun (_ : Unit) =>
  some true
noncomputable def zq88_L1 (a : Network) (b : Network) : Int → Option (Lp (Int) (Fl (Bool) (Unit)))
 | v1 =>
  if (decide (v1 < (a.Lines.length : Int))) = true then
   (idx a.Lines v1).bind fun e6 =>
   (idx b.Lines v1).bind fun e7 =>
   (if (!(e6.Name.toList == e7.Name.toList)) = true then some true else (idx a.Lines v1).bind fun e8 =>
   (idx b.Lines v1).bind fun e9 =>
   (zq87 e8.Stops e9.Stops).bind fun r3 =>
   if (!r3) = true then some true else (idx a.Lines v1).bind fun e10 =>
   (idx b.Lines v1).bind fun e11 =>
   (zq87 e10.Runs e11.Runs).bind fun r4 =>
   some (!r4)).bind fun (v2 : Bool) =>
   if v2 = true then
    some (.dn (.ret false))
   else
    some (.nx (w64 (v1 + 1)))
  else
   some (.dn (.go ()))
noncomputable def zq88 (a : Network) (b : Network) : Option (Bool) :=
 (zq89 a.Stops b.Stops).bind fun r =>
 (if (!r) = true then some true else some ((a.Lines.length : Int) != (b.Lines.length : Int))).bind fun (v : Bool) =>
 if v = true then
  some false
 else
  flb (iter (zq88_L1 a b) (0 : Int)) fun (_ : Unit) =>
  some true
noncomputable def zq90_L1 (a : Timetable) (b : Timetable) : Int → Option (Lp (Int) (Fl (Bool) (Unit)))
 | v1 =>
  if (decide (v1 < (a.Trips.length : Int))) = true then
   (idx a.Trips v1).bind fun e2 =>
   (idx b.Trips v1).bind fun e3 =>
   if (!((e2.Id == e3.Id) && ((e2.Line == e3.Line) && ((e2.Start == e3.Start) && true)))) = true then
    some (.dn (.ret false))
   else
    some (.nx (w64 (v1 + 1)))
  else
   some (.dn (.go ()))
noncomputable def zq90 (a : Timetable) (b : Timetable) : Option (Bool) :=
 (zq88 a.Network b.Network).bind fun r =>
 (if (!r) = true then some true else some ((a.Trips.length : Int) != (b.Trips.length : Int))).bind fun (v : Bool) =>
 if v = true then
  some false
 else
  flb (iter (zq90_L1 a b) (0 : Int)) fun (_ : Unit) =>
  some true
noncomputable def zq75_L1 (n : Network) : ByteArray × Int → Option (Lp (ByteArray × Int) (ByteArray))
 | (i, i1) =>
  if (decide (i1 < (n.Stops.length : Int))) = true then
   (chk (i.size + (str [115, 116, 111, 112, 32]).size ≤ 4294967296)).bind fun u =>
   (idx n.Stops i1).bind fun e =>
   (chk ((i ++ (str [115, 116, 111, 112, 32])).size + e.size ≤ 4294967296)).bind fun u1 =>
   (chk (((i ++ (str [115, 116, 111, 112, 32])) ++ e).size + (str [10]).size ≤ 4294967296)).bind fun u2 =>
   some (.nx ((((i ++ (str [115, 116, 111, 112, 32])) ++ e) ++ (str [10])), (w64 (i1 + 1))))
  else
   some (.dn i)
noncomputable def zq75_L2 (n : Network) (e1 : Line) : ByteArray × Int → Option (Lp (ByteArray × Int) (ByteArray))
 | (i4, v) =>
  if (decide (v < (e1.Stops.length : Int))) = true then
   ((chk (i4.size + (str [32]).size ≤ 4294967296)).bind fun u7 =>
   (idx e1.Stops v).bind fun e4 =>
   (idx n.Stops e4).bind fun e5 =>
   (chk ((i4 ++ (str [32])).size + e5.size ≤ 4294967296)).bind fun u8 =>
   if (decide (v < (e1.Runs.length : Int))) = true then
    (chk (((i4 ++ (str [32])) ++ e5).size + (str [32]).size ≤ 4294967296)).bind fun u9 =>
    (idx e1.Runs v).bind fun e6 =>
    (zq53 e6).bind fun r =>
    (chk ((((i4 ++ (str [32])) ++ e5) ++ (str [32])).size + r.size ≤ 4294967296)).bind fun u10 =>
    some ((((i4 ++ (str [32])) ++ e5) ++ (str [32])) ++ r)
   else
    some ((i4 ++ (str [32])) ++ e5)).bind fun (i5 : ByteArray) =>
   some (.nx (i5, (w64 (v + 1))))
  else
   some (.dn i4)
noncomputable def zq75_L3 (n : Network) : ByteArray × Int → Option (Lp (ByteArray × Int) (ByteArray))
 | (i3, x) =>
  if (decide (x < (n.Lines.length : Int))) = true then
   (idx n.Lines x).bind fun e1 =>
   (chk (i3.size + (str [108, 105, 110, 101, 32]).size ≤ 4294967296)).bind fun u3 =>
   (chk ((i3 ++ (str [108, 105, 110, 101, 32])).size + e1.Name.size ≤ 4294967296)).bind fun u4 =>
   (iter (zq75_L2 n e1) (((i3 ++ (str [108, 105, 110, 101, 32])) ++ e1.Name), (0 : Int))).bind fun (i6 : ByteArray) =>
   (chk (i6.size + (str [10]).size ≤ 4294967296)).bind fun u11 =>
   some (.nx ((i6 ++ (str [10])), (w64 (x + 1))))
  else
   some (.dn i3)
noncomputable def zq75 (n : Network) : Option (ByteArray) :=
 (iter (zq75_L1 n) ((str []), (0 : Int))).bind fun (i2 : ByteArray) =>
 (iter (zq75_L3 n) (i2, (0 : Int))).bind fun (i7 : ByteArray) =>
 some i7
noncomputable def zq69 (n : Int) : Option (ByteArray) :=
 (chk ((10 : Int) ≠ 0)).bind fun u7 =>
 (chk ((10 : Int) ≠ 0)).bind fun u8 =>
 (chk ((0 : Int) ≤ (w64 (n.tdiv 10)) ∧ ((w64 (n.tdiv 10)) : Int) ≤ (w64 ((w64 (n.tdiv 10)) + 1)) ∧ (w64 ((w64 (n.tdiv 10)) + 1)) ≤ ((str [48, 49, 50, 51, 52, 53, 54, 55, 56, 57]).size : Int))).bind fun u9 =>
 (chk ((10 : Int) ≠ 0)).bind fun u10 =>
 (chk ((10 : Int) ≠ 0)).bind fun u11 =>
 (chk ((0 : Int) ≤ (n.tmod 10) ∧ ((n.tmod 10) : Int) ≤ (w64 ((n.tmod 10) + 1)) ∧ (w64 ((n.tmod 10) + 1)) ≤ ((str [48, 49, 50, 51, 52, 53, 54, 55, 56, 57]).size : Int))).bind fun u12 =>
 (chk (((str [48, 49, 50, 51, 52, 53, 54, 55, 56, 57]).extract (w64 (n.tdiv 10)).toNat (w64 ((w64 (n.tdiv 10)) + 1)).toNat).size + ((str [48, 49, 50, 51, 52, 53, 54, 55, 56, 57]).extract (n.tmod 10).toNat (w64 ((n.tmod 10) + 1)).toNat).size ≤ 4294967296)).bind fun u13 =>
 some (((str [48, 49, 50, 51, 52, 53, 54, 55, 56, 57]).extract (w64 (n.tdiv 10)).toNat (w64 ((w64 (n.tdiv 10)) + 1)).toNat) ++ ((str [48, 49, 50, 51, 52, 53, 54, 55, 56, 57]).extract (n.tmod 10).toNat (w64 ((n.tmod 10) + 1)).toNat))
noncomputable def zq67 (t : Int) : Option (ByteArray) :=
 (chk ((60 : Int) ≠ 0)).bind fun u =>
 (zq69 (w64 (t.tdiv 60))).bind fun r =>
 (chk (r.size + (str [58]).size ≤ 4294967296)).bind fun u1 =>
 (chk ((60 : Int) ≠ 0)).bind fun u2 =>
 (zq69 (t.tmod 60)).bind fun r1 =>
 (chk ((r ++ (str [58])).size + r1.size ≤ 4294967296)).bind fun u3 =>
 some ((r ++ (str [58])) ++ r1)
noncomputable def zq76_L1 (t : Timetable) : ByteArray × Int → Option (Lp (ByteArray × Int) (ByteArray))
 | (i, v) =>
  if (decide (v < (t.Trips.length : Int))) = true then
   (chk (i.size + (str [116, 114, 105, 112, 32]).size ≤ 4294967296)).bind fun u7 =>
   (idx t.Trips v).bind fun e2 =>
   (zq53 e2.Id).bind fun r4 =>
   (chk ((i ++ (str [116, 114, 105, 112, 32])).size + r4.size ≤ 4294967296)).bind fun u8 =>
   (chk (((i ++ (str [116, 114, 105, 112, 32])) ++ r4).size + (str [32]).size ≤ 4294967296)).bind fun u9 =>
   (zq73 t v).bind fun r5 =>
   (chk ((((i ++ (str [116, 114, 105, 112, 32])) ++ r4) ++ (str [32])).size + r5.Name.size ≤ 4294967296)).bind fun u10 =>
   (chk (((((i ++ (str [116, 114, 105, 112, 32])) ++ r4) ++ (str [32])) ++ r5.Name).size + (str [32]).size ≤ 4294967296)).bind fun u11 =>
   (idx t.Trips v).bind fun e3 =>
   (zq67 e3.Start).bind fun r6 =>
   (chk ((((((i ++ (str [116, 114, 105, 112, 32])) ++ r4) ++ (str [32])) ++ r5.Name) ++ (str [32])).size + r6.size ≤ 4294967296)).bind fun u12 =>
   (chk (((((((i ++ (str [116, 114, 105, 112, 32])) ++ r4) ++ (str [32])) ++ r5.Name) ++ (str [32])) ++ r6).size + (str [10]).size ≤ 4294967296)).bind fun u13 =>
   some (.nx ((((((((i ++ (str [116, 114, 105, 112, 32])) ++ r4) ++ (str [32])) ++ r5.Name) ++ (str [32])) ++ r6) ++ (str [10])), (w64 (v + 1))))
  else
   some (.dn i)
noncomputable def zq76 (t : Timetable) : Option (ByteArray) :=
 (zq75 t.Network).bind fun r =>
 (iter (zq76_L1 t) (r, (0 : Int))).bind fun (i1 : ByteArray) =>
 some i1
noncomputable def zq50 (c : l1Cur) (t : ByteArray) (with_ : ByteArray) : Option (ByteArray × l1Cur) :=
 if (t.toList == (str []).toList) = true then
  (chk ((0 : Int) ≤ 0 ∧ (0 : Int) ≤ 1 ∧ 1 ≤ (with_.size : Int))).bind fun u =>
  some ((with_.extract (0 : Int).toNat (1 : Int).toNat), c)
 else
  (zq49 c (t.size : Int)).bind fun r =>
  (zq49 r.2 (with_.size : Int)).bind fun r1 =>
  (chk ((0 : Int) ≤ r1.1 ∧ r1.1 ≤ (with_.size : Int))).bind fun u1 =>
  (chk ((0 : Int) ≤ 0 ∧ (0 : Int) ≤ 1 ∧ 1 ≤ ((with_.extract r1.1.toNat with_.size).size : Int))).bind fun u2 =>
  (zq49 r1.2 3).bind fun r2 =>
  if (r2.1 == 0) = true then
   (chk ((0 : Int) ≤ 0 ∧ (0 : Int) ≤ r.1 ∧ r.1 ≤ (t.size : Int))).bind fun u7 =>
   (chk ((t.extract (0 : Int).toNat r.1.toNat).size + ((with_.extract r1.1.toNat with_.size).extract (0 : Int).toNat (1 : Int).toNat).size ≤ 4294967296)).bind fun u8 =>
   (chk ((0 : Int) ≤ r.1 ∧ r.1 ≤ (t.size : Int))).bind fun u9 =>
   (chk (((t.extract (0 : Int).toNat r.1.toNat) ++ ((with_.extract r1.1.toNat with_.size).extract (0 : Int).toNat (1 : Int).toNat)).size + (t.extract r.1.toNat t.size).size ≤ 4294967296)).bind fun u10 =>
   some ((((t.extract (0 : Int).toNat r.1.toNat) ++ ((with_.extract r1.1.toNat with_.size).extract (0 : Int).toNat (1 : Int).toNat)) ++ (t.extract r.1.toNat t.size)), r2.2)
  else
   if (r2.1 == 1) = true then
    (chk ((0 : Int) ≤ 0 ∧ (0 : Int) ≤ r.1 ∧ r.1 ≤ (t.size : Int))).bind fun u15 =>
    (chk ((t.extract (0 : Int).toNat r.1.toNat).size + ((with_.extract r1.1.toNat with_.size).extract (0 : Int).toNat (1 : Int).toNat).size ≤ 4294967296)).bind fun u16 =>
    (chk ((0 : Int) ≤ (w64 (r.1 + 1)) ∧ (w64 (r.1 + 1)) ≤ (t.size : Int))).bind fun u17 =>
    (chk (((t.extract (0 : Int).toNat r.1.toNat) ++ ((with_.extract r1.1.toNat with_.size).extract (0 : Int).toNat (1 : Int).toNat)).size + (t.extract (w64 (r.1 + 1)).toNat t.size).size ≤ 4294967296)).bind fun u18 =>
    some ((((t.extract (0 : Int).toNat r.1.toNat) ++ ((with_.extract r1.1.toNat with_.size).extract (0 : Int).toNat (1 : Int).toNat)) ++ (t.extract (w64 (r.1 + 1)).toNat t.size)), r2.2)
   else
    (chk ((0 : Int) ≤ 0 ∧ (0 : Int) ≤ r.1 ∧ r.1 ≤ (t.size : Int))).bind fun u22 =>
    (chk ((0 : Int) ≤ (w64 (r.1 + 1)) ∧ (w64 (r.1 + 1)) ≤ (t.size : Int))).bind fun u23 =>
    (chk ((t.extract (0 : Int).toNat r.1.toNat).size + (t.extract (w64 (r.1 + 1)).toNat t.size).size ≤ 4294967296)).bind fun u24 =>
    some (((t.extract (0 : Int).toNat r.1.toNat) ++ (t.extract (w64 (r.1 + 1)).toNat t.size)), r2.2)
noncomputable def zq34 (code : List UInt8) : Option (ByteArray) :=
 (zq51 (⟨code, 0, (⟨0⟩ : IK .u64)⟩ : l1Cur)).bind fun r =>
 (zq76 (⟨(⟨r.1.Network.Stops, r.1.Network.Lines⟩ : Network), r.1.Trips⟩ : Timetable)).bind fun r1 =>
 ((zq48 r.2 3).bind fun r2 =>
 if r2.1 = true then
  (zq50 r2.2 r1 (str [97, 32, 49, 48, 108, 58, 10])).bind fun r3 =>
  some r3.1
 else
  some r1).bind fun (v : ByteArray) =>
 some v
noncomputable def zq32 (code : List UInt8) : Option (Network) :=
 (zq39 (⟨code, 0, (⟨0⟩ : IK .u64)⟩ : l1Cur)).bind fun r =>
 some (⟨r.1.Stops, r.1.Lines⟩ : Network)
noncomputable def zq30 (code : List UInt8) : Option (Network) :=
 (zq32 code).bind fun r =>
 some (⟨r.Stops, r.Lines⟩ : Network)
noncomputable def zq0 (n : Network) : Option (ByteArray × Bool) :=
 (zq2 n).bind fun r =>
 if (!r) = true then
  some ((str []), false)
 else
  (zq15 n).bind fun r1 =>
  some (r1, true)
noncomputable def zq6 (s : ByteArray) : Option (Network × Bool) :=
 (zq25 s).bind fun r =>
 (if (!r.2) = true then some true else some (decide (0 < (r.1.Trips.length : Int)))).bind fun (v : Bool) =>
 if v = true then
  some ((⟨([] : List ByteArray), ([] : List Line)⟩ : Network), false)
 else
  some (r.1.Network, true)
noncomputable def zq35 (n : Network) : Option (Bool) :=
 (zq59 n).bind fun r =>
 some r
noncomputable def v_FnTimetableText (code : List UInt8) : Option (Bool) :=
 (zq86 code).bind fun r =>
 if r = true then
  some true
 else
  (zq31 code).bind fun r1 =>
  (zq1 (⟨(⟨r1.Network.Stops, r1.Network.Lines⟩ : Network), r1.Trips⟩ : Timetable)).bind fun r2 =>
  (zq8 r2.1).bind fun r3 =>
  (zq36 (⟨(⟨r1.Network.Stops, r1.Network.Lines⟩ : Network), r1.Trips⟩ : Timetable)).bind fun r4 =>
  (if (!(r2.2 == r4)) = true then some true else if r2.2 = true then if (!r3.2) = true then some true else (zq90 r3.1 (⟨(⟨r1.Network.Stops, r1.Network.Lines⟩ : Network), r1.Trips⟩ : Timetable)).bind fun r5 =>
  some (!r5) else some false).bind fun (v : Bool) =>
  if v = true then
   some false
  else
   (zq34 code).bind fun r6 =>
   (zq8 r6).bind fun r7 =>
   (zq1 r7.1).bind fun r8 =>
   (if r7.2 = true then if (!r8.2) = true then some true else some (!(r8.1.toList == r6.toList)) else some false).bind fun (v1 : Bool) =>
   if v1 = true then
    some false
   else
    (zq30 code).bind fun r9 =>
    (zq0 (⟨r9.Stops, r9.Lines⟩ : Network)).bind fun r10 =>
    (zq6 r10.1).bind fun r11 =>
    (zq35 (⟨r9.Stops, r9.Lines⟩ : Network)).bind fun r12 =>
    (if (r10.2 == r12) = true then if (!r10.2) = true then some true else if r11.2 = true then (zq88 r11.1 (⟨r9.Stops, r9.Lines⟩ : Network)).bind fun r13 =>
    some r13 else some false else some false).bind fun (t : Bool) =>
    some t
end Go.Proofs.YtimaoofeephgjaaGreatDoor
