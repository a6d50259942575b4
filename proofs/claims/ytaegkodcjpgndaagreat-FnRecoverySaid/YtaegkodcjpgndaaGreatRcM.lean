/- Models of the functions that the law reaches: plain Lean; none where the function would panic or not end. Made by program (dec.py). -/
import Derived.Test.YtaegkodcjpgndaaGreatAbC0
namespace Go.Proofs.YtaegkodcjpgndaaGreat
open Go Go.Ab
set_option maxRecDepth 100000
set_option maxHeartbeats 4000000
set_option linter.unusedVariables false
set_option linter.unusedSimpArgs false
structure l1Cur where
 code_ : List UInt8
 at_ : Int
 seed_ : IK .u64
instance enc_l1Cur : Enc l1Cur := ⟨3, fun x => .agg [Enc.e x.code_, .sc (.int .i64 x.at_), .sc (.int .u64 x.seed_.v)], fun a b h => by
 simp only [D.agg.injEq, List.cons.injEq, and_true] at h
 obtain ⟨a1, a2, a3⟩ := a
 obtain ⟨b1, b2, b3⟩ := b
 obtain ⟨h1, h2, h3⟩ := h
 have q1 := Enc.inj (α := List UInt8) a1 b1 h1
 have q2 := Enc.inj (α := Int) a2 b2 h2
 have q3 := Enc.inj (α := IK .u64) a3 b3 h3
 subst q1; subst q2; subst q3; rfl⟩
structure Line where
 Name : ByteArray
 Stops : List Int
 Runs : List Int
instance enc_Line : Enc Line := ⟨3, fun x => .agg [.sc (.string x.Name), Enc.e x.Stops, Enc.e x.Runs], fun a b h => by
 simp only [D.agg.injEq, List.cons.injEq, and_true] at h
 obtain ⟨a1, a2, a3⟩ := a
 obtain ⟨b1, b2, b3⟩ := b
 obtain ⟨h1, h2, h3⟩ := h
 have q1 := Enc.inj (α := ByteArray) a1 b1 h1
 have q2 := Enc.inj (α := List Int) a2 b2 h2
 have q3 := Enc.inj (α := List Int) a3 b3 h3
 subst q1; subst q2; subst q3; rfl⟩
structure Network where
 Stops : List ByteArray
 Lines : List Line
instance enc_Network : Enc Network := ⟨2, fun x => .agg [Enc.e x.Stops, Enc.e x.Lines], fun a b h => by
 simp only [D.agg.injEq, List.cons.injEq, and_true] at h
 obtain ⟨a1, a2⟩ := a
 obtain ⟨b1, b2⟩ := b
 obtain ⟨h1, h2⟩ := h
 have q1 := Enc.inj (α := List ByteArray) a1 b1 h1
 have q2 := Enc.inj (α := List Line) a2 b2 h2
 subst q1; subst q2; rfl⟩
structure Trip where
 Id : Int
 Line : Int
 Start : Int
instance enc_Trip : Enc Trip := ⟨3, fun x => .agg [.sc (.int .i64 x.Id), .sc (.int .i64 x.Line), .sc (.int .i64 x.Start)], fun a b h => by
 simp only [D.agg.injEq, List.cons.injEq, and_true] at h
 obtain ⟨a1, a2, a3⟩ := a
 obtain ⟨b1, b2, b3⟩ := b
 obtain ⟨h1, h2, h3⟩ := h
 have q1 := Enc.inj (α := Int) a1 b1 h1
 have q2 := Enc.inj (α := Int) a2 b2 h2
 have q3 := Enc.inj (α := Int) a3 b3 h3
 subst q1; subst q2; subst q3; rfl⟩
structure Timetable where
 Network : Network
 Trips : List Trip
instance enc_Timetable : Enc Timetable := ⟨3, fun x => .agg [Enc.e x.Network.Stops, Enc.e x.Network.Lines, Enc.e x.Trips], fun a b h => by
 simp only [D.agg.injEq, List.cons.injEq, and_true] at h
 obtain ⟨⟨a1, a2⟩, a3⟩ := a
 obtain ⟨⟨b1, b2⟩, b3⟩ := b
 obtain ⟨h1, h2, h3⟩ := h
 have q1 := Enc.inj (α := List ByteArray) a1 b1 h1
 have q2 := Enc.inj (α := List Line) a2 b2 h2
 have q3 := Enc.inj (α := List Trip) a3 b3 h3
 subst q1; subst q2; subst q3; rfl⟩
structure Fleet where
 Dead : List (List Int)
 Turn : Int
instance enc_Fleet : Enc Fleet := ⟨2, fun x => .agg [Enc.e x.Dead, .sc (.int .i64 x.Turn)], fun a b h => by
 simp only [D.agg.injEq, List.cons.injEq, and_true] at h
 obtain ⟨a1, a2⟩ := a
 obtain ⟨b1, b2⟩ := b
 obtain ⟨h1, h2⟩ := h
 have q1 := Enc.inj (α := List (List Int)) a1 b1 h1
 have q2 := Enc.inj (α := Int) a2 b2 h2
 subst q1; subst q2; rfl⟩
structure l11Plan where
 t_ : Timetable
 f_ : Fleet
 known_ : List (List Int)
instance enc_l11Plan : Enc l11Plan := ⟨6, fun x => .agg [Enc.e x.t_.Network.Stops, Enc.e x.t_.Network.Lines, Enc.e x.t_.Trips, Enc.e x.f_.Dead, .sc (.int .i64 x.f_.Turn), Enc.e x.known_], fun a b h => by
 simp only [D.agg.injEq, List.cons.injEq, and_true] at h
 obtain ⟨⟨⟨a1, a2⟩, a3⟩, ⟨a4, a5⟩, a6⟩ := a
 obtain ⟨⟨⟨b1, b2⟩, b3⟩, ⟨b4, b5⟩, b6⟩ := b
 obtain ⟨h1, h2, h3, h4, h5, h6⟩ := h
 have q1 := Enc.inj (α := List ByteArray) a1 b1 h1
 have q2 := Enc.inj (α := List Line) a2 b2 h2
 have q3 := Enc.inj (α := List Trip) a3 b3 h3
 have q4 := Enc.inj (α := List (List Int)) a4 b4 h4
 have q5 := Enc.inj (α := Int) a5 b5 h5
 have q6 := Enc.inj (α := List (List Int)) a6 b6 h6
 subst q1; subst q2; subst q3; subst q4; subst q5; subst q6; rfl⟩
structure Delay where
 Trip : Int
 Minutes : Int
instance enc_Delay : Enc Delay := ⟨2, fun x => .agg [.sc (.int .i64 x.Trip), .sc (.int .i64 x.Minutes)], fun a b h => by
 simp only [D.agg.injEq, List.cons.injEq, and_true] at h
 obtain ⟨a1, a2⟩ := a
 obtain ⟨b1, b2⟩ := b
 obtain ⟨h1, h2⟩ := h
 have q1 := Enc.inj (α := Int) a1 b1 h1
 have q2 := Enc.inj (α := Int) a2 b2 h2
 subst q1; subst q2; rfl⟩
instance : BxE l1Cur := ⟨fun x y h => Enc.inj x y (congrArg D.agg h)⟩
instance : BxE Line := ⟨fun x y h => Enc.inj x y (congrArg D.agg h)⟩
instance : BxE Network := ⟨fun x y h => Enc.inj x y (congrArg D.agg h)⟩
instance : BxE Trip := ⟨fun x y h => Enc.inj x y (congrArg D.agg h)⟩
instance : BxE Timetable := ⟨fun x y h => Enc.inj x y (congrArg D.agg h)⟩
instance : BxE Fleet := ⟨fun x y h => Enc.inj x y (congrArg D.agg h)⟩
instance : BxE l11Plan := ⟨fun x y h => Enc.inj x y (congrArg D.agg h)⟩
instance : BxE Delay := ⟨fun x y h => Enc.inj x y (congrArg D.agg h)⟩
instance : FlatEnc Trip := ⟨fun _ => flatDB_ok rfl⟩
instance : FlatEnc Delay := ⟨fun _ => flatDB_ok rfl⟩
noncomputable def zq131 (code : List UInt8) : Option (Bool) :=
 some (decide (65536 < (code.length : Int)))
noncomputable def zq88 (c : l1Cur) : Option (Int × l1Cur) :=
 (if (decide (c.at_ < (c.code_.length : Int))) = true then
  (idx c.code_ c.at_).bind fun e1 =>
  some (w64 ((e1.toNat : Int)))
 else
  some (0 : Int)).bind fun (v : Int) =>
 if (decide ((w64 (c.at_ + 1)) ≤ (c.code_.length : Int))) = true then
  some (v, (⟨c.code_, (w64 (c.at_ + 1)), (⟨(IntKind.u64.wrap ((IntKind.u64.wrap ((IntKind.u64.wrap (c.seed_.v * 6364136223846793005)) + (IntKind.u64.wrap (v)))) + 900900))⟩ : IK .u64)⟩ : l1Cur))
 else
  (chk ((0 : Int) ≤ 40)).bind fun u =>
  some ((w64 ((IntKind.u64.wrap ((BitVec.ofInt (IntKind.u64).bits ((IntKind.u64.wrap ((IntKind.u64.wrap ((IntKind.u64.wrap (c.seed_.v * 6364136223846793005)) + (IntKind.u64.wrap (v)))) + 900900)).fdiv (2 ^ (min (40 : Int).toNat (IntKind.u64).bits))) &&& BitVec.ofInt (IntKind.u64).bits 255).toNat : Int)))), (⟨c.code_, (w64 (c.at_ + 1)), (⟨(IntKind.u64.wrap ((IntKind.u64.wrap ((IntKind.u64.wrap (c.seed_.v * 6364136223846793005)) + (IntKind.u64.wrap (v)))) + 900900))⟩ : IK .u64)⟩ : l1Cur))
noncomputable def zq93 (c : l1Cur) (n : Int) : Option (Int × l1Cur) :=
 if (decide (n ≤ 1)) = true then
  some (0, c)
 else
  (zq88 c).bind fun r =>
  (if (decide (200 < n)) = true then
   (zq88 r.2).bind fun r1 =>
   some ((w64 ((w64 (r.1 * 256)) + r1.1)), r1.2.code_, r1.2.at_, r1.2.seed_.v)
  else
   some (r.1, r.2.code_, r.2.at_, r.2.seed_.v)).bind fun ((v, v1, v2, v3) : Int × (List UInt8) × Int × Int) =>
  (chk ((n : Int) ≠ 0)).bind fun u =>
  some ((v.tmod n), (⟨v1, v2, (⟨v3⟩ : IK .u64)⟩ : l1Cur))
noncomputable def zq91 (c : l1Cur) (n : Int) : Option (Bool × l1Cur) :=
 (zq93 c n).bind fun r =>
 some ((r.1 == 0), r.2)
noncomputable def zq103_F (rec_ : Int → Option (ByteArray)) (n : Int) : Option (ByteArray) :=
 if (decide (n < 0)) = true then
  (rec_ (w64 (0 - n))).bind fun r =>
  (chk ((str [45]).size + r.size ≤ 4294967296)).bind fun u =>
  some ((str [45]) ++ r)
 else
  if (decide (n < 10)) = true then
   (chk ((0 : Int) ≤ n ∧ n ≤ (w64 (n + 1)) ∧ (w64 (n + 1)) ≤ ((str [48, 49, 50, 51, 52, 53, 54, 55, 56, 57]).size : Int))).bind fun u1 =>
   some ((str [48, 49, 50, 51, 52, 53, 54, 55, 56, 57]).extract n.toNat (w64 (n + 1)).toNat)
  else
   (chk ((10 : Int) ≠ 0)).bind fun u7 =>
   (rec_ (w64 (n.tdiv 10))).bind fun r2 =>
   (chk ((10 : Int) ≠ 0)).bind fun u8 =>
   (chk ((10 : Int) ≠ 0)).bind fun u9 =>
   (chk ((0 : Int) ≤ (n.tmod 10) ∧ (n.tmod 10) ≤ (w64 ((n.tmod 10) + 1)) ∧ (w64 ((n.tmod 10) + 1)) ≤ ((str [48, 49, 50, 51, 52, 53, 54, 55, 56, 57]).size : Int))).bind fun u10 =>
   (chk (r2.size + ((str [48, 49, 50, 51, 52, 53, 54, 55, 56, 57]).extract (n.tmod 10).toNat (w64 ((n.tmod 10) + 1)).toNat).size ≤ 4294967296)).bind fun u11 =>
   some (r2 ++ ((str [48, 49, 50, 51, 52, 53, 54, 55, 56, 57]).extract (n.tmod 10).toNat (w64 ((n.tmod 10) + 1)).toNat))
noncomputable def zq103_k : Nat → Int → Option (ByteArray)
 | 0 => fun _ => none
 | n + 1 => zq103_F (zq103_k n)
noncomputable def zq103 (n : Int) : Option (ByteArray) := zq103_k 4294967296 n
noncomputable def zq116_L1 (x : Line) (stop : Int) : Int → Option (Lp (Int) (Fl (Int) (Unit)))
 | v =>
  if (decide (v < (x.Stops.length : Int))) = true then
   (idx x.Stops v).bind fun e =>
   if (e == stop) = true then
    some (.dn (.ret v))
   else
    some (.nx (w64 (v + 1)))
  else
   some (.dn (.go ()))
noncomputable def zq116 (x : Line) (stop : Int) : Option (Int) :=
 flb (iter (zq116_L1 x stop) (0 : Int)) fun (_ : Unit) =>
 some (-1)
noncomputable def zq84_L1 (name : ByteArray) (stops : Int) : Int × Int × (List UInt8) × Int × Int × (List Int) → Option (Lp (Int × Int × (List UInt8) × Int × Int × (List Int)) ((List UInt8) × Int × Int × (List Int)))
 | (v, v1, v2, v3, v4, v5) =>
  if (decide (0 < v1)) = true then
   ((zq116 (⟨name, v5, ([] : List Int)⟩ : Line) v).bind fun r2 =>
   if (decide (r2 < 0)) = true then
    (chk (v5.length + ([v] : List Int).length ≤ 4294967296)).bind fun u =>
    some (v5 ++ ([v] : List Int))
   else
    some v5).bind fun (v6 : List Int) =>
   (zq93 (⟨v2, v3, (⟨v4⟩ : IK .u64)⟩ : l1Cur) 2).bind fun r3 =>
   (chk ((stops : Int) ≠ 0)).bind fun u1 =>
   some (.nx (((w64 ((w64 (v + 1)) + r3.1)).tmod stops), (w64 (v1 - 1)), r3.2.code_, r3.2.at_, r3.2.seed_.v, v6))
  else
   some (.dn (v2, v3, v4, v5))
noncomputable def zq84_L2 (v11 : List Int) : Int × (List UInt8) × Int × Int × (List Int) → Option (Lp (Int × (List UInt8) × Int × Int × (List Int)) ((List UInt8) × Int × Int × (List Int)))
 | (v12, v13, v14, v15, v16) =>
  if (decide (v12 < (v11.length : Int))) = true then
   (zq93 (⟨v13, v14, (⟨v15⟩ : IK .u64)⟩ : l1Cur) 12).bind fun r5 =>
   (chk (v16.length + ([(w64 (3 + r5.1))] : List Int).length ≤ 4294967296)).bind fun u7 =>
   some (.nx ((w64 (v12 + 1)), r5.2.code_, r5.2.at_, r5.2.seed_.v, (v16 ++ ([(w64 (3 + r5.1))] : List Int))))
  else
   some (.dn (v13, v14, v15, v16))
noncomputable def zq84 (c : l1Cur) (name : ByteArray) (stops : Int) : Option (Line × l1Cur) :=
 (zq93 c stops).bind fun r =>
 (zq93 r.2 3).bind fun r1 =>
 (iter (zq84_L1 name stops) (r.1, (w64 (2 + r1.1)), r1.2.code_, r1.2.at_, r1.2.seed_.v, ([] : List Int))).bind fun ((v7, v8, v9, v10) : (List UInt8) × Int × Int × (List Int)) =>
 (if (decide ((v10.length : Int) < 2)) = true then
  (idx v10 0).bind fun e1 =>
  (chk ((stops : Int) ≠ 0)).bind fun u4 =>
  (chk (v10.length + ([((w64 (e1 + 1)).tmod stops)] : List Int).length ≤ 4294967296)).bind fun u5 =>
  some (v10 ++ ([((w64 (e1 + 1)).tmod stops)] : List Int))
 else
  some v10).bind fun (v11 : List Int) =>
 (iter (zq84_L2 v11) ((1 : Int), v7, v8, v9, ([] : List Int))).bind fun ((v17, v18, v19, v20) : (List UInt8) × Int × Int × (List Int)) =>
 some ((⟨name, v11, v20⟩ : Line), (⟨v17, v18, (⟨v19⟩ : IK .u64)⟩ : l1Cur))
noncomputable def zq85_L1 (name : ByteArray) (stops : Int) : Int × Int × (List UInt8) × Int × Int × (List Int) → Option (Lp (Int × Int × (List UInt8) × Int × Int × (List Int)) ((List UInt8) × Int × Int × (List Int)))
 | (v, v1, v2, v3, v4, v5) =>
  if (decide (0 < v1)) = true then
   ((zq116 (⟨name, v5, ([] : List Int)⟩ : Line) v).bind fun r2 =>
   if (decide (r2 < 0)) = true then
    (chk (v5.length + ([v] : List Int).length ≤ 4294967296)).bind fun u =>
    some (v5 ++ ([v] : List Int))
   else
    some v5).bind fun (v6 : List Int) =>
   (zq93 (⟨v2, v3, (⟨v4⟩ : IK .u64)⟩ : l1Cur) 2).bind fun r3 =>
   (chk ((stops : Int) ≠ 0)).bind fun u1 =>
   some (.nx (((w64 ((w64 (v + 1)) + r3.1)).tmod stops), (w64 (v1 - 1)), r3.2.code_, r3.2.at_, r3.2.seed_.v, v6))
  else
   some (.dn (v2, v3, v4, v5))
noncomputable def zq85_L2 (v11 : List Int) : Int × (List UInt8) × Int × Int × (List Int) → Option (Lp (Int × (List UInt8) × Int × Int × (List Int)) ((List UInt8) × Int × Int × (List Int)))
 | (v12, v13, v14, v15, v16) =>
  if (decide (v12 < (v11.length : Int))) = true then
   (zq93 (⟨v13, v14, (⟨v15⟩ : IK .u64)⟩ : l1Cur) 12).bind fun r5 =>
   (chk (v16.length + ([(w64 (3 + r5.1))] : List Int).length ≤ 4294967296)).bind fun u7 =>
   some (.nx ((w64 (v12 + 1)), r5.2.code_, r5.2.at_, r5.2.seed_.v, (v16 ++ ([(w64 (3 + r5.1))] : List Int))))
  else
   some (.dn (v13, v14, v15, v16))
noncomputable def zq85 (c : l1Cur) (name : ByteArray) (stops : Int) : Option (Line × l1Cur) :=
 (zq93 c stops).bind fun r =>
 (zq93 r.2 3).bind fun r1 =>
 (iter (zq85_L1 name stops) (r.1, (w64 (2 + r1.1)), r1.2.code_, r1.2.at_, r1.2.seed_.v, ([] : List Int))).bind fun ((v7, v8, v9, v10) : (List UInt8) × Int × Int × (List Int)) =>
 (if (decide ((v10.length : Int) < 2)) = true then
  (idx v10 0).bind fun e1 =>
  (chk ((stops : Int) ≠ 0)).bind fun u4 =>
  (chk (v10.length + ([((w64 (e1 + 1)).tmod stops)] : List Int).length ≤ 4294967296)).bind fun u5 =>
  some (v10 ++ ([((w64 (e1 + 1)).tmod stops)] : List Int))
 else
  some v10).bind fun (v11 : List Int) =>
 (iter (zq85_L2 v11) ((1 : Int), v7, v8, v9, ([] : List Int))).bind fun ((v17, v18, v19, v20) : (List UInt8) × Int × Int × (List Int)) =>
 some ((⟨name, v11, v20⟩ : Line), (⟨v17, v18, (⟨v19⟩ : IK .u64)⟩ : l1Cur))
noncomputable def zq107_L1 (list : List Int) : Int × (List Int) → Option (Lp (Int × (List Int)) ((List Int)))
 | (v, i) =>
  if (decide (0 ≤ v)) = true then
   (idx list v).bind fun e =>
   (chk (i.length + ([e] : List Int).length ≤ 4294967296)).bind fun u =>
   some (.nx ((w64 (v - 1)), (i ++ ([e] : List Int))))
  else
   some (.dn i)
noncomputable def zq107 (list : List Int) : Option ((List Int)) :=
 (iter (zq107_L1 list) ((w64 ((list.length : Int) - 1)), ([] : List Int))).bind fun (i1 : List Int) =>
 some i1
noncomputable def zq108_L1 (list : List Int) : Int × (List Int) → Option (Lp (Int × (List Int)) ((List Int)))
 | (v, i) =>
  if (decide (0 ≤ v)) = true then
   (idx list v).bind fun e =>
   (chk (i.length + ([e] : List Int).length ≤ 4294967296)).bind fun u =>
   some (.nx ((w64 (v - 1)), (i ++ ([e] : List Int))))
  else
   some (.dn i)
noncomputable def zq108 (list : List Int) : Option ((List Int)) :=
 (iter (zq108_L1 list) ((w64 ((list.length : Int) - 1)), ([] : List Int))).bind fun (i1 : List Int) =>
 some i1
noncomputable def zq104 (l : List Int) : Option ((List Int)) :=
 (chk (([] : List Int).length + l.length ≤ 4294967296)).bind fun u =>
 some (([] : List Int) ++ l)
noncomputable def zq105 (l : List Int) : Option ((List Int)) :=
 (chk (([] : List Int).length + l.length ≤ 4294967296)).bind fun u =>
 some (([] : List Int) ++ l)
noncomputable def zq114_L1 (n : Network) : Int × (List Line) → Option (Lp (Int × (List Line)) ((List Line)))
 | (v, v1) =>
  if (decide (v < (n.Lines.length : Int))) = true then
   (idx n.Lines v).bind fun e3 =>
   (idx n.Lines v).bind fun e4 =>
   (zq105 e4.Stops).bind fun r2 =>
   (idx n.Lines v).bind fun e5 =>
   (zq105 e5.Runs).bind fun r3 =>
   (chk (v1.length + ([(⟨e3.Name, r2, r3⟩ : Line)] : List Line).length ≤ 4294967296)).bind fun u2 =>
   some (.nx ((w64 (v + 1)), (v1 ++ ([(⟨e3.Name, r2, r3⟩ : Line)] : List Line))))
  else
   some (.dn v1)
noncomputable def zq114 (n : Network) : Option (Network) :=
 (chk (([] : List ByteArray).length + n.Stops.length ≤ 4294967296)).bind fun u =>
 (iter (zq114_L1 n) ((0 : Int), ([] : List Line))).bind fun (v2 : List Line) =>
 some (⟨(([] : List ByteArray) ++ n.Stops), v2⟩ : Network)
noncomputable def zq86_L1 (r : Int × l1Cur) : Int × (List UInt8) × Int × Int × (List Line) → Option (Lp (Int × (List UInt8) × Int × Int × (List Line)) ((List UInt8) × Int × Int × (List Line)))
 | (x, v, v1, v2, v3) =>
  if (decide (0 < x)) = true then
   (zq103 x).bind fun r4 =>
   (chk ((str [108]).size + r4.size ≤ 4294967296)).bind fun u3 =>
   (zq85 (⟨v, v1, (⟨v2⟩ : IK .u64)⟩ : l1Cur) ((str [108]) ++ r4) (w64 (2 + r.1))).bind fun r5 =>
   (chk (v3.length + ([r5.1] : List Line).length ≤ 4294967296)).bind fun u4 =>
   some (.nx ((w64 (x - 1)), r5.2.code_, r5.2.at_, r5.2.seed_.v, (v3 ++ ([r5.1] : List Line))))
  else
   some (.dn (v, v1, v2, v3))
noncomputable def zq86 (c : l1Cur) : Option (Network × l1Cur) :=
 (zq93 c 5).bind fun r =>
 (chk ((0 : Int) ≤ 0 ∧ 0 ≤ (w64 (2 + r.1)) ∧ (w64 (2 + r.1)) ≤ (([(str [112, 111, 114, 116]), (str [109, 105, 108, 108]), (str [112, 97, 114, 107]), (str [104, 97, 108, 108]), (str [100, 111, 99, 107]), (str [102, 97, 105, 114])] : List ByteArray).length : Int))).bind fun u =>
 (zq93 r.2 3).bind fun r1 =>
 (iter (zq86_L1 r) ((w64 (1 + r1.1)), r1.2.code_, r1.2.at_, r1.2.seed_.v, ([] : List Line))).bind fun ((v4, v5, v6, v7) : (List UInt8) × Int × Int × (List Line)) =>
 ((zq91 (⟨v4, v5, (⟨v6⟩ : IK .u64)⟩ : l1Cur) 2).bind fun r6 =>
 if r6.1 = true then
  (idx v7 0).bind fun e =>
  (zq108 e.Stops).bind fun r9 =>
  (zq108 e.Runs).bind fun r10 =>
  (chk (v7.length + ([(⟨(str [114, 49]), r9, r10⟩ : Line)] : List Line).length ≤ 4294967296)).bind fun u6 =>
  some (r6.2.code_, r6.2.at_, r6.2.seed_.v, (v7 ++ ([(⟨(str [114, 49]), r9, r10⟩ : Line)] : List Line)))
 else
  some (r6.2.code_, r6.2.at_, r6.2.seed_.v, v7)).bind fun ((v8, v9, v10, v11) : (List UInt8) × Int × Int × (List Line)) =>
 (zq114 (⟨((([(str [112, 111, 114, 116]), (str [109, 105, 108, 108]), (str [112, 97, 114, 107]), (str [104, 97, 108, 108]), (str [100, 111, 99, 107]), (str [102, 97, 105, 114])] : List ByteArray).take (w64 (2 + r.1)).toNat).drop (0 : Int).toNat), v11⟩ : Network)).bind fun r11 =>
 some ((⟨r11.Stops, r11.Lines⟩ : Network), (⟨v8, v9, (⟨v10⟩ : IK .u64)⟩ : l1Cur))
noncomputable def zq95_L1 (r : Network × l1Cur) : Int × Int × (List UInt8) × Int × Int × (List Trip) → Option (Lp (Int × Int × (List UInt8) × Int × Int × (List Trip)) ((List UInt8) × Int × Int × (List Trip)))
 | (n, v, v1, v2, v3, v4) =>
  if (decide (0 < v)) = true then
   (zq93 (⟨v1, v2, (⟨v3⟩ : IK .u64)⟩ : l1Cur) 3).bind fun r2 =>
   (zq93 r2.2 (r.1.Lines.length : Int)).bind fun r5 =>
   (zq93 r5.2 24).bind fun r6 =>
   (chk (v4.length + ([(⟨(w64 ((w64 (n + 1)) + r2.1)), r5.1, (w64 (360 + (w64 (5 * r6.1))))⟩ : Trip)] : List Trip).length ≤ 4294967296)).bind fun u1 =>
   some (.nx ((w64 ((w64 (n + 1)) + r2.1)), (w64 (v - 1)), r6.2.code_, r6.2.at_, r6.2.seed_.v, (v4 ++ ([(⟨(w64 ((w64 (n + 1)) + r2.1)), r5.1, (w64 (360 + (w64 (5 * r6.1))))⟩ : Trip)] : List Trip))))
  else
   some (.dn (v1, v2, v3, v4))
noncomputable def zq95 (c : l1Cur) : Option (Timetable × l1Cur) :=
 (zq86 c).bind fun r =>
 (zq93 r.2 8).bind fun r1 =>
 (iter (zq95_L1 r) ((0 : Int), r1.1, r1.2.code_, r1.2.at_, r1.2.seed_.v, ([] : List Trip))).bind fun ((v5, v6, v7, v8) : (List UInt8) × Int × Int × (List Trip)) =>
 some ((⟨(⟨r.1.Stops, r.1.Lines⟩ : Network), v8⟩ : Timetable), (⟨v5, v6, (⟨v7⟩ : IK .u64)⟩ : l1Cur))
noncomputable def zq73 (c : l1Cur) (list : List Int) : Option (Int × l1Cur) :=
 (zq93 c (list.length : Int)).bind fun r =>
 (idx list r.1).bind fun e =>
 some (e, r.2)
noncomputable def zq89 (c : l1Cur) (list : List ByteArray) : Option (ByteArray × l1Cur) :=
 (zq93 c (list.length : Int)).bind fun r =>
 (idx list r.1).bind fun e =>
 some (e, r.2)
noncomputable def zq90 (c : l1Cur) (list : List ByteArray) : Option (ByteArray × l1Cur) :=
 (zq93 c (list.length : Int)).bind fun r =>
 (idx list r.1).bind fun e =>
 some (e, r.2)
noncomputable def zq115_L1 (n : Network) : Int × (List Line) → Option (Lp (Int × (List Line)) ((List Line)))
 | (v, v1) =>
  if (decide (v < (n.Lines.length : Int))) = true then
   (idx n.Lines v).bind fun e3 =>
   (idx n.Lines v).bind fun e4 =>
   (zq104 e4.Stops).bind fun r2 =>
   (idx n.Lines v).bind fun e5 =>
   (zq104 e5.Runs).bind fun r3 =>
   (chk (v1.length + ([(⟨e3.Name, r2, r3⟩ : Line)] : List Line).length ≤ 4294967296)).bind fun u2 =>
   some (.nx ((w64 (v + 1)), (v1 ++ ([(⟨e3.Name, r2, r3⟩ : Line)] : List Line))))
  else
   some (.dn v1)
noncomputable def zq115 (n : Network) : Option (Network) :=
 (chk (([] : List ByteArray).length + n.Stops.length ≤ 4294967296)).bind fun u =>
 (iter (zq115_L1 n) ((0 : Int), ([] : List Line))).bind fun (v2 : List Line) =>
 some (⟨(([] : List ByteArray) ++ n.Stops), v2⟩ : Network)
noncomputable def zq87_L1 (r : Int × l1Cur) : Int × (List UInt8) × Int × Int × (List Line) → Option (Lp (Int × (List UInt8) × Int × Int × (List Line)) ((List UInt8) × Int × Int × (List Line)))
 | (x, v, v1, v2, v3) =>
  if (decide (0 < x)) = true then
   (zq103 x).bind fun r4 =>
   (chk ((str [108]).size + r4.size ≤ 4294967296)).bind fun u3 =>
   (zq85 (⟨v, v1, (⟨v2⟩ : IK .u64)⟩ : l1Cur) ((str [108]) ++ r4) (w64 (2 + r.1))).bind fun r5 =>
   (chk (v3.length + ([r5.1] : List Line).length ≤ 4294967296)).bind fun u4 =>
   some (.nx ((w64 (x - 1)), r5.2.code_, r5.2.at_, r5.2.seed_.v, (v3 ++ ([r5.1] : List Line))))
  else
   some (.dn (v, v1, v2, v3))
noncomputable def zq87 (c : l1Cur) : Option (Network × l1Cur) :=
 (zq93 c 5).bind fun r =>
 (chk ((0 : Int) ≤ 0 ∧ 0 ≤ (w64 (2 + r.1)) ∧ (w64 (2 + r.1)) ≤ (([(str [112, 111, 114, 116]), (str [109, 105, 108, 108]), (str [112, 97, 114, 107]), (str [104, 97, 108, 108]), (str [100, 111, 99, 107]), (str [102, 97, 105, 114])] : List ByteArray).length : Int))).bind fun u =>
 (zq93 r.2 3).bind fun r1 =>
 (iter (zq87_L1 r) ((w64 (1 + r1.1)), r1.2.code_, r1.2.at_, r1.2.seed_.v, ([] : List Line))).bind fun ((v4, v5, v6, v7) : (List UInt8) × Int × Int × (List Line)) =>
 ((zq91 (⟨v4, v5, (⟨v6⟩ : IK .u64)⟩ : l1Cur) 2).bind fun r6 =>
 if r6.1 = true then
  (idx v7 0).bind fun e =>
  (zq108 e.Stops).bind fun r9 =>
  (zq108 e.Runs).bind fun r10 =>
  (chk (v7.length + ([(⟨(str [114, 49]), r9, r10⟩ : Line)] : List Line).length ≤ 4294967296)).bind fun u6 =>
  some (r6.2.code_, r6.2.at_, r6.2.seed_.v, (v7 ++ ([(⟨(str [114, 49]), r9, r10⟩ : Line)] : List Line)))
 else
  some (r6.2.code_, r6.2.at_, r6.2.seed_.v, v7)).bind fun ((v8, v9, v10, v11) : (List UInt8) × Int × Int × (List Line)) =>
 (zq115 (⟨((([(str [112, 111, 114, 116]), (str [109, 105, 108, 108]), (str [112, 97, 114, 107]), (str [104, 97, 108, 108]), (str [100, 111, 99, 107]), (str [102, 97, 105, 114])] : List ByteArray).take (w64 (2 + r.1)).toNat).drop (0 : Int).toNat), v11⟩ : Network)).bind fun r11 =>
 some ((⟨r11.Stops, r11.Lines⟩ : Network), (⟨v8, v9, (⟨v10⟩ : IK .u64)⟩ : l1Cur))
noncomputable def zq74 (c : l1Cur) (list : List Int) : Option (Int × l1Cur) :=
 (zq93 c (list.length : Int)).bind fun r =>
 (idx list r.1).bind fun e =>
 some (e, r.2)
noncomputable def zq75_L1 (r : Network × l1Cur) : Int × (List UInt8) × Int × Int × (List Line) → Option (Lp (Int × (List UInt8) × Int × Int × (List Line)) ((List UInt8) × Int × Int × (List Line)))
 | (v7, v8, v9, v10, v11) =>
  (zq93 (⟨v8, v9, (⟨v10⟩ : IK .u64)⟩ : l1Cur) 2).bind fun r16 =>
  (if (decide ((v11.length : Int) < (w64 (5 + r16.1)))) = true then some (decide (v7 < 7)) else some false).bind fun (v12 : Bool) =>
  if v12 = true then
   (zq103 v7).bind fun r19 =>
   (chk ((str [120]).size + r19.size ≤ 4294967296)).bind fun u3 =>
   (zq84 r16.2 ((str [120]) ++ r19) (r.1.Stops.length : Int)).bind fun r20 =>
   (chk (v11.length + ([(⟨r20.1.Name, r20.1.Stops, r20.1.Runs⟩ : Line)] : List Line).length ≤ 4294967296)).bind fun u4 =>
   some (.nx ((w64 (v7 + 1)), r20.2.code_, r20.2.at_, r20.2.seed_.v, (v11 ++ ([(⟨r20.1.Name, r20.1.Stops, r20.1.Runs⟩ : Line)] : List Line))))
  else
   some (.dn (r16.2.code_, r16.2.at_, r16.2.seed_.v, v11))
noncomputable def zq75 (c : l1Cur) : Option (Network × l1Cur) :=
 (zq87 c).bind fun r =>
 (zq93 r.2 (r.1.Lines.length : Int)).bind fun r1 =>
 (idx r.1.Lines r1.1).bind fun e =>
 flb ((zq93 r1.2 24).bind fun r2 =>
 if (r2.1 == 0) = true then
  (zq90 r2.2 ([(str [109, 105, 108, 108]), (str []), (str [65]), (str [97, 98, 99, 100, 101, 102, 103, 104]), (str [97, 98, 99, 100, 101, 102, 103, 104, 105])] : List ByteArray)).bind fun r4 =>
  (idx r.1.Stops 0).bind fun e2 =>
  some (.go (r4.2.code_, r4.2.at_, r4.2.seed_.v, e.Name, (r.1.Stops.set (0 : Int).toNat r4.1), r.1.Lines, e.Runs))
 else
  if (r2.1 == 1) = true then
   (zq90 r2.2 ([(str [114, 49]), (str [108, 49]), (str []), (str [88])] : List ByteArray)).bind fun r5 =>
   some (.go (r5.2.code_, r5.2.at_, r5.2.seed_.v, r5.1, r.1.Stops, r.1.Lines, e.Runs))
  else
   if (r2.1 == 2) = true then
    (zq93 r2.2 (e.Stops.length : Int)).bind fun r8 =>
    (zq93 r8.2 10).bind fun r9 =>
    (idx e.Stops r8.1).bind fun e4 =>
    some (.go (r9.2.code_, r9.2.at_, r9.2.seed_.v, e.Name, r.1.Stops, (r.1.Lines.set r1.1.toNat (⟨e.Name, (e.Stops.set r8.1.toNat (w64 (r9.1 - 1))), e.Runs⟩ : Line)), ((⟨e.Name, (e.Stops.set r8.1.toNat (w64 (r9.1 - 1))), e.Runs⟩ : Line).Runs)))
   else
    if (r2.1 == 3) = true then
     (zq93 r2.2 (e.Runs.length : Int)).bind fun r12 =>
     (zq74 r12.2 ([0, 60, 61, (-1)] : List Int)).bind fun r13 =>
     (idx e.Runs r12.1).bind fun e6 =>
     some (.go (r13.2.code_, r13.2.at_, r13.2.seed_.v, e.Name, r.1.Stops, (r.1.Lines.set r1.1.toNat (⟨e.Name, e.Stops, (e.Runs.set r12.1.toNat r13.1)⟩ : Line)), ((⟨e.Name, e.Stops, (e.Runs.set r12.1.toNat r13.1)⟩ : Line).Runs)))
    else
     if (r2.1 == 4) = true then
      (chk (e.Runs.length + ([3] : List Int).length ≤ 4294967296)).bind fun u =>
      some (.go (r2.2.code_, r2.2.at_, r2.2.seed_.v, e.Name, r.1.Stops, r.1.Lines, (e.Runs ++ ([3] : List Int))))
     else
      if (r2.1 == 5) = true then
       some (.ret ((⟨r.1.Stops, ([] : List Line)⟩ : Network), r2.2))
      else
       if (r2.1 == 6) = true then
        (iter (zq75_L1 r) ((0 : Int), r2.2.code_, r2.2.at_, r2.2.seed_.v, r.1.Lines)).bind fun ((v13, v14, v15, v16) : (List UInt8) × Int × Int × (List Line)) =>
        some (.ret ((⟨r.1.Stops, v16⟩ : Network), (⟨v13, v14, (⟨v15⟩ : IK .u64)⟩ : l1Cur)))
       else
        some (.go (r2.2.code_, r2.2.at_, r2.2.seed_.v, e.Name, r.1.Stops, r.1.Lines, e.Runs))) fun ((v, v1, v2, v3, v4, v5, v6) : (List UInt8) × Int × Int × ByteArray × (List ByteArray) × (List Line) × (List Int)) =>
 (idx v5 r1.1).bind fun e9 =>
 some ((⟨v4, (v5.set r1.1.toNat (⟨v3, e9.Stops, v6⟩ : Line))⟩ : Network), (⟨v, v1, (⟨v2⟩ : IK .u64)⟩ : l1Cur))
noncomputable def zq77_L1 : Int × (List UInt8) × Int × Int × (List Trip) → Option (Lp (Int × (List UInt8) × Int × Int × (List Trip)) ((List UInt8) × Int × Int × (List Trip)))
 | (v8, v9, v10, v11, v12) =>
  (zq93 (⟨v9, v10, (⟨v11⟩ : IK .u64)⟩ : l1Cur) 2).bind fun r8 =>
  (if (decide ((v12.length : Int) < (w64 (12 + r8.1)))) = true then some (decide (v8 < 14)) else some false).bind fun (v13 : Bool) =>
  if v13 = true then
   (chk (v12.length + ([(⟨(w64 (100 + v8)), 0, (w64 (400 + v8))⟩ : Trip)] : List Trip).length ≤ 4294967296)).bind fun u =>
   some (.nx ((w64 (v8 + 1)), r8.2.code_, r8.2.at_, r8.2.seed_.v, (v12 ++ ([(⟨(w64 (100 + v8)), 0, (w64 (400 + v8))⟩ : Trip)] : List Trip))))
  else
   some (.dn (r8.2.code_, r8.2.at_, r8.2.seed_.v, v12))
noncomputable def zq77 (c : l1Cur) : Option (Timetable × l1Cur) :=
 (zq95 c).bind fun r =>
 if ((r.1.Trips.length : Int) == 0) = true then
  some ((⟨(⟨r.1.Network.Stops, r.1.Network.Lines⟩ : Network), r.1.Trips⟩ : Timetable), r.2)
 else
  (zq93 r.2 (r.1.Trips.length : Int)).bind fun r1 =>
  (idx r.1.Trips r1.1).bind fun e =>
  flb ((zq93 r1.2 24).bind fun r2 =>
  if (r2.1 == 0) = true then
   (zq73 r2.2 ([0, 999, 1000, 2] : List Int)).bind fun r3 =>
   some (.go (r3.2.code_, r3.2.at_, r3.2.seed_.v, r.1.Network.Lines, r3.1, e.Line, e.Start, r.1.Network.Stops))
  else
   if (r2.1 == 1) = true then
    (zq93 r2.2 7).bind fun r4 =>
    some (.go (r4.2.code_, r4.2.at_, r4.2.seed_.v, r.1.Network.Lines, e.Id, (w64 (r4.1 - 1)), e.Start, r.1.Network.Stops))
   else
    if (r2.1 == 2) = true then
     (zq73 r2.2 ([(-1), 0, 1799, 1798, 1800] : List Int)).bind fun r5 =>
     some (.go (r5.2.code_, r5.2.at_, r5.2.seed_.v, r.1.Network.Lines, e.Id, e.Line, r5.1, r.1.Network.Stops))
    else
     if (r2.1 == 3) = true then
      (zq75 r2.2).bind fun r6 =>
      some (.go (r6.2.code_, r6.2.at_, r6.2.seed_.v, r6.1.Lines, e.Id, e.Line, e.Start, r6.1.Stops))
     else
      if (r2.1 == 4) = true then
       (iter (zq77_L1) ((0 : Int), r2.2.code_, r2.2.at_, r2.2.seed_.v, r.1.Trips)).bind fun ((v14, v15, v16, v17) : (List UInt8) × Int × Int × (List Trip)) =>
       some (.ret ((⟨(⟨r.1.Network.Stops, r.1.Network.Lines⟩ : Network), v17⟩ : Timetable), (⟨v14, v15, (⟨v16⟩ : IK .u64)⟩ : l1Cur)))
      else
       some (.go (r2.2.code_, r2.2.at_, r2.2.seed_.v, r.1.Network.Lines, e.Id, e.Line, e.Start, r.1.Network.Stops))) fun ((v, v1, v2, v3, v4, v5, v6, v7) : (List UInt8) × Int × Int × (List Line) × Int × Int × Int × (List ByteArray)) =>
  (idx r.1.Trips r1.1).bind fun e2 =>
  some ((⟨(⟨v7, v3⟩ : Network), (r.1.Trips.set r1.1.toNat (⟨v4, v5, v6⟩ : Trip))⟩ : Timetable), (⟨v, v1, (⟨v2⟩ : IK .u64)⟩ : l1Cur))
noncomputable def zq102 (a : Int) (b : Int) : Option (Int) :=
 if (decide (b < a)) = true then
  some a
 else
  some b
noncomputable def zq97_L1 (r2 : Network × l1Cur) : Int × (List UInt8) × Int × Int × (List Trip) → Option (Lp (Int × (List UInt8) × Int × Int × (List Trip)) ((List UInt8) × Int × Int × (List Trip)))
 | (i, v, v1, v2, v3) =>
  if (decide (0 < i)) = true then
   (zq93 (⟨v, v1, (⟨v2⟩ : IK .u64)⟩ : l1Cur) 2).bind fun r7 =>
   (zq93 r7.2 (r2.1.Lines.length : Int)).bind fun r8 =>
   (zq93 r8.2 16).bind fun r9 =>
   (chk (v3.length + ([(⟨(w64 ((w64 ((v3.length : Int) + 1)) + (w64 ((w64 (2 * (v3.length : Int))) * r7.1)))), r8.1, (w64 (360 + (w64 (5 * r9.1))))⟩ : Trip)] : List Trip).length ≤ 4294967296)).bind fun u1 =>
   some (.nx ((w64 (i - 1)), r9.2.code_, r9.2.at_, r9.2.seed_.v, (v3 ++ ([(⟨(w64 ((w64 ((v3.length : Int) + 1)) + (w64 ((w64 (2 * (v3.length : Int))) * r7.1)))), r8.1, (w64 (360 + (w64 (5 * r9.1))))⟩ : Trip)] : List Trip))))
  else
   some (.dn (v, v1, v2, v3))
noncomputable def zq97_L2 : Int × (List Trip) → Option (Lp (Int × (List Trip)) ((List Trip)))
 | (x, v8) =>
  if (decide (x < (v8.length : Int))) = true then
   (idx v8 x).bind fun e =>
   (idx v8 (w64 (x - 1))).bind fun e2 =>
   (zq102 e.Id (w64 (e2.Id + 1))).bind fun r11 =>
   (idx v8 x).bind fun e3 =>
   some (.nx ((w64 (x + 1)), (v8.set x.toNat (⟨r11, e.Line, e.Start⟩ : Trip))))
  else
   some (.dn v8)
noncomputable def zq97 (c : l1Cur) : Option (Timetable × l1Cur) :=
 (zq91 c 16).bind fun r =>
 if r.1 = true then
  (zq77 r.2).bind fun r1 =>
  some ((⟨(⟨r1.1.Network.Stops, r1.1.Network.Lines⟩ : Network), r1.1.Trips⟩ : Timetable), r1.2)
 else
  (zq86 r.2).bind fun r2 =>
  (zq93 r2.2 6).bind fun r3 =>
  (iter (zq97_L1 r2) ((w64 (3 + r3.1)), r3.2.code_, r3.2.at_, r3.2.seed_.v, ([] : List Trip))).bind fun ((v4, v5, v6, v7) : (List UInt8) × Int × Int × (List Trip)) =>
  (iter (zq97_L2) ((1 : Int), v7)).bind fun (v9 : List Trip) =>
  some ((⟨(⟨r2.1.Stops, r2.1.Lines⟩ : Network), v9⟩ : Timetable), (⟨v4, v5, (⟨v6⟩ : IK .u64)⟩ : l1Cur))
noncomputable def zq81_L1 (n : Network) (k : Int) : Int × (List UInt8) × Int × Int × (List Int) → Option (Lp (Int × (List UInt8) × Int × Int × (List Int)) ((List UInt8) × Int × Int × (List Int)))
 | (v4, v5, v6, v7, v8) =>
  if (decide (v4 < (n.Stops.length : Int))) = true then
   (zq102 (w64 (k - v4)) (w64 (v4 - k))).bind fun r1 =>
   (zq93 (⟨v5, v6, (⟨v7⟩ : IK .u64)⟩ : l1Cur) 4).bind fun r2 =>
   (chk (v8.length + ([(w64 (r1 * (w64 (2 + r2.1))))] : List Int).length ≤ 4294967296)).bind fun u =>
   some (.nx ((w64 (v4 + 1)), r2.2.code_, r2.2.at_, r2.2.seed_.v, (v8 ++ ([(w64 (r1 * (w64 (2 + r2.1))))] : List Int))))
  else
   some (.dn (v5, v6, v7, v8))
noncomputable def zq81_L2 (n : Network) : Int × (List UInt8) × Int × Int × (List (List Int)) → Option (Lp (Int × (List UInt8) × Int × Int × (List (List Int))) ((List UInt8) × Int × Int × (List (List Int))))
 | (k, v, v1, v2, v3) =>
  if (decide (k < (n.Stops.length : Int))) = true then
   (iter (zq81_L1 n k) ((0 : Int), v, v1, v2, ([] : List Int))).bind fun ((v9, v10, v11, v12) : (List UInt8) × Int × Int × (List Int)) =>
   (chk (v3.length + ([v12] : List (List Int)).length ≤ 4294967296)).bind fun u1 =>
   some (.nx ((w64 (k + 1)), v9, v10, v11, (v3 ++ ([v12] : List (List Int)))))
  else
   some (.dn (v, v1, v2, v3))
noncomputable def zq81 (c : l1Cur) (n : Network) : Option (Fleet × l1Cur) :=
 (zq74 c ([0, 2, 5, 3] : List Int)).bind fun r =>
 (iter (zq81_L2 n) ((0 : Int), r.2.code_, r.2.at_, r.2.seed_.v, ([] : List (List Int)))).bind fun ((v13, v14, v15, v16) : (List UInt8) × Int × Int × (List (List Int))) =>
 ((zq93 (⟨v13, v14, (⟨v15⟩ : IK .u64)⟩ : l1Cur) 32).bind fun r3 =>
 if (r3.1 == 0) = true then
  (zq74 r3.2 ([30, 31, (-1)] : List Int)).bind fun r4 =>
  some (r4.2.code_, r4.2.at_, r4.2.seed_.v, v16, r4.1)
 else
  if (r3.1 == 1) = true then
   (idx v16 0).bind fun e =>
   (idx e 0).bind fun e1 =>
   some (r3.2.code_, r3.2.at_, r3.2.seed_.v, (v16.set (0 : Int).toNat (e.set (0 : Int).toNat 1)), r.1)
  else
   if (r3.1 == 2) = true then
    (idx v16 0).bind fun e4 =>
    (zq74 r3.2 ([120, 121, (-1)] : List Int)).bind fun r6 =>
    (idx e4 (w64 ((n.Stops.length : Int) - 1))).bind fun e5 =>
    some (r6.2.code_, r6.2.at_, r6.2.seed_.v, (v16.set (0 : Int).toNat (e4.set (w64 ((n.Stops.length : Int) - 1)).toNat r6.1)), r.1)
   else
    if (r3.1 == 3) = true then
     (chk ((0 : Int) ≤ 1 ∧ 1 ≤ (v16.length : Int))).bind fun u2 =>
     some (r3.2.code_, r3.2.at_, r3.2.seed_.v, (v16.drop (1 : Int).toNat), r.1)
    else
     some (r3.2.code_, r3.2.at_, r3.2.seed_.v, v16, r.1)).bind fun ((v17, v18, v19, v20, v21) : (List UInt8) × Int × Int × (List (List Int)) × Int) =>
 some ((⟨v20, v21⟩ : Fleet), (⟨v17, v18, (⟨v19⟩ : IK .u64)⟩ : l1Cur))
noncomputable def zq100 (x : Int) (a : Int) (b : Int) : Option (Bool) :=
 (if (decide (a ≤ x)) = true then some (decide (x ≤ b)) else some false).bind fun (v : Bool) =>
 some v
noncomputable def zq113_L1 (s : ByteArray) : Int → Option (Lp (Int) (Fl (Bool) (Unit)))
 | v1 =>
  if (decide (v1 < (s.size : Int))) = true then
   (chk ((0 : Int) ≤ v1 ∧ v1 < (s.size : Int))).bind fun u2 =>
   (if (decide (((s.data.toList.getD v1.toNat 0).toNat : Int) < 97)) = true then (chk ((0 : Int) ≤ v1 ∧ v1 < (s.size : Int))).bind fun u3 =>
   if (decide (((s.data.toList.getD v1.toNat 0).toNat : Int) < 48)) = true then some true else (chk ((0 : Int) ≤ v1 ∧ v1 < (s.size : Int))).bind fun u4 =>
   some (decide (57 < ((s.data.toList.getD v1.toNat 0).toNat : Int))) else (chk ((0 : Int) ≤ v1 ∧ v1 < (s.size : Int))).bind fun u5 =>
   if (decide (122 < ((s.data.toList.getD v1.toNat 0).toNat : Int))) = true then (chk ((0 : Int) ≤ v1 ∧ v1 < (s.size : Int))).bind fun u6 =>
   if (decide (((s.data.toList.getD v1.toNat 0).toNat : Int) < 48)) = true then some true else (chk ((0 : Int) ≤ v1 ∧ v1 < (s.size : Int))).bind fun u7 =>
   some (decide (57 < ((s.data.toList.getD v1.toNat 0).toNat : Int))) else some false).bind fun (v2 : Bool) =>
   if v2 = true then
    some (.dn (.ret false))
   else
    some (.nx (w64 (v1 + 1)))
  else
   some (.dn (.go ()))
noncomputable def zq113 (s : ByteArray) : Option (Bool) :=
 (zq100 (s.size : Int) 1 8).bind fun r =>
 (if (!r) = true then some true else (chk ((0 : Int) ≤ 0 ∧ 0 < (s.size : Int))).bind fun u =>
 if (decide (((s.data.toList.getD (0 : Int).toNat 0).toNat : Int) < 97)) = true then some true else (chk ((0 : Int) ≤ 0 ∧ 0 < (s.size : Int))).bind fun u1 =>
 some (decide (122 < ((s.data.toList.getD (0 : Int).toNat 0).toNat : Int)))).bind fun (v : Bool) =>
 if v = true then
  some false
 else
  flb (iter (zq113_L1 s) (0 : Int)) fun (_ : Unit) =>
  some true
noncomputable def zq109_L1 (list : List ByteArray) (name : ByteArray) : Int → Option (Lp (Int) (Fl (Int) (Unit)))
 | v =>
  if (decide (v < (list.length : Int))) = true then
   (idx list v).bind fun e =>
   if (e.toList == name.toList) = true then
    some (.dn (.ret v))
   else
    some (.nx (w64 (v + 1)))
  else
   some (.dn (.go ()))
noncomputable def zq109 (list : List ByteArray) (name : ByteArray) : Option (Int) :=
 flb (iter (zq109_L1 list name) (0 : Int)) fun (_ : Unit) =>
 some (-1)
noncomputable def zq111_L1 (x : Line) (stops : Int) : Int → Option (Lp (Int) (Fl (Bool) (Unit)))
 | v1 =>
  if (decide (v1 < (x.Stops.length : Int))) = true then
   (idx x.Stops v1).bind fun e2 =>
   (zq100 e2 0 (w64 (stops - 1))).bind fun r4 =>
   (if (!r4) = true then some true else (idx x.Stops v1).bind fun e3 =>
   (zq116 x e3).bind fun r5 =>
   some (r5 != v1)).bind fun (v2 : Bool) =>
   if v2 = true then
    some (.dn (.ret false))
   else
    some (.nx (w64 (v1 + 1)))
  else
   some (.dn (.go ()))
noncomputable def zq111_L2 (x : Line) : Int → Option (Lp (Int) (Fl (Bool) (Unit)))
 | v3 =>
  if (decide (v3 < (x.Runs.length : Int))) = true then
   (idx x.Runs v3).bind fun e5 =>
   (zq100 e5 1 60).bind fun r7 =>
   if (!r7) = true then
    some (.dn (.ret false))
   else
    some (.nx (w64 (v3 + 1)))
  else
   some (.dn (.go ()))
noncomputable def zq111 (x : Line) (stops : Int) : Option (Bool) :=
 (zq113 x.Name).bind fun r =>
 (if (!r) = true then some true else (zq100 (x.Stops.length : Int) 2 6).bind fun r1 =>
 if (!r1) = true then some true else some ((x.Runs.length : Int) != (w64 ((x.Stops.length : Int) - 1)))).bind fun (v : Bool) =>
 if v = true then
  some false
 else
  flb (iter (zq111_L1 x stops) (0 : Int)) fun (_ : Unit) =>
  flb (iter (zq111_L2 x) (0 : Int)) fun (_ : Unit) =>
  some true
noncomputable def zq112_L1 (n : Network) (name : ByteArray) : Int → Option (Lp (Int) (Fl (Int) (Unit)))
 | v =>
  if (decide (v < (n.Lines.length : Int))) = true then
   (idx n.Lines v).bind fun e =>
   if (e.Name.toList == name.toList) = true then
    some (.dn (.ret v))
   else
    some (.nx (w64 (v + 1)))
  else
   some (.dn (.go ()))
noncomputable def zq112 (n : Network) (name : ByteArray) : Option (Int) :=
 flb (iter (zq112_L1 n name) (0 : Int)) fun (_ : Unit) =>
 some (-1)
noncomputable def zq110_L1 (n : Network) : Int → Option (Lp (Int) (Fl (Bool) (Unit)))
 | i =>
  if (decide (i < (n.Stops.length : Int))) = true then
   (idx n.Stops i).bind fun e2 =>
   (zq113 e2).bind fun r4 =>
   (if (!r4) = true then some true else (idx n.Stops i).bind fun e3 =>
   (zq109 n.Stops e3).bind fun r5 =>
   some (r5 != i)).bind fun (v1 : Bool) =>
   if v1 = true then
    some (.dn (.ret false))
   else
    some (.nx (w64 (i + 1)))
  else
   some (.dn (.go ()))
noncomputable def zq110_L2 (n : Network) : Int → Option (Lp (Int) (Fl (Bool) (Unit)))
 | v2 =>
  if (decide (v2 < (n.Lines.length : Int))) = true then
   (idx n.Lines v2).bind fun e7 =>
   (zq111 e7 (n.Stops.length : Int)).bind fun r9 =>
   (if (!r9) = true then some true else (idx n.Lines v2).bind fun e8 =>
   (zq112 n e8.Name).bind fun r10 =>
   some (r10 != v2)).bind fun (v3 : Bool) =>
   if v3 = true then
    some (.dn (.ret false))
   else
    some (.nx (w64 (v2 + 1)))
  else
   some (.dn (.go ()))
noncomputable def zq110 (n : Network) : Option (Bool) :=
 (zq100 (n.Stops.length : Int) 2 8).bind fun r =>
 (if (!r) = true then some true else (zq100 (n.Lines.length : Int) 1 5).bind fun r1 =>
 some (!r1)).bind fun (v : Bool) =>
 if v = true then
  some false
 else
  flb (iter (zq110_L1 n) (0 : Int)) fun (_ : Unit) =>
  flb (iter (zq110_L2 n) (0 : Int)) fun (_ : Unit) =>
  some true
noncomputable def zq118 (t : Int) : Option (Bool) :=
 (zq100 t 0 1799).bind fun r =>
 some r
noncomputable def zq123 (t : Timetable) (i : Int) : Option (Line) :=
 (idx t.Trips i).bind fun e2 =>
 (idx t.Network.Lines e2.Line).bind fun e3 =>
 some e3
noncomputable def zq124 (t : Timetable) (i : Int) : Option ((List Int)) :=
 (zq123 t i).bind fun r =>
 some r.Stops
noncomputable def zq117_L1 (x : Line) (to : Int) : Int × Int → Option (Lp (Int × Int) (Int))
 | (v, v1) =>
  if (decide (v1 < to)) = true then
   (idx x.Runs v1).bind fun e =>
   some (.nx ((w64 (v + e)), (w64 (v1 + 1))))
  else
   some (.dn v)
noncomputable def zq117 (x : Line) (from_ : Int) (to : Int) : Option (Int) :=
 (iter (zq117_L1 x to) ((0 : Int), from_)).bind fun (v2 : Int) =>
 some v2
noncomputable def zq119 (t : Timetable) (i : Int) (k : Int) : Option (Int) :=
 (idx t.Trips i).bind fun e1 =>
 (zq123 t i).bind fun r2 =>
 (zq117 r2 0 k).bind fun r3 =>
 some (w64 (e1.Start + r3))
noncomputable def zq120 (t : Timetable) (i : Int) : Option (Int) :=
 (zq124 t i).bind fun r2 =>
 (zq119 t i (w64 ((r2.length : Int) - 1))).bind fun r3 =>
 some r3
noncomputable def zq122_L1 (t : Timetable) : Int → Option (Lp (Int) (Fl (Bool) (Unit)))
 | x =>
  if (decide (x < (t.Trips.length : Int))) = true then
   (idx t.Trips x).bind fun e =>
   (zq100 e.Id 1 999).bind fun r6 =>
   (if (!r6) = true then some true else (zq100 e.Line 0 (w64 ((t.Network.Lines.length : Int) - 1))).bind fun r7 =>
   if (!r7) = true then some true else (zq118 e.Start).bind fun r8 =>
   if (!r8) = true then some true else (zq120 t x).bind fun r9 =>
   (zq118 r9).bind fun r10 =>
   if (!r10) = true then some true else if (decide (0 < x)) = true then (idx t.Trips (w64 (x - 1))).bind fun e2 =>
   some (decide (e.Id ≤ e2.Id)) else some false).bind fun (v1 : Bool) =>
   if v1 = true then
    some (.dn (.ret false))
   else
    some (.nx (w64 (x + 1)))
  else
   some (.dn (.go ()))
noncomputable def zq122 (t : Timetable) : Option (Bool) :=
 (zq110 t.Network).bind fun r =>
 (if (!r) = true then some true else some (decide (12 < (t.Trips.length : Int)))).bind fun (v : Bool) =>
 if v = true then
  some false
 else
  flb (iter (zq122_L1 t) (0 : Int)) fun (_ : Unit) =>
  some true
noncomputable def zq53_L1 (f : Fleet) (v1 : Int) : Int → Option (Lp (Int) (Fl (Lp (Int) (Fl (Bool) (Unit))) (Unit)))
 | v3 =>
  (idx f.Dead v1).bind fun e7 =>
  if (decide (v3 < (e7.length : Int))) = true then
   (idx f.Dead v1).bind fun e8 =>
   (idx e8 v3).bind fun e9 =>
   (zq100 e9 0 120).bind fun r3 =>
   if (!r3) = true then
    some (.dn (.ret (.dn (.ret false))))
   else
    some (.nx (w64 (v3 + 1)))
  else
   some (.dn (.go ()))
noncomputable def zq53_L2 (n : Network) (f : Fleet) : Int → Option (Lp (Int) (Fl (Bool) (Unit)))
 | v1 =>
  if (decide (v1 < (f.Dead.length : Int))) = true then
   (idx f.Dead v1).bind fun e3 =>
   (if ((e3.length : Int) != (n.Stops.length : Int)) = true then some true else (idx f.Dead v1).bind fun e4 =>
   (idx e4 v1).bind fun e5 =>
   some (e5 != 0)).bind fun (v2 : Bool) =>
   if v2 = true then
    some (.dn (.ret false))
   else
    flb (iter (zq53_L1 f v1) (0 : Int)) fun (_ : Unit) =>
    some (.nx (w64 (v1 + 1)))
  else
   some (.dn (.go ()))
noncomputable def zq53 (n : Network) (f : Fleet) : Option (Bool) :=
 (zq110 n).bind fun r =>
 (if (!r) = true then some true else if ((f.Dead.length : Int) != (n.Stops.length : Int)) = true then some true else (zq100 f.Turn 0 30).bind fun r1 =>
 some (!r1)).bind fun (v : Bool) =>
 if v = true then
  some false
 else
  flb (iter (zq53_L2 n f) (0 : Int)) fun (_ : Unit) =>
  some true
noncomputable def zq46 (t : Timetable) (f : Fleet) : Option (Bool) :=
 (zq122 t).bind fun r =>
 (if r = true then (zq53 t.Network f).bind fun r1 =>
 some r1 else some false).bind fun (v : Bool) =>
 some v
noncomputable def zq52 (t : Timetable) (f : Fleet) (a : Int) (b : Int) : Option (Int) :=
 (zq124 t a).bind fun r2 =>
 (zq124 t b).bind fun r3 =>
 (idx r2 (w64 ((r2.length : Int) - 1))).bind fun e4 =>
 (idx f.Dead e4).bind fun e5 =>
 (idx r3 0).bind fun e6 =>
 (idx e5 e6).bind fun e7 =>
 some e7
noncomputable def zq54 (t : Timetable) (f : Fleet) (a : Int) (b : Int) : Option (Bool) :=
 (if (a != b) = true then (idx t.Trips b).bind fun e1 =>
 (zq120 t a).bind fun r2 =>
 (zq52 t f a b).bind fun r3 =>
 some (decide ((w64 ((w64 (r2 + f.Turn)) + r3)) ≤ e1.Start)) else some false).bind fun (v : Bool) =>
 some v
noncomputable def zq101 (a : Int) (b : Int) : Option (Int) :=
 if (decide (a < b)) = true then
  some a
 else
  some b
noncomputable def zq55_L1 (rec_ : l11Plan → Int → Int → Option (Int × (List (List Int)))) (x : l11Plan) (i : Int) (used : Int) : Int × Int × (List (List Int)) → Option (Lp (Int × Int × (List (List Int))) (Int × (List (List Int))))
 | (v, v1, v2) =>
  if (decide (v1 < (x.t_.Trips.length : Int))) = true then
   ((chk ((0 : Int) ≤ (IntKind.u64.wrap (v1)))).bind fun u1 =>
   (if ((IntKind.i64.wrap ((BitVec.ofInt (IntKind.i64).bits (used.fdiv (2 ^ (min ((IntKind.u64.wrap (v1)) : Int).toNat (IntKind.i64).bits))) &&& BitVec.ofInt (IntKind.i64).bits 1).toNat : Int)) == 0) = true then (zq54 x.t_ x.f_ v1 i).bind fun r2 =>
   some r2 else some false).bind fun (v5 : Bool) =>
   if v5 = true then
    (zq52 x.t_ x.f_ v1 i).bind fun r6 =>
    (chk ((0 : Int) ≤ (IntKind.u64.wrap (v1)))).bind fun u3 =>
    (rec_ (⟨x.t_, x.f_, v2⟩ : l11Plan) (w64 (i + 1)) (IntKind.i64.wrap ((BitVec.ofInt (IntKind.i64).bits used ||| BitVec.ofInt (IntKind.i64).bits (w64 (1 * 2 ^ (min ((IntKind.u64.wrap (v1)) : Int).toNat (IntKind.i64).bits)))).toNat : Int))).bind fun r7 =>
    (zq101 v (w64 (r6 + r7.1))).bind fun r8 =>
    some (r8, r7.2)
   else
    some (v, v2)).bind fun ((v3, v4) : Int × (List (List Int))) =>
   some (.nx (v3, (w64 (v1 + 1)), v4))
  else
   some (.dn (v, v2))
noncomputable def zq55_F (rec_ : l11Plan → Int → Int → Option (Int × (List (List Int)))) (x : l11Plan) (i : Int) (used : Int) : Option (Int × (List (List Int))) :=
 if (i == (x.t_.Trips.length : Int)) = true then
  some (0, x.known_)
 else
  (idx x.known_ i).bind fun e =>
  (idx e used).bind fun e1 =>
  if (decide (0 ≤ e1)) = true then
   (idx x.known_ i).bind fun e2 =>
   (idx e used).bind fun e3 =>
   some (e3, x.known_)
  else
   (rec_ (⟨x.t_, x.f_, x.known_⟩ : l11Plan) (w64 (i + 1)) used).bind fun r =>
   (iter (zq55_L1 rec_ x i used) ((w64 (100000 + r.1)), (0 : Int), r.2)).bind fun ((v6, v7) : Int × (List (List Int))) =>
   (idx v7 i).bind fun e4 =>
   (idx e4 used).bind fun e5 =>
   some (v6, (v7.set i.toNat (e4.set used.toNat v6)))
noncomputable def zq55_k : Nat → l11Plan → Int → Int → Option (Int × (List (List Int)))
 | 0 => fun _ _ _ => none
 | n + 1 => zq55_F (zq55_k n)
noncomputable def zq55 (x : l11Plan) (i : Int) (used : Int) : Option (Int × (List (List Int))) := zq55_k 4294967296 x i used
noncomputable def zq47_L1 : Int × (List Int) → Option (Lp (Int × (List Int)) ((List Int)))
 | (used, out) =>
  if (decide (used < (out.length : Int))) = true then
   (idx out used).bind fun e =>
   some (.nx ((w64 (used + 1)), (out.set used.toNat (-1))))
  else
   some (.dn out)
noncomputable def zq47_L2 (t : Timetable) : Int × (List (List Int)) → Option (Lp (Int × (List (List Int))) ((List (List Int))))
 | (k, v) =>
  if (decide (k < (t.Trips.length : Int))) = true then
   (chk ((0 : Int) ≤ (IntKind.u64.wrap ((t.Trips.length : Int))))).bind fun u =>
   (chk ((0 : Int) ≤ (w64 (1 * 2 ^ (min ((IntKind.u64.wrap ((t.Trips.length : Int))) : Int).toNat (IntKind.i64).bits))) ∧ ((w64 (1 * 2 ^ (min ((IntKind.u64.wrap ((t.Trips.length : Int))) : Int).toNat (IntKind.i64).bits))) : Int) ≤ 4294967296)).bind fun u1 =>
   (iter (zq47_L1) ((0 : Int), (List.replicate (w64 (1 * 2 ^ (min ((IntKind.u64.wrap ((t.Trips.length : Int))) : Int).toNat (IntKind.i64).bits))).toNat (0 : Int)))).bind fun (out1 : List Int) =>
   (chk (v.length + ([out1] : List (List Int)).length ≤ 4294967296)).bind fun u2 =>
   some (.nx ((w64 (k + 1)), (v ++ ([out1] : List (List Int)))))
  else
   some (.dn v)
noncomputable def zq47_L3 (t : Timetable) (f : Fleet) (want : Int) (before : Int) (r : Int × (List (List Int))) : Int × Int × (List (List Int)) → Option (Lp (Int × Int × (List (List Int))) (Int × (List (List Int))))
 | (v5, v6, v7) =>
  (if (decide (v6 < (t.Trips.length : Int))) = true then some (decide (v5 < 0)) else some false).bind fun (v8 : Bool) =>
  if v8 = true then
   ((chk ((0 : Int) ≤ (IntKind.u64.wrap (v6)))).bind fun u3 =>
   (if ((IntKind.i64.wrap ((BitVec.ofInt (IntKind.i64).bits (want.fdiv (2 ^ (min ((IntKind.u64.wrap (v6)) : Int).toNat (IntKind.i64).bits))) &&& BitVec.ofInt (IntKind.i64).bits 1).toNat : Int)) == 0) = true then (zq54 t f v6 before).bind fun r2 =>
   if r2 = true then (zq52 t f v6 before).bind fun r3 =>
   (chk ((0 : Int) ≤ (IntKind.u64.wrap (v6)))).bind fun u4 =>
   (zq55 (⟨t, f, v7⟩ : l11Plan) (w64 (before + 1)) (IntKind.i64.wrap ((BitVec.ofInt (IntKind.i64).bits want ||| BitVec.ofInt (IntKind.i64).bits (w64 (1 * 2 ^ (min ((IntKind.u64.wrap (v6)) : Int).toNat (IntKind.i64).bits)))).toNat : Int))).bind fun r4 =>
   some (((w64 (r3 + r4.1)) == r.1), r4.2) else some (false, v7) else some (false, v7)).bind fun ((v11, v12) : Bool × (List (List Int))) =>
   if v11 = true then
    some (v6, v12)
   else
    some (v5, v12)).bind fun ((v9, v10) : Int × (List (List Int))) =>
   some (.nx (v9, (w64 (v6 + 1)), v10))
  else
   some (.dn (v5, v7))
noncomputable def zq47_L4 (t : Timetable) (f : Fleet) : Int × Int × (List Int) × (List (List Int)) → Option (Lp (Int × Int × (List Int) × (List (List Int))) ((List Int)))
 | (want, before, i, v2) =>
  if (decide (before < (t.Trips.length : Int))) = true then
   (zq55 (⟨t, f, v2⟩ : l11Plan) before want).bind fun r =>
   ((zq55 (⟨t, f, r.2⟩ : l11Plan) (w64 (before + 1)) want).bind fun r1 =>
   if ((w64 (100000 + r1.1)) != r.1) = true then
    (iter (zq47_L3 t f want before r) (((-1) : Int), (0 : Int), r1.2)).bind fun ((v13, v14) : Int × (List (List Int))) =>
    (chk ((0 : Int) ≤ (IntKind.u64.wrap (v13)))).bind fun u5 =>
    some ((IntKind.i64.wrap ((BitVec.ofInt (IntKind.i64).bits want ||| BitVec.ofInt (IntKind.i64).bits (w64 (1 * 2 ^ (min ((IntKind.u64.wrap (v13)) : Int).toNat (IntKind.i64).bits)))).toNat : Int)), v13, v14)
   else
    some (want, ((-1) : Int), r1.2)).bind fun ((want1, v3, v4) : Int × Int × (List (List Int))) =>
   (chk (i.length + ([v3] : List Int).length ≤ 4294967296)).bind fun u6 =>
   some (.nx (want1, (w64 (before + 1)), (i ++ ([v3] : List Int)), v4))
  else
   some (.dn i)
noncomputable def zq47 (t : Timetable) (f : Fleet) : Option ((List Int)) :=
 (iter (zq47_L2 t) ((0 : Int), ([] : List (List Int)))).bind fun (v1 : List (List Int)) =>
 (iter (zq47_L4 t f) ((0 : Int), (0 : Int), ([] : List Int), v1)).bind fun (i1 : List Int) =>
 some i1
noncomputable def zq49_L1 (before : List Int) (k : Int) : Int × Int → Option (Lp (Int × Int) (Int))
 | (v, v1) =>
  if (decide (v1 < (before.length : Int))) = true then
   ((idx before v1).bind fun e2 =>
   if (e2 == k) = true then
    some v1
   else
    some v).bind fun (v2 : Int) =>
   some (.nx (v2, (w64 (v1 + 1))))
  else
   some (.dn v)
noncomputable def zq49_L2 (t : Timetable) (before : List Int) : Int × (List Int) → Option (Lp (Int × (List Int)) ((List Int)))
 | (k, next) =>
  if (decide (0 ≤ k)) = true then
   (idx t.Trips k).bind fun e1 =>
   (chk (next.length + ([e1.Id] : List Int).length ≤ 4294967296)).bind fun u =>
   (iter (zq49_L1 before k) (((-1) : Int), (0 : Int))).bind fun (v3 : Int) =>
   some (.nx (v3, (next ++ ([e1.Id] : List Int))))
  else
   some (.dn next)
noncomputable def zq49_L3 (t : Timetable) (before : List Int) : Int × (List (List Int)) → Option (Lp (Int × (List (List Int))) ((List (List Int))))
 | (at_, block) =>
  if (decide (at_ < (before.length : Int))) = true then
   ((idx before at_).bind fun e =>
   if (decide (0 ≤ e)) = true then
    some block
   else
    (iter (zq49_L2 t before) (at_, ([] : List Int))).bind fun (next1 : List Int) =>
    (chk (block.length + ([next1] : List (List Int)).length ≤ 4294967296)).bind fun u1 =>
    some (block ++ ([next1] : List (List Int)))).bind fun (block1 : List (List Int)) =>
   some (.nx ((w64 (at_ + 1)), block1))
  else
   some (.dn block)
noncomputable def zq49 (t : Timetable) (before : List Int) : Option ((List (List Int))) :=
 (iter (zq49_L3 t before) ((0 : Int), ([] : List (List Int)))).bind fun (block2 : List (List Int)) =>
 some block2
noncomputable def zq51_L1 (before : List Int) (k : Int) : Int × Int → Option (Lp (Int × Int) (Int))
 | (v, v1) =>
  if (decide (v1 < (before.length : Int))) = true then
   ((idx before v1).bind fun e2 =>
   if (e2 == k) = true then
    some v1
   else
    some v).bind fun (v2 : Int) =>
   some (.nx (v2, (w64 (v1 + 1))))
  else
   some (.dn v)
noncomputable def zq51_L2 (t : Timetable) (before : List Int) : Int × (List Int) → Option (Lp (Int × (List Int)) ((List Int)))
 | (k, next) =>
  if (decide (0 ≤ k)) = true then
   (idx t.Trips k).bind fun e1 =>
   (chk (next.length + ([e1.Id] : List Int).length ≤ 4294967296)).bind fun u =>
   (iter (zq51_L1 before k) (((-1) : Int), (0 : Int))).bind fun (v3 : Int) =>
   some (.nx (v3, (next ++ ([e1.Id] : List Int))))
  else
   some (.dn next)
noncomputable def zq51_L3 (t : Timetable) (before : List Int) : Int × (List (List Int)) → Option (Lp (Int × (List (List Int))) ((List (List Int))))
 | (at_, block) =>
  if (decide (at_ < (before.length : Int))) = true then
   ((idx before at_).bind fun e =>
   if (decide (0 ≤ e)) = true then
    some block
   else
    (iter (zq51_L2 t before) (at_, ([] : List Int))).bind fun (next1 : List Int) =>
    (chk (block.length + ([next1] : List (List Int)).length ≤ 4294967296)).bind fun u1 =>
    some (block ++ ([next1] : List (List Int)))).bind fun (block1 : List (List Int)) =>
   some (.nx ((w64 (at_ + 1)), block1))
  else
   some (.dn block)
noncomputable def zq51 (t : Timetable) (before : List Int) : Option ((List (List Int))) :=
 (iter (zq51_L3 t before) ((0 : Int), ([] : List (List Int)))).bind fun (block2 : List (List Int)) =>
 some block2
noncomputable def zq83 (c : l1Cur) (t : Timetable) : Option (Int × l1Cur) :=
 (if ((t.Trips.length : Int) == 0) = true then some (true, c.code_, c.at_, c.seed_.v) else (zq91 c 8).bind fun r =>
 some (r.1, r.2.code_, r.2.at_, r.2.seed_.v)).bind fun ((v, v1, v2, v3) : Bool × (List UInt8) × Int × Int) =>
 if v = true then
  (zq93 (⟨v1, v2, (⟨v3⟩ : IK .u64)⟩ : l1Cur) 30).bind fun r1 =>
  some (r1.1, r1.2)
 else
  (zq93 (⟨v1, v2, (⟨v3⟩ : IK .u64)⟩ : l1Cur) (t.Trips.length : Int)).bind fun r3 =>
  (idx t.Trips r3.1).bind fun e1 =>
  some (e1.Id, r3.2)
noncomputable def zq96_L1 (r : Network × l1Cur) : Int × Int × (List UInt8) × Int × Int × (List Trip) → Option (Lp (Int × Int × (List UInt8) × Int × Int × (List Trip)) ((List UInt8) × Int × Int × (List Trip)))
 | (n, v, v1, v2, v3, v4) =>
  if (decide (0 < v)) = true then
   (zq93 (⟨v1, v2, (⟨v3⟩ : IK .u64)⟩ : l1Cur) 3).bind fun r2 =>
   (zq93 r2.2 (r.1.Lines.length : Int)).bind fun r5 =>
   (zq93 r5.2 24).bind fun r6 =>
   (chk (v4.length + ([(⟨(w64 ((w64 (n + 1)) + r2.1)), r5.1, (w64 (360 + (w64 (5 * r6.1))))⟩ : Trip)] : List Trip).length ≤ 4294967296)).bind fun u1 =>
   some (.nx ((w64 ((w64 (n + 1)) + r2.1)), (w64 (v - 1)), r6.2.code_, r6.2.at_, r6.2.seed_.v, (v4 ++ ([(⟨(w64 ((w64 (n + 1)) + r2.1)), r5.1, (w64 (360 + (w64 (5 * r6.1))))⟩ : Trip)] : List Trip))))
  else
   some (.dn (v1, v2, v3, v4))
noncomputable def zq96 (c : l1Cur) : Option (Timetable × l1Cur) :=
 (zq87 c).bind fun r =>
 (zq93 r.2 8).bind fun r1 =>
 (iter (zq96_L1 r) ((0 : Int), r1.1, r1.2.code_, r1.2.at_, r1.2.seed_.v, ([] : List Trip))).bind fun ((v5, v6, v7, v8) : (List UInt8) × Int × Int × (List Trip)) =>
 some ((⟨(⟨r.1.Stops, r.1.Lines⟩ : Network), v8⟩ : Timetable), (⟨v5, v6, (⟨v7⟩ : IK .u64)⟩ : l1Cur))
noncomputable def zq76_L1 (r : Network × l1Cur) : Int × (List UInt8) × Int × Int × (List Line) → Option (Lp (Int × (List UInt8) × Int × Int × (List Line)) ((List UInt8) × Int × Int × (List Line)))
 | (v7, v8, v9, v10, v11) =>
  (zq93 (⟨v8, v9, (⟨v10⟩ : IK .u64)⟩ : l1Cur) 2).bind fun r16 =>
  (if (decide ((v11.length : Int) < (w64 (5 + r16.1)))) = true then some (decide (v7 < 7)) else some false).bind fun (v12 : Bool) =>
  if v12 = true then
   (zq103 v7).bind fun r19 =>
   (chk ((str [120]).size + r19.size ≤ 4294967296)).bind fun u3 =>
   (zq84 r16.2 ((str [120]) ++ r19) (r.1.Stops.length : Int)).bind fun r20 =>
   (chk (v11.length + ([(⟨r20.1.Name, r20.1.Stops, r20.1.Runs⟩ : Line)] : List Line).length ≤ 4294967296)).bind fun u4 =>
   some (.nx ((w64 (v7 + 1)), r20.2.code_, r20.2.at_, r20.2.seed_.v, (v11 ++ ([(⟨r20.1.Name, r20.1.Stops, r20.1.Runs⟩ : Line)] : List Line))))
  else
   some (.dn (r16.2.code_, r16.2.at_, r16.2.seed_.v, v11))
noncomputable def zq76 (c : l1Cur) : Option (Network × l1Cur) :=
 (zq87 c).bind fun r =>
 (zq93 r.2 (r.1.Lines.length : Int)).bind fun r1 =>
 (idx r.1.Lines r1.1).bind fun e =>
 flb ((zq93 r1.2 24).bind fun r2 =>
 if (r2.1 == 0) = true then
  (zq90 r2.2 ([(str [109, 105, 108, 108]), (str []), (str [65]), (str [97, 98, 99, 100, 101, 102, 103, 104]), (str [97, 98, 99, 100, 101, 102, 103, 104, 105])] : List ByteArray)).bind fun r4 =>
  (idx r.1.Stops 0).bind fun e2 =>
  some (.go (r4.2.code_, r4.2.at_, r4.2.seed_.v, e.Name, (r.1.Stops.set (0 : Int).toNat r4.1), r.1.Lines, e.Runs))
 else
  if (r2.1 == 1) = true then
   (zq90 r2.2 ([(str [114, 49]), (str [108, 49]), (str []), (str [88])] : List ByteArray)).bind fun r5 =>
   some (.go (r5.2.code_, r5.2.at_, r5.2.seed_.v, r5.1, r.1.Stops, r.1.Lines, e.Runs))
  else
   if (r2.1 == 2) = true then
    (zq93 r2.2 (e.Stops.length : Int)).bind fun r8 =>
    (zq93 r8.2 10).bind fun r9 =>
    (idx e.Stops r8.1).bind fun e4 =>
    some (.go (r9.2.code_, r9.2.at_, r9.2.seed_.v, e.Name, r.1.Stops, (r.1.Lines.set r1.1.toNat (⟨e.Name, (e.Stops.set r8.1.toNat (w64 (r9.1 - 1))), e.Runs⟩ : Line)), ((⟨e.Name, (e.Stops.set r8.1.toNat (w64 (r9.1 - 1))), e.Runs⟩ : Line).Runs)))
   else
    if (r2.1 == 3) = true then
     (zq93 r2.2 (e.Runs.length : Int)).bind fun r12 =>
     (zq74 r12.2 ([0, 60, 61, (-1)] : List Int)).bind fun r13 =>
     (idx e.Runs r12.1).bind fun e6 =>
     some (.go (r13.2.code_, r13.2.at_, r13.2.seed_.v, e.Name, r.1.Stops, (r.1.Lines.set r1.1.toNat (⟨e.Name, e.Stops, (e.Runs.set r12.1.toNat r13.1)⟩ : Line)), ((⟨e.Name, e.Stops, (e.Runs.set r12.1.toNat r13.1)⟩ : Line).Runs)))
    else
     if (r2.1 == 4) = true then
      (chk (e.Runs.length + ([3] : List Int).length ≤ 4294967296)).bind fun u =>
      some (.go (r2.2.code_, r2.2.at_, r2.2.seed_.v, e.Name, r.1.Stops, r.1.Lines, (e.Runs ++ ([3] : List Int))))
     else
      if (r2.1 == 5) = true then
       some (.ret ((⟨r.1.Stops, ([] : List Line)⟩ : Network), r2.2))
      else
       if (r2.1 == 6) = true then
        (iter (zq76_L1 r) ((0 : Int), r2.2.code_, r2.2.at_, r2.2.seed_.v, r.1.Lines)).bind fun ((v13, v14, v15, v16) : (List UInt8) × Int × Int × (List Line)) =>
        some (.ret ((⟨r.1.Stops, v16⟩ : Network), (⟨v13, v14, (⟨v15⟩ : IK .u64)⟩ : l1Cur)))
       else
        some (.go (r2.2.code_, r2.2.at_, r2.2.seed_.v, e.Name, r.1.Stops, r.1.Lines, e.Runs))) fun ((v, v1, v2, v3, v4, v5, v6) : (List UInt8) × Int × Int × ByteArray × (List ByteArray) × (List Line) × (List Int)) =>
 (idx v5 r1.1).bind fun e9 =>
 some ((⟨v4, (v5.set r1.1.toNat (⟨v3, e9.Stops, v6⟩ : Line))⟩ : Network), (⟨v, v1, (⟨v2⟩ : IK .u64)⟩ : l1Cur))
noncomputable def zq78_L1 : Int × (List UInt8) × Int × Int × (List Trip) → Option (Lp (Int × (List UInt8) × Int × Int × (List Trip)) ((List UInt8) × Int × Int × (List Trip)))
 | (v8, v9, v10, v11, v12) =>
  (zq93 (⟨v9, v10, (⟨v11⟩ : IK .u64)⟩ : l1Cur) 2).bind fun r8 =>
  (if (decide ((v12.length : Int) < (w64 (12 + r8.1)))) = true then some (decide (v8 < 14)) else some false).bind fun (v13 : Bool) =>
  if v13 = true then
   (chk (v12.length + ([(⟨(w64 (100 + v8)), 0, (w64 (400 + v8))⟩ : Trip)] : List Trip).length ≤ 4294967296)).bind fun u =>
   some (.nx ((w64 (v8 + 1)), r8.2.code_, r8.2.at_, r8.2.seed_.v, (v12 ++ ([(⟨(w64 (100 + v8)), 0, (w64 (400 + v8))⟩ : Trip)] : List Trip))))
  else
   some (.dn (r8.2.code_, r8.2.at_, r8.2.seed_.v, v12))
noncomputable def zq78 (c : l1Cur) : Option (Timetable × l1Cur) :=
 (zq96 c).bind fun r =>
 if ((r.1.Trips.length : Int) == 0) = true then
  some ((⟨(⟨r.1.Network.Stops, r.1.Network.Lines⟩ : Network), r.1.Trips⟩ : Timetable), r.2)
 else
  (zq93 r.2 (r.1.Trips.length : Int)).bind fun r1 =>
  (idx r.1.Trips r1.1).bind fun e =>
  flb ((zq93 r1.2 24).bind fun r2 =>
  if (r2.1 == 0) = true then
   (zq73 r2.2 ([0, 999, 1000, 2] : List Int)).bind fun r3 =>
   some (.go (r3.2.code_, r3.2.at_, r3.2.seed_.v, r.1.Network.Lines, r3.1, e.Line, e.Start, r.1.Network.Stops))
  else
   if (r2.1 == 1) = true then
    (zq93 r2.2 7).bind fun r4 =>
    some (.go (r4.2.code_, r4.2.at_, r4.2.seed_.v, r.1.Network.Lines, e.Id, (w64 (r4.1 - 1)), e.Start, r.1.Network.Stops))
   else
    if (r2.1 == 2) = true then
     (zq73 r2.2 ([(-1), 0, 1799, 1798, 1800] : List Int)).bind fun r5 =>
     some (.go (r5.2.code_, r5.2.at_, r5.2.seed_.v, r.1.Network.Lines, e.Id, e.Line, r5.1, r.1.Network.Stops))
    else
     if (r2.1 == 3) = true then
      (zq75 r2.2).bind fun r6 =>
      some (.go (r6.2.code_, r6.2.at_, r6.2.seed_.v, r6.1.Lines, e.Id, e.Line, e.Start, r6.1.Stops))
     else
      if (r2.1 == 4) = true then
       (iter (zq78_L1) ((0 : Int), r2.2.code_, r2.2.at_, r2.2.seed_.v, r.1.Trips)).bind fun ((v14, v15, v16, v17) : (List UInt8) × Int × Int × (List Trip)) =>
       some (.ret ((⟨(⟨r.1.Network.Stops, r.1.Network.Lines⟩ : Network), v17⟩ : Timetable), (⟨v14, v15, (⟨v16⟩ : IK .u64)⟩ : l1Cur)))
      else
       some (.go (r2.2.code_, r2.2.at_, r2.2.seed_.v, r.1.Network.Lines, e.Id, e.Line, e.Start, r.1.Network.Stops))) fun ((v, v1, v2, v3, v4, v5, v6, v7) : (List UInt8) × Int × Int × (List Line) × Int × Int × Int × (List ByteArray)) =>
  (idx r.1.Trips r1.1).bind fun e2 =>
  some ((⟨(⟨v7, v3⟩ : Network), (r.1.Trips.set r1.1.toNat (⟨v4, v5, v6⟩ : Trip))⟩ : Timetable), (⟨v, v1, (⟨v2⟩ : IK .u64)⟩ : l1Cur))
noncomputable def zq98_L1 (r2 : Network × l1Cur) : Int × (List UInt8) × Int × Int × (List Trip) → Option (Lp (Int × (List UInt8) × Int × Int × (List Trip)) ((List UInt8) × Int × Int × (List Trip)))
 | (i, v, v1, v2, v3) =>
  if (decide (0 < i)) = true then
   (zq93 (⟨v, v1, (⟨v2⟩ : IK .u64)⟩ : l1Cur) 2).bind fun r7 =>
   (zq93 r7.2 (r2.1.Lines.length : Int)).bind fun r8 =>
   (zq93 r8.2 16).bind fun r9 =>
   (chk (v3.length + ([(⟨(w64 ((w64 ((v3.length : Int) + 1)) + (w64 ((w64 (2 * (v3.length : Int))) * r7.1)))), r8.1, (w64 (360 + (w64 (5 * r9.1))))⟩ : Trip)] : List Trip).length ≤ 4294967296)).bind fun u1 =>
   some (.nx ((w64 (i - 1)), r9.2.code_, r9.2.at_, r9.2.seed_.v, (v3 ++ ([(⟨(w64 ((w64 ((v3.length : Int) + 1)) + (w64 ((w64 (2 * (v3.length : Int))) * r7.1)))), r8.1, (w64 (360 + (w64 (5 * r9.1))))⟩ : Trip)] : List Trip))))
  else
   some (.dn (v, v1, v2, v3))
noncomputable def zq98_L2 : Int × (List Trip) → Option (Lp (Int × (List Trip)) ((List Trip)))
 | (x, v8) =>
  if (decide (x < (v8.length : Int))) = true then
   (idx v8 x).bind fun e =>
   (idx v8 (w64 (x - 1))).bind fun e2 =>
   (zq102 e.Id (w64 (e2.Id + 1))).bind fun r11 =>
   (idx v8 x).bind fun e3 =>
   some (.nx ((w64 (x + 1)), (v8.set x.toNat (⟨r11, e.Line, e.Start⟩ : Trip))))
  else
   some (.dn v8)
noncomputable def zq98 (c : l1Cur) : Option (Timetable × l1Cur) :=
 (zq91 c 16).bind fun r =>
 if r.1 = true then
  (zq77 r.2).bind fun r1 =>
  some ((⟨(⟨r1.1.Network.Stops, r1.1.Network.Lines⟩ : Network), r1.1.Trips⟩ : Timetable), r1.2)
 else
  (zq87 r.2).bind fun r2 =>
  (zq93 r2.2 6).bind fun r3 =>
  (iter (zq98_L1 r2) ((w64 (3 + r3.1)), r3.2.code_, r3.2.at_, r3.2.seed_.v, ([] : List Trip))).bind fun ((v4, v5, v6, v7) : (List UInt8) × Int × Int × (List Trip)) =>
  (iter (zq98_L2) ((1 : Int), v7)).bind fun (v9 : List Trip) =>
  some ((⟨(⟨r2.1.Stops, r2.1.Lines⟩ : Network), v9⟩ : Timetable), (⟨v4, v5, (⟨v6⟩ : IK .u64)⟩ : l1Cur))
noncomputable def zq82_L1 (n : Network) (k : Int) : Int × (List UInt8) × Int × Int × (List Int) → Option (Lp (Int × (List UInt8) × Int × Int × (List Int)) ((List UInt8) × Int × Int × (List Int)))
 | (v4, v5, v6, v7, v8) =>
  if (decide (v4 < (n.Stops.length : Int))) = true then
   (zq102 (w64 (k - v4)) (w64 (v4 - k))).bind fun r1 =>
   (zq93 (⟨v5, v6, (⟨v7⟩ : IK .u64)⟩ : l1Cur) 4).bind fun r2 =>
   (chk (v8.length + ([(w64 (r1 * (w64 (2 + r2.1))))] : List Int).length ≤ 4294967296)).bind fun u =>
   some (.nx ((w64 (v4 + 1)), r2.2.code_, r2.2.at_, r2.2.seed_.v, (v8 ++ ([(w64 (r1 * (w64 (2 + r2.1))))] : List Int))))
  else
   some (.dn (v5, v6, v7, v8))
noncomputable def zq82_L2 (n : Network) : Int × (List UInt8) × Int × Int × (List (List Int)) → Option (Lp (Int × (List UInt8) × Int × Int × (List (List Int))) ((List UInt8) × Int × Int × (List (List Int))))
 | (k, v, v1, v2, v3) =>
  if (decide (k < (n.Stops.length : Int))) = true then
   (iter (zq82_L1 n k) ((0 : Int), v, v1, v2, ([] : List Int))).bind fun ((v9, v10, v11, v12) : (List UInt8) × Int × Int × (List Int)) =>
   (chk (v3.length + ([v12] : List (List Int)).length ≤ 4294967296)).bind fun u1 =>
   some (.nx ((w64 (k + 1)), v9, v10, v11, (v3 ++ ([v12] : List (List Int)))))
  else
   some (.dn (v, v1, v2, v3))
noncomputable def zq82 (c : l1Cur) (n : Network) : Option (Fleet × l1Cur) :=
 (zq74 c ([0, 2, 5, 3] : List Int)).bind fun r =>
 (iter (zq82_L2 n) ((0 : Int), r.2.code_, r.2.at_, r.2.seed_.v, ([] : List (List Int)))).bind fun ((v13, v14, v15, v16) : (List UInt8) × Int × Int × (List (List Int))) =>
 ((zq93 (⟨v13, v14, (⟨v15⟩ : IK .u64)⟩ : l1Cur) 32).bind fun r3 =>
 if (r3.1 == 0) = true then
  (zq74 r3.2 ([30, 31, (-1)] : List Int)).bind fun r4 =>
  some (r4.2.code_, r4.2.at_, r4.2.seed_.v, v16, r4.1)
 else
  if (r3.1 == 1) = true then
   (idx v16 0).bind fun e =>
   (idx e 0).bind fun e1 =>
   some (r3.2.code_, r3.2.at_, r3.2.seed_.v, (v16.set (0 : Int).toNat (e.set (0 : Int).toNat 1)), r.1)
  else
   if (r3.1 == 2) = true then
    (idx v16 0).bind fun e4 =>
    (zq74 r3.2 ([120, 121, (-1)] : List Int)).bind fun r6 =>
    (idx e4 (w64 ((n.Stops.length : Int) - 1))).bind fun e5 =>
    some (r6.2.code_, r6.2.at_, r6.2.seed_.v, (v16.set (0 : Int).toNat (e4.set (w64 ((n.Stops.length : Int) - 1)).toNat r6.1)), r.1)
   else
    if (r3.1 == 3) = true then
     (chk ((0 : Int) ≤ 1 ∧ 1 ≤ (v16.length : Int))).bind fun u2 =>
     some (r3.2.code_, r3.2.at_, r3.2.seed_.v, (v16.drop (1 : Int).toNat), r.1)
    else
     some (r3.2.code_, r3.2.at_, r3.2.seed_.v, v16, r.1)).bind fun ((v17, v18, v19, v20, v21) : (List UInt8) × Int × Int × (List (List Int)) × Int) =>
 some ((⟨v20, v21⟩ : Fleet), (⟨v17, v18, (⟨v19⟩ : IK .u64)⟩ : l1Cur))
noncomputable def zq50_L1 (before : List Int) (k : Int) : Int × Int → Option (Lp (Int × Int) (Int))
 | (v, v1) =>
  if (decide (v1 < (before.length : Int))) = true then
   ((idx before v1).bind fun e2 =>
   if (e2 == k) = true then
    some v1
   else
    some v).bind fun (v2 : Int) =>
   some (.nx (v2, (w64 (v1 + 1))))
  else
   some (.dn v)
noncomputable def zq50_L2 (t : Timetable) (before : List Int) : Int × (List Int) → Option (Lp (Int × (List Int)) ((List Int)))
 | (k, next) =>
  if (decide (0 ≤ k)) = true then
   (idx t.Trips k).bind fun e1 =>
   (chk (next.length + ([e1.Id] : List Int).length ≤ 4294967296)).bind fun u =>
   (iter (zq50_L1 before k) (((-1) : Int), (0 : Int))).bind fun (v3 : Int) =>
   some (.nx (v3, (next ++ ([e1.Id] : List Int))))
  else
   some (.dn next)
noncomputable def zq50_L3 (t : Timetable) (before : List Int) : Int × (List (List Int)) → Option (Lp (Int × (List (List Int))) ((List (List Int))))
 | (at_, block) =>
  if (decide (at_ < (before.length : Int))) = true then
   ((idx before at_).bind fun e =>
   if (decide (0 ≤ e)) = true then
    some block
   else
    (iter (zq50_L2 t before) (at_, ([] : List Int))).bind fun (next1 : List Int) =>
    (chk (block.length + ([next1] : List (List Int)).length ≤ 4294967296)).bind fun u1 =>
    some (block ++ ([next1] : List (List Int)))).bind fun (block1 : List (List Int)) =>
   some (.nx ((w64 (at_ + 1)), block1))
  else
   some (.dn block)
noncomputable def zq50 (t : Timetable) (before : List Int) : Option ((List (List Int))) :=
 (iter (zq50_L3 t before) ((0 : Int), ([] : List (List Int)))).bind fun (block2 : List (List Int)) =>
 some block2
noncomputable def zq94 (c : l1Cur) : Option (Timetable × Fleet × (List (List Int)) × l1Cur) :=
 (zq97 c).bind fun r =>
 (zq81 r.2 r.1.Network).bind fun r1 =>
 (zq46 (⟨r.1.Network, r.1.Trips⟩ : Timetable) r1.1).bind fun r2 =>
 (if (!r2) = true then some true else some (decide (9 < (r.1.Trips.length : Int)))).bind fun (v : Bool) =>
 if v = true then
  some ((⟨r.1.Network, r.1.Trips⟩ : Timetable), r1.1, ([] : List (List Int)), r1.2)
 else
  (zq47 (⟨r.1.Network, r.1.Trips⟩ : Timetable) r1.1).bind fun r5 =>
  (zq50 (⟨r.1.Network, r.1.Trips⟩ : Timetable) r5).bind fun r6 =>
  ((if (decide (0 < (r6.length : Int))) = true then (zq91 r1.2 8).bind fun r7 =>
  some (r7.1, r7.2.code_, r7.2.at_, r7.2.seed_.v) else some (false, r1.2.code_, r1.2.at_, r1.2.seed_.v)).bind fun ((v4, v5, v6, v7) : Bool × (List UInt8) × Int × Int) =>
  if v4 = true then
   (zq93 (⟨v5, v6, (⟨v7⟩ : IK .u64)⟩ : l1Cur) (r6.length : Int)).bind fun r8 =>
   (zq93 r8.2 3).bind fun r9 =>
   if (r9.1 == 0) = true then
    (idx r6 r8.1).bind fun e2 =>
    (zq83 r9.2 r.1).bind fun r11 =>
    (chk (e2.length + ([r11.1] : List Int).length ≤ 4294967296)).bind fun u1 =>
    (idx r6 r8.1).bind fun e3 =>
    some (r11.2.code_, r11.2.at_, r11.2.seed_.v, (r6.set r8.1.toNat (e2 ++ ([r11.1] : List Int))))
   else
    if (r9.1 == 1) = true then
     (idx r6 r8.1).bind fun e4 =>
     (chk ((0 : Int) ≤ 1 ∧ 1 ≤ (e4.length : Int))).bind fun u2 =>
     (idx r6 r8.1).bind fun e5 =>
     some (r9.2.code_, r9.2.at_, r9.2.seed_.v, (r6.set r8.1.toNat (e4.drop (1 : Int).toNat)))
    else
     (idx r6 r8.1).bind fun e6 =>
     (chk (r6.length + ([e6] : List (List Int)).length ≤ 4294967296)).bind fun u3 =>
     some (r9.2.code_, r9.2.at_, r9.2.seed_.v, (r6 ++ ([e6] : List (List Int))))
  else
   some (v5, v6, v7, r6)).bind fun ((v1, v2, v3, i) : (List UInt8) × Int × Int × (List (List Int))) =>
  some (r.1, r1.1, i, (⟨v1, v2, (⟨v3⟩ : IK .u64)⟩ : l1Cur))
noncomputable def zq80_L1 (t : Timetable) : Int × (List UInt8) × Int × Int × (List Delay) → Option (Lp (Int × (List UInt8) × Int × Int × (List Delay)) ((List UInt8) × Int × Int × (List Delay)))
 | (v, v1, v2, v3, v4) =>
  if (decide (v < (t.Trips.length : Int))) = true then
   ((zq91 (⟨v1, v2, (⟨v3⟩ : IK .u64)⟩ : l1Cur) 3).bind fun r =>
   if r.1 = true then
    (idx t.Trips v).bind fun e1 =>
    (zq74 r.2 ([1, 3, 5, 10, 20, 60, 240] : List Int)).bind fun r2 =>
    (chk (v4.length + ([(⟨e1.Id, r2.1⟩ : Delay)] : List Delay).length ≤ 4294967296)).bind fun u1 =>
    some (r2.2.code_, r2.2.at_, r2.2.seed_.v, (v4 ++ ([(⟨e1.Id, r2.1⟩ : Delay)] : List Delay)))
   else
    some (r.2.code_, r.2.at_, r.2.seed_.v, v4)).bind fun ((v5, v6, v7, v8) : (List UInt8) × Int × Int × (List Delay)) =>
   some (.nx ((w64 (v + 1)), v5, v6, v7, v8))
  else
   some (.dn (v1, v2, v3, v4))
noncomputable def zq80 (c : l1Cur) (t : Timetable) : Option ((List Delay) × l1Cur) :=
 (iter (zq80_L1 t) ((0 : Int), c.code_, c.at_, c.seed_.v, ([] : List Delay))).bind fun ((v9, v10, v11, v12) : (List UInt8) × Int × Int × (List Delay)) =>
 ((zq91 (⟨v9, v10, (⟨v11⟩ : IK .u64)⟩ : l1Cur) 16).bind fun r3 =>
 if r3.1 = true then
  (zq83 r3.2 t).bind fun r4 =>
  (zq74 r4.2 ([0, 5, 241] : List Int)).bind fun r5 =>
  (chk (v12.length + ([(⟨r4.1, r5.1⟩ : Delay)] : List Delay).length ≤ 4294967296)).bind fun u2 =>
  some (r5.2.code_, r5.2.at_, r5.2.seed_.v, (v12 ++ ([(⟨r4.1, r5.1⟩ : Delay)] : List Delay)))
 else
  some (r3.2.code_, r3.2.at_, r3.2.seed_.v, v12)).bind fun ((v13, v14, v15, v16) : (List UInt8) × Int × Int × (List Delay)) =>
 some (v16, (⟨v13, v14, (⟨v15⟩ : IK .u64)⟩ : l1Cur))
noncomputable def zq92 (c : l1Cur) : Option (Int × l1Cur) :=
 (zq73 c ([0, 5, 10, 20, 60, 1000, 30, 1001, (-1)] : List Int)).bind fun r =>
 some (r.1, r.2)
noncomputable def zq79_L1 (t : Timetable) : Int × (List UInt8) × Int × Int × (List Int) → Option (Lp (Int × (List UInt8) × Int × Int × (List Int)) ((List UInt8) × Int × Int × (List Int)))
 | (v, v1, v2, v3, v4) =>
  if (decide (v < (t.Trips.length : Int))) = true then
   ((zq91 (⟨v1, v2, (⟨v3⟩ : IK .u64)⟩ : l1Cur) 4).bind fun r =>
   if r.1 = true then
    (idx t.Trips v).bind fun e =>
    (chk (v4.length + ([e.Id] : List Int).length ≤ 4294967296)).bind fun u =>
    some (r.2.code_, r.2.at_, r.2.seed_.v, (v4 ++ ([e.Id] : List Int)))
   else
    some (r.2.code_, r.2.at_, r.2.seed_.v, v4)).bind fun ((v5, v6, v7, v8) : (List UInt8) × Int × Int × (List Int)) =>
   some (.nx ((w64 (v + 1)), v5, v6, v7, v8))
  else
   some (.dn (v1, v2, v3, v4))
noncomputable def zq79 (c : l1Cur) (t : Timetable) : Option ((List Int) × l1Cur) :=
 (iter (zq79_L1 t) ((0 : Int), c.code_, c.at_, c.seed_.v, ([] : List Int))).bind fun ((v9, v10, v11, v12) : (List UInt8) × Int × Int × (List Int)) =>
 ((zq91 (⟨v9, v10, (⟨v11⟩ : IK .u64)⟩ : l1Cur) 16).bind fun r1 =>
 if r1.1 = true then
  (zq83 r1.2 t).bind fun r2 =>
  (chk (v12.length + ([r2.1] : List Int).length ≤ 4294967296)).bind fun u1 =>
  some (r2.2.code_, r2.2.at_, r2.2.seed_.v, (v12 ++ ([r2.1] : List Int)))
 else
  some (r1.2.code_, r1.2.at_, r1.2.seed_.v, v12)).bind fun ((v13, v14, v15, v16) : (List UInt8) × Int × Int × (List Int)) =>
 some (v16, (⟨v13, v14, (⟨v15⟩ : IK .u64)⟩ : l1Cur))
noncomputable def zq45 (code : List UInt8) : Option (Timetable × Fleet × (List (List Int)) × (List Delay) × Int × (List Int)) :=
 (zq94 (⟨code, 0, (⟨0⟩ : IK .u64)⟩ : l1Cur)).bind fun r =>
 (zq80 r.2.2.2 r.1).bind fun r4 =>
 (zq92 r4.2).bind fun r5 =>
 (zq79 r5.2 r.1).bind fun r6 =>
 some (r.1, r.2.1, r.2.2.1, r4.1, r5.1, r6.1)
noncomputable def zq42 (n : Int) (lo : Int) (hi : Int) : Option (Bool) :=
 (if (decide (lo ≤ n)) = true then some (decide (n ≤ hi)) else some false).bind fun (v : Bool) =>
 some v
noncomputable def zq26_L1 (s : ByteArray) : Int → Option (Lp (Int) (Fl (Bool) (Unit)))
 | v1 =>
  if (decide (v1 < (s.size : Int))) = true then
   (chk ((0 : Int) ≤ v1 ∧ v1 < (s.size : Int))).bind fun u =>
   (if (decide (97 ≤ ((s.data.toList.getD v1.toNat 0).toNat : Int))) = true then (chk ((0 : Int) ≤ v1 ∧ v1 < (s.size : Int))).bind fun u1 =>
   some (decide (((s.data.toList.getD v1.toNat 0).toNat : Int) ≤ 122)) else some false).bind fun (v2 : Bool) =>
   (if (!v2) = true then if (v1 == 0) = true then some true else (chk ((0 : Int) ≤ v1 ∧ v1 < (s.size : Int))).bind fun u2 =>
   if (decide (((s.data.toList.getD v1.toNat 0).toNat : Int) < 48)) = true then some true else (chk ((0 : Int) ≤ v1 ∧ v1 < (s.size : Int))).bind fun u3 =>
   some (decide (57 < ((s.data.toList.getD v1.toNat 0).toNat : Int))) else some false).bind fun (v3 : Bool) =>
   if v3 = true then
    some (.dn (.ret false))
   else
    some (.nx (w64 (v1 + 1)))
  else
   some (.dn (.go ()))
noncomputable def zq26 (s : ByteArray) : Option (Bool) :=
 (if (decide ((s.size : Int) < 1)) = true then some true else some (decide (8 < (s.size : Int)))).bind fun (v : Bool) =>
 if v = true then
  some false
 else
  flb (iter (zq26_L1 s) (0 : Int)) fun (_ : Unit) =>
  some true
noncomputable def zq130_L1 (s : List ByteArray) (v : ByteArray) : Int → Option (Lp (Int) (Fl (Int) (Unit)))
 | v1 =>
  if (decide (v1 < (s.length : Int))) = true then
   (idx s v1).bind fun e =>
   if (v.toList == e.toList) = true then
    some (.dn (.ret v1))
   else
    some (.nx (w64 (v1 + 1)))
  else
   some (.dn (.go ()))
noncomputable def zq130 (s : List ByteArray) (v : ByteArray) : Option (Int) :=
 flb (iter (zq130_L1 s v) (0 : Int)) fun (_ : Unit) =>
 some (-1)
noncomputable def zq15_L1 (names : List ByteArray) : Int → Option (Lp (Int) (Fl (Bool) (Unit)))
 | v =>
  if (decide (v < (names.length : Int))) = true then
   (idx names v).bind fun e =>
   (zq26 e).bind fun r =>
   (if (!r) = true then some true else (zq130 names e).bind fun r1 =>
   some (r1 != v)).bind fun (v1 : Bool) =>
   if v1 = true then
    some (.dn (.ret false))
   else
    some (.nx (w64 (v + 1)))
  else
   some (.dn (.go ()))
noncomputable def zq15 (names : List ByteArray) : Option (Bool) :=
 flb (iter (zq15_L1 names) (0 : Int)) fun (_ : Unit) =>
 some true
noncomputable def zq34_L1 (n : Network) : Int × (List ByteArray) → Option (Lp (Int × (List ByteArray)) ((List ByteArray)))
 | (v, i) =>
  if (decide (v < (n.Lines.length : Int))) = true then
   (idx n.Lines v).bind fun e =>
   (idx i v).bind fun e1 =>
   some (.nx ((w64 (v + 1)), (i.set v.toNat e.Name)))
  else
   some (.dn i)
noncomputable def zq34 (n : Network) : Option ((List ByteArray)) :=
 (chk ((0 : Int) ≤ (n.Lines.length : Int) ∧ ((n.Lines.length : Int) : Int) ≤ 4294967296)).bind fun u =>
 (iter (zq34_L1 n) ((0 : Int), (List.replicate (n.Lines.length : Int).toNat (ByteArray.empty : ByteArray)))).bind fun (i1 : List ByteArray) =>
 some i1
noncomputable def zq30 (n : Network) (stop : Int) : Option (Bool) :=
 (if (decide (0 ≤ stop)) = true then some (decide (stop < (n.Stops.length : Int))) else some false).bind fun (v : Bool) =>
 some v
noncomputable def zq129_L1 (s : List Int) (v : Int) : Int → Option (Lp (Int) (Fl (Int) (Unit)))
 | v1 =>
  if (decide (v1 < (s.length : Int))) = true then
   (idx s v1).bind fun e =>
   if (v == e) = true then
    some (.dn (.ret v1))
   else
    some (.nx (w64 (v1 + 1)))
  else
   some (.dn (.go ()))
noncomputable def zq129 (s : List Int) (v : Int) : Option (Int) :=
 flb (iter (zq129_L1 s v) (0 : Int)) fun (_ : Unit) =>
 some (-1)
noncomputable def zq31_L1 (n : Network) (l : Line) : Int → Option (Lp (Int) (Fl (Bool) (Unit)))
 | v1 =>
  if (decide (v1 < (l.Stops.length : Int))) = true then
   (idx l.Stops v1).bind fun e =>
   (zq30 n e).bind fun r1 =>
   (if (!r1) = true then some true else (zq129 l.Stops e).bind fun r2 =>
   some (r2 != v1)).bind fun (v2 : Bool) =>
   if v2 = true then
    some (.dn (.ret false))
   else
    some (.nx (w64 (v1 + 1)))
  else
   some (.dn (.go ()))
noncomputable def zq31_L2 (l : Line) : Int → Option (Lp (Int) (Fl (Bool) (Unit)))
 | v3 =>
  if (decide (v3 < (l.Runs.length : Int))) = true then
   (idx l.Runs v3).bind fun e2 =>
   (zq42 e2 1 60).bind fun r4 =>
   if (!r4) = true then
    some (.dn (.ret false))
   else
    some (.nx (w64 (v3 + 1)))
  else
   some (.dn (.go ()))
noncomputable def zq31 (n : Network) (l : Line) : Option (Bool) :=
 (zq42 (l.Stops.length : Int) 2 6).bind fun r =>
 (if (!r) = true then some true else some ((l.Runs.length : Int) != (w64 ((l.Stops.length : Int) - 1)))).bind fun (v : Bool) =>
 if v = true then
  some false
 else
  flb (iter (zq31_L1 n l) (0 : Int)) fun (_ : Unit) =>
  flb (iter (zq31_L2 l) (0 : Int)) fun (_ : Unit) =>
  some true
noncomputable def zq7_L1 (n : Network) : Int → Option (Lp (Int) (Fl (Bool) (Unit)))
 | v1 =>
  if (decide (v1 < (n.Lines.length : Int))) = true then
   (idx n.Lines v1).bind fun e =>
   (zq31 n e).bind fun r5 =>
   if (!r5) = true then
    some (.dn (.ret false))
   else
    some (.nx (w64 (v1 + 1)))
  else
   some (.dn (.go ()))
noncomputable def zq7 (n : Network) : Option (Bool) :=
 (zq42 (n.Stops.length : Int) 2 8).bind fun r =>
 (if (!r) = true then some true else (zq42 (n.Lines.length : Int) 1 5).bind fun r1 =>
 if (!r1) = true then some true else (zq15 n.Stops).bind fun r2 =>
 if (!r2) = true then some true else (zq34 n).bind fun r3 =>
 (zq15 r3).bind fun r4 =>
 some (!r4)).bind fun (v : Bool) =>
 if v = true then
  some false
 else
  flb (iter (zq7_L1 n) (0 : Int)) fun (_ : Unit) =>
  some true
noncomputable def zq25 (n : Network) (line : Int) : Option (Bool) :=
 (if (decide (0 ≤ line)) = true then some (decide (line < (n.Lines.length : Int))) else some false).bind fun (v : Bool) =>
 some v
noncomputable def zq8 (t : Int) : Option (Bool) :=
 (zq42 t 0 1799).bind fun r =>
 some r
noncomputable def zq37_L1 (list : List Int) : Int × Int → Option (Lp (Int × Int) (Int))
 | (v, v1) =>
  if (decide (v1 < (list.length : Int))) = true then
   (idx list v1).bind fun e =>
   some (.nx ((w64 (v + e)), (w64 (v1 + 1))))
  else
   some (.dn v)
noncomputable def zq37 (list : List Int) : Option (Int) :=
 (iter (zq37_L1 list) ((0 : Int), (0 : Int))).bind fun (v2 : Int) =>
 some v2
noncomputable def zq22 (t : Timetable) (x : Trip) : Option (Int) :=
 (idx t.Network.Lines x.Line).bind fun e1 =>
 (zq37 e1.Runs).bind fun r1 =>
 some (w64 (x.Start + r1))
noncomputable def zq16_L1 (t : Timetable) : Int × Int → Option (Lp (Int × Int) (Fl (Bool) (Unit)))
 | (v, v1) =>
  if (decide (v1 < (t.Trips.length : Int))) = true then
   (idx t.Trips v1).bind fun e =>
   (if (decide (e.Id ≤ v)) = true then some true else if (decide (999 < e.Id)) = true then some true else (zq25 t.Network e.Line).bind fun r =>
   if (!r) = true then some true else (zq8 e.Start).bind fun r1 =>
   if (!r1) = true then some true else (zq22 t e).bind fun r2 =>
   (zq8 r2).bind fun r3 =>
   some (!r3)).bind fun (v2 : Bool) =>
   if v2 = true then
    some (.dn (.ret false))
   else
    some (.nx (e.Id, (w64 (v1 + 1))))
  else
   some (.dn (.go ()))
noncomputable def zq16 (t : Timetable) : Option (Bool) :=
 if (decide (12 < (t.Trips.length : Int))) = true then
  some false
 else
  flb (iter (zq16_L1 t) ((0 : Int), (0 : Int))) fun (_ : Unit) =>
  some true
noncomputable def zq9 (t : Timetable) : Option (Bool) :=
 (zq7 t.Network).bind fun r =>
 (if r = true then (zq16 t).bind fun r1 =>
 some r1 else some false).bind fun (v : Bool) =>
 some v
noncomputable def zq24_L1 (e : List Int) : Int → Option (Lp (Int) (Fl (Lp (Int) (Fl (Bool) (Unit))) (Unit)))
 | v3 =>
  if (decide (v3 < (e.length : Int))) = true then
   (idx e v3).bind fun e3 =>
   (zq42 e3 0 120).bind fun r2 =>
   if (!r2) = true then
    some (.dn (.ret (.dn (.ret false))))
   else
    some (.nx (w64 (v3 + 1)))
  else
   some (.dn (.go ()))
noncomputable def zq24_L2 (n : Network) (f : Fleet) : Int → Option (Lp (Int) (Fl (Bool) (Unit)))
 | v1 =>
  if (decide (v1 < (f.Dead.length : Int))) = true then
   (idx f.Dead v1).bind fun e =>
   (if ((e.length : Int) != (n.Stops.length : Int)) = true then some true else (idx e v1).bind fun e1 =>
   some (e1 != 0)).bind fun (v2 : Bool) =>
   if v2 = true then
    some (.dn (.ret false))
   else
    flb (iter (zq24_L1 e) (0 : Int)) fun (_ : Unit) =>
    some (.nx (w64 (v1 + 1)))
  else
   some (.dn (.go ()))
noncomputable def zq24 (n : Network) (f : Fleet) : Option (Bool) :=
 (if ((f.Dead.length : Int) != (n.Stops.length : Int)) = true then some true else (zq42 f.Turn 0 30).bind fun r =>
 some (!r)).bind fun (v : Bool) =>
 if v = true then
  some false
 else
  flb (iter (zq24_L2 n f) (0 : Int)) fun (_ : Unit) =>
  some true
noncomputable def zq29 (t : Timetable) (f : Fleet) : Option (Bool) :=
 (zq9 t).bind fun r =>
 (if r = true then (zq24 t.Network f).bind fun r1 =>
 some r1 else some false).bind fun (v : Bool) =>
 some v
noncomputable def zq40 (x : Trip) (c1 : Int) : Option (Bool) :=
 some (x.Id == c1)
noncomputable def zq127_L1 (s : List Trip) (f : Trip → Option (Bool)) : Int → Option (Lp (Int) (Fl (Int) (Unit)))
 | v =>
  if (decide (v < (s.length : Int))) = true then
   (idx s v).bind fun e =>
   (f e).bind fun r =>
   if r = true then
    some (.dn (.ret v))
   else
    some (.nx (w64 (v + 1)))
  else
   some (.dn (.go ()))
noncomputable def zq127 (s : List Trip) (f : Trip → Option (Bool)) : Option (Int) :=
 flb (iter (zq127_L1 s f) (0 : Int)) fun (_ : Unit) =>
 some (-1)
noncomputable def zq128 (s : List Trip) (c1 : Int) : Option (Int) :=
 zq127 s (fun (z0 : Trip) => zq40 z0 c1)
noncomputable def zq39 (t : Timetable) (id : Int) : Option (Int) :=
 (zq128 t.Trips id).bind fun r =>
 some r
noncomputable def zq41 (t : Timetable) (id : Int) : Option (Trip) :=
 (zq39 t id).bind fun r1 =>
 (idx t.Trips r1).bind fun e1 =>
 some e1
noncomputable def zq35 (t : Timetable) (x : Trip) : Option (Line) :=
 (idx t.Network.Lines x.Line).bind fun e =>
 some e
noncomputable def zq33 (t : Timetable) (x : Trip) : Option (Int) :=
 (zq35 t x).bind fun r =>
 (idx r.Stops (w64 ((r.Stops.length : Int) - 1))).bind fun e =>
 some e
noncomputable def zq23 (t : Timetable) (x : Trip) : Option (Int) :=
 (zq35 t x).bind fun r =>
 (idx r.Stops 0).bind fun e =>
 some e
noncomputable def zq20 (t : Timetable) (f : Fleet) (a : Trip) (b : Trip) : Option (Int) :=
 (zq33 t a).bind fun r2 =>
 (idx f.Dead r2).bind fun e2 =>
 (zq23 t b).bind fun r3 =>
 (idx e2 r3).bind fun e3 =>
 some e3
noncomputable def zq17 (t : Timetable) (f : Fleet) (a : Trip) (b : Trip) : Option (Bool) :=
 (zq22 t a).bind fun r2 =>
 (zq20 t f a b).bind fun r3 =>
 some (decide ((w64 ((w64 (r2 + f.Turn)) + r3)) ≤ b.Start))
noncomputable def zq11_L1 (t : Timetable) (f : Fleet) (e : List Int) : Int × Int × (List Bool) → Option (Lp (Int × Int × (List Bool)) (Fl (Lp (Int × Int × Int × (List Bool)) (Fl (Bool) (Int))) (Int × (List Bool))))
 | (block1, v3, v4) =>
  if (decide (v3 < (e.length : Int))) = true then
   (idx e v3).bind fun e4 =>
   (zq39 t e4).bind fun r1 =>
   (if (decide (r1 < 0)) = true then some true else (chk ((0 : Int) ≤ r1 ∧ r1 < 12)).bind fun u1 =>
   (idx v4 r1).bind fun e8 =>
   if e8 = true then some true else if (decide (0 < v3)) = true then (idx e (w64 (v3 - 1))).bind fun e9 =>
   (zq41 t e9).bind fun r4 =>
   (idx t.Trips r1).bind fun e10 =>
   (zq17 t f r4 e10).bind fun r5 =>
   some (!r5) else some false).bind fun (v5 : Bool) =>
   if v5 = true then
    some (.dn (.ret (.dn (.ret false))))
   else
    (chk ((0 : Int) ≤ r1 ∧ r1 < 12)).bind fun u2 =>
    (idx v4 r1).bind fun e13 =>
    some (.nx ((w64 (block1 + 1)), (w64 (v3 + 1)), (v4.set r1.toNat true)))
  else
   some (.dn (.go (block1, v4)))
noncomputable def zq11_L2 (t : Timetable) (f : Fleet) (blocks : List (List Int)) : Int × Int × Int × (List Bool) → Option (Lp (Int × Int × Int × (List Bool)) (Fl (Bool) (Int)))
 | (block, k, v, v1) =>
  if (decide (v < (blocks.length : Int))) = true then
   (idx blocks v).bind fun e =>
   (if ((e.length : Int) == 0) = true then some true else (idx e 0).bind fun e1 =>
   some (decide (e1 ≤ k))).bind fun (v2 : Bool) =>
   if v2 = true then
    some (.dn (.ret false))
   else
    (idx e 0).bind fun e3 =>
    flb (iter (zq11_L1 t f e) (block, (0 : Int), v1)) fun ((block2, v6) : Int × (List Bool)) =>
    some (.nx (block2, e3, (w64 (v + 1)), v6))
  else
   some (.dn (.go block))
noncomputable def zq11 (t : Timetable) (f : Fleet) (blocks : List (List Int)) : Option (Bool) :=
 flb (iter (zq11_L2 t f blocks) ((0 : Int), (0 : Int), (0 : Int), (List.replicate 12 (false : Bool)))) fun (block3 : Int) =>
 some (block3 == (t.Trips.length : Int))
noncomputable def zq6 (t : Timetable) (f : Fleet) (blocks : List (List Int)) : Option (Bool) :=
 (zq29 t f).bind fun r =>
 (if r = true then (zq11 t f blocks).bind fun r1 =>
 some r1 else some false).bind fun (v : Bool) =>
 some v
noncomputable def zq13_L1 (t : Timetable) (list : List Delay) : Int × Int → Option (Lp (Int × Int) (Fl (Bool) (Unit)))
 | (d, v) =>
  if (decide (v < (list.length : Int))) = true then
   (idx list v).bind fun e =>
   (if (decide (e.Trip ≤ d)) = true then some true else (zq39 t e.Trip).bind fun r =>
   if (decide (r < 0)) = true then some true else (zq42 e.Minutes 1 240).bind fun r1 =>
   some (!r1)).bind fun (v1 : Bool) =>
   if v1 = true then
    some (.dn (.ret false))
   else
    some (.nx (e.Trip, (w64 (v + 1))))
  else
   some (.dn (.go ()))
noncomputable def zq13 (t : Timetable) (list : List Delay) : Option (Bool) :=
 flb (iter (zq13_L1 t list) ((0 : Int), (0 : Int))) fun (_ : Unit) =>
 some true
noncomputable def zq14 (t : Timetable) (f : Fleet) (blocks : List (List Int)) (list : List Delay) : Option (Bool) :=
 (zq6 t f blocks).bind fun r =>
 (if r = true then (zq13 t list).bind fun r1 =>
 some r1 else some false).bind fun (v : Bool) =>
 some v
noncomputable def zq27 (penalty : Int) : Option (Bool) :=
 (zq42 penalty 0 1000).bind fun r =>
 some r
noncomputable def zq126 (s : List Int) (v : Int) : Option (Bool) :=
 (zq129 s v).bind fun r =>
 some (decide (0 ≤ r))
noncomputable def zq32_L1 (cancelled : List Int) (v : Int) (e : List Int) : Int × (List (List Int)) → Option (Lp (Int × (List (List Int))) ((List (List Int))))
 | (v1, block1) =>
  if (decide (v1 < (e.length : Int))) = true then
   ((idx e v1).bind fun e1 =>
   (zq126 cancelled e1).bind fun r =>
   if (!r) = true then
    (idx block1 v).bind fun e2 =>
    (chk (e2.length + ([e1] : List Int).length ≤ 4294967296)).bind fun u1 =>
    (idx block1 v).bind fun e3 =>
    some (block1.set v.toNat (e2 ++ ([e1] : List Int)))
   else
    some block1).bind fun (block2 : List (List Int)) =>
   some (.nx ((w64 (v1 + 1)), block2))
  else
   some (.dn block1)
noncomputable def zq32_L2 (blocks : List (List Int)) (cancelled : List Int) : Int × (List (List Int)) → Option (Lp (Int × (List (List Int))) ((List (List Int))))
 | (v, block) =>
  if (decide (v < (blocks.length : Int))) = true then
   (idx blocks v).bind fun e =>
   (iter (zq32_L1 cancelled v e) ((0 : Int), block)).bind fun (block3 : List (List Int)) =>
   some (.nx ((w64 (v + 1)), block3))
  else
   some (.dn block)
noncomputable def zq32 (blocks : List (List Int)) (cancelled : List Int) : Option ((List (List Int))) :=
 (chk ((0 : Int) ≤ (blocks.length : Int) ∧ ((blocks.length : Int) : Int) ≤ 4294967296)).bind fun u =>
 (iter (zq32_L2 blocks cancelled) ((0 : Int), (List.replicate (blocks.length : Int).toNat (([] : List Int) : List Int)))).bind fun (block4 : List (List Int)) =>
 some block4
noncomputable def zq28_L1 (t : Timetable) (f : Fleet) (r : (List (List Int))) (v : Int) : Int → Option (Lp (Int) (Fl (Lp (Int) (Fl (Bool) (Unit))) (Unit)))
 | v1 =>
  (idx r v).bind fun e1 =>
  if (decide (v1 < (e1.length : Int))) = true then
   (idx e1 (w64 (v1 - 1))).bind fun e4 =>
   (zq41 t e4).bind fun r4 =>
   (idx e1 v1).bind fun e5 =>
   (zq41 t e5).bind fun r5 =>
   (zq17 t f r4 r5).bind fun r6 =>
   if (!r6) = true then
    some (.dn (.ret (.dn (.ret false))))
   else
    some (.nx (w64 (v1 + 1)))
  else
   some (.dn (.go ()))
noncomputable def zq28_L2 (t : Timetable) (f : Fleet) (r : (List (List Int))) : Int → Option (Lp (Int) (Fl (Bool) (Unit)))
 | v =>
  if (decide (v < (r.length : Int))) = true then
   (idx r v).bind fun e =>
   flb (iter (zq28_L1 t f r v) (1 : Int)) fun (_ : Unit) =>
   some (.nx (w64 (v + 1)))
  else
   some (.dn (.go ()))
noncomputable def zq28 (t : Timetable) (f : Fleet) (blocks : List (List Int)) (cancelled : List Int) : Option (Bool) :=
 (zq32 blocks cancelled).bind fun r =>
 flb (iter (zq28_L2 t f r) (0 : Int)) fun (_ : Unit) =>
 some true
noncomputable def zq36_L1 (list : List Delay) (id : Int) : Int → Option (Lp (Int) (Fl (Int) (Unit)))
 | v =>
  if (decide (v < (list.length : Int))) = true then
   (idx list v).bind fun e =>
   if (e.Trip == id) = true then
    some (.dn (.ret e.Minutes))
   else
    some (.nx (w64 (v + 1)))
  else
   some (.dn (.go ()))
noncomputable def zq36 (list : List Delay) (id : Int) : Option (Int) :=
 flb (iter (zq36_L1 list id) (0 : Int)) fun (_ : Unit) =>
 some 0
noncomputable def zq21_L1 (t : Timetable) (f : Fleet) (list : List Delay) (e : List Int) : Int × (List Int) → Option (Lp (Int × (List Int)) ((List Int)))
 | (v1, id1) =>
  if (decide (v1 < (e.length : Int))) = true then
   (idx e v1).bind fun e1 =>
   (zq39 t e1).bind fun r =>
   (idx t.Trips r).bind fun e2 =>
   (if (decide (0 < v1)) = true then
    (idx e (w64 (v1 - 1))).bind fun e4 =>
    (zq39 t e4).bind fun r2 =>
    (idx t.Trips r2).bind fun e8 =>
    (zq22 t e8).bind fun r5 =>
    (idx id1 r2).bind fun e9 =>
    (idx t.Trips r2).bind fun e10 =>
    (zq20 t f e10 e2).bind fun r6 =>
    some (if (w64 ((w64 ((w64 (r5 + e9)) + f.Turn)) + r6)) > e2.Start then (w64 ((w64 ((w64 (r5 + e9)) + f.Turn)) + r6)) else e2.Start)
   else
    some e2.Start).bind fun (v2 : Int) =>
   (zq36 list e1).bind fun r8 =>
   (idx id1 r).bind fun e12 =>
   some (.nx ((w64 (v1 + 1)), (id1.set r.toNat (w64 ((w64 (v2 + r8)) - e2.Start)))))
  else
   some (.dn id1)
noncomputable def zq21_L2 (t : Timetable) (f : Fleet) (blocks : List (List Int)) (list : List Delay) : Int × (List Int) → Option (Lp (Int × (List Int)) ((List Int)))
 | (v, id) =>
  if (decide (v < (blocks.length : Int))) = true then
   (idx blocks v).bind fun e =>
   (iter (zq21_L1 t f list e) ((0 : Int), id)).bind fun (id2 : List Int) =>
   some (.nx ((w64 (v + 1)), id2))
  else
   some (.dn id)
noncomputable def zq21 (t : Timetable) (f : Fleet) (blocks : List (List Int)) (list : List Delay) : Option ((List Int)) :=
 (chk ((0 : Int) ≤ (t.Trips.length : Int) ∧ ((t.Trips.length : Int) : Int) ≤ 4294967296)).bind fun u =>
 (iter (zq21_L2 t f blocks list) ((0 : Int), (List.replicate (t.Trips.length : Int).toNat (0 : Int)))).bind fun (id3 : List Int) =>
 some id3
noncomputable def zq19_L1 (t : Timetable) (cancelled : List Int) : Int × (List Int) → Option (Lp (Int × (List Int)) ((List Int)))
 | (v, v1) =>
  if (decide (v < (cancelled.length : Int))) = true then
   (idx cancelled v).bind fun e =>
   (zq39 t e).bind fun r4 =>
   (idx v1 r4).bind fun e1 =>
   some (.nx ((w64 (v + 1)), (v1.set r4.toNat (-1))))
  else
   some (.dn v1)
noncomputable def zq19 (t : Timetable) (f : Fleet) (blocks : List (List Int)) (list : List Delay) (cancelled : List Int) : Option ((List Int)) :=
 (zq32 blocks cancelled).bind fun r2 =>
 (zq21 t f r2 list).bind fun r3 =>
 (iter (zq19_L1 t cancelled) ((0 : Int), r3)).bind fun (v2 : List Int) =>
 some v2
noncomputable def zq18_L1 (t : Timetable) (penalty : Int) (r : (List Int)) : Int × Int → Option (Lp (Int × Int) (Int))
 | (v, v1) =>
  if (decide (v1 < (r.length : Int))) = true then
   (idx r v1).bind fun e =>
   (if (decide (e < 0)) = true then
    some penalty
   else
    some e).bind fun (v2 : Int) =>
   (idx t.Trips v1).bind fun e2 =>
   (zq35 t e2).bind fun r2 =>
   some (.nx ((w64 (v + (w64 (v2 * (r2.Stops.length : Int))))), (w64 (v1 + 1))))
  else
   some (.dn v)
noncomputable def zq18 (t : Timetable) (f : Fleet) (blocks : List (List Int)) (list : List Delay) (penalty : Int) (cancelled : List Int) : Option (Int) :=
 (zq19 t f blocks list cancelled).bind fun r =>
 (iter (zq18_L1 t penalty r) ((0 : Int), (0 : Int))).bind fun (v3 : Int) =>
 some v3
noncomputable def zq2 (x : Int) : Option (Bool) :=
 some (x != x)
noncomputable def zq0 (x : Int) (y_ : Int) : Option (Int) :=
 (zq2 x).bind fun r =>
 (zq2 y_).bind fun r1 =>
 if r = true then
  if r1 = true then
   some 0
  else
   some (-1)
 else
  if r1 = true then
   some 1
  else
   if (decide (x < y_)) = true then
    some (-1)
   else
    if (decide (y_ < x)) = true then
     some 1
    else
     some 0
noncomputable def zq125_L1 (s1 : List Int) (s2 : List Int) : Int → Option (Lp (Int) (Fl (Int) (Unit)))
 | v =>
  if (decide (v < (s1.length : Int))) = true then
   (idx s1 v).bind fun e =>
   if (decide ((s2.length : Int) ≤ v)) = true then
    some (.dn (.ret 1))
   else
    (idx s2 v).bind fun e2 =>
    (zq0 e e2).bind fun r1 =>
    if (r1 != 0) = true then
     some (.dn (.ret r1))
    else
     some (.nx (w64 (v + 1)))
  else
   some (.dn (.go ()))
noncomputable def zq125 (s1 : List Int) (s2 : List Int) : Option (Int) :=
 flb (iter (zq125_L1 s1 s2) (0 : Int)) fun (_ : Unit) =>
 if (decide ((s1.length : Int) < (s2.length : Int))) = true then
  some (-1)
 else
  some 0
noncomputable def zq1_L1 (vals : List Int) : Int → Option (Lp (Int) (Fl (Int) (Unit)))
 | v =>
  if (decide (v < (vals.length : Int))) = true then
   (idx vals v).bind fun e =>
   if (e != 0) = true then
    some (.dn (.ret e))
   else
    some (.nx (w64 (v + 1)))
  else
   some (.dn (.go ()))
noncomputable def zq1 (vals : List Int) : Option (Int) :=
 flb (iter (zq1_L1 vals) (0 : Int)) fun (_ : Unit) =>
 some 0
noncomputable def zq3_L1 (t : Timetable) (v1 : Int) : Int × (List Int) → Option (Lp (Int × (List Int)) ((List Int)))
 | (v2, v3) =>
  if (decide (v2 < (t.Trips.length : Int))) = true then
   ((idx t.Trips v2).bind fun e =>
   (chk ((0 : Int) ≤ v2)).bind fun u1 =>
   if ((IntKind.i64.wrap ((BitVec.ofInt (IntKind.i64).bits (v1.fdiv (2 ^ (min (v2 : Int).toNat (IntKind.i64).bits))) &&& BitVec.ofInt (IntKind.i64).bits 1).toNat : Int)) == 1) = true then
    (chk (v3.length + ([e.Id] : List Int).length ≤ 4294967296)).bind fun u2 =>
    some (v3 ++ ([e.Id] : List Int))
   else
    some v3).bind fun (v4 : List Int) =>
   some (.nx ((w64 (v2 + 1)), v4))
  else
   some (.dn v3)
noncomputable def zq3_L2 (t : Timetable) (f : Fleet) (blocks : List (List Int)) (list : List Delay) (penalty : Int) : Int × Int × (List Int) → Option (Lp (Int × Int × (List Int)) (Int × (List Int)))
 | (cost, v1, x) =>
  if (decide (v1 < (w64 (1 * 2 ^ (min ((t.Trips.length : Int) : Int).toNat (IntKind.i64).bits))))) = true then
   ((iter (zq3_L1 t v1) ((0 : Int), ([] : List Int))).bind fun (v5 : List Int) =>
   (zq28 t f blocks v5).bind fun r2 =>
   if (!r2) = true then
    some (cost, x)
   else
    (zq18 t f blocks list penalty v5).bind fun r3 =>
    (zq0 r3 cost).bind fun r4 =>
    (zq0 (v5.length : Int) (x.length : Int)).bind fun r5 =>
    (zq125 v5 x).bind fun r6 =>
    (zq1 ([r4, r5, r6] : List Int)).bind fun r7 =>
    if (decide (r7 < 0)) = true then
     some (r3, v5)
    else
     some (cost, x)).bind fun ((cost1, x1) : Int × (List Int)) =>
   some (.nx (cost1, (w64 (v1 + 1)), x1))
  else
   some (.dn (cost, x))
noncomputable def zq3 (t : Timetable) (f : Fleet) (blocks : List (List Int)) (list : List Delay) (penalty : Int) : Option ((List Int) × Int × Bool) :=
 (zq14 t f blocks list).bind fun r =>
 (if (!r) = true then some true else (zq27 penalty).bind fun r1 =>
 some (!r1)).bind fun (v : Bool) =>
 if v = true then
  some (([] : List Int), 0, false)
 else
  (chk ((0 : Int) ≤ (t.Trips.length : Int))).bind fun u =>
  (iter (zq3_L2 t f blocks list penalty) ((1073741824 : Int), (0 : Int), ([] : List Int))).bind fun ((cost2, x2) : Int × (List Int)) =>
  some (x2, cost2, true)
noncomputable def zq121_L1 (t : Timetable) (id : Int) : Int → Option (Lp (Int) (Fl (Int) (Unit)))
 | v =>
  if (decide (v < (t.Trips.length : Int))) = true then
   (idx t.Trips v).bind fun e =>
   if (e.Id == id) = true then
    some (.dn (.ret v))
   else
    some (.nx (w64 (v + 1)))
  else
   some (.dn (.go ()))
noncomputable def zq121 (t : Timetable) (id : Int) : Option (Int) :=
 flb (iter (zq121_L1 t id) (0 : Int)) fun (_ : Unit) =>
 some (-1)
noncomputable def zq99_L1 (l : List Int) (n : Int) : Int → Option (Lp (Int) (Fl (Bool) (Unit)))
 | v =>
  if (decide (v < (l.length : Int))) = true then
   (idx l v).bind fun e =>
   if (e == n) = true then
    some (.dn (.ret true))
   else
    some (.nx (w64 (v + 1)))
  else
   some (.dn (.go ()))
noncomputable def zq99 (l : List Int) (n : Int) : Option (Bool) :=
 flb (iter (zq99_L1 l n) (0 : Int)) fun (_ : Unit) =>
 some false
noncomputable def zq48_L1 (t : Timetable) (f : Fleet) (blocks : List (List Int)) (v : Int) : Int × (List Int) → Option (Lp (Int × (List Int)) (Fl (Lp (Int × (List Int)) (Fl (Bool) ((List Int)))) ((List Int))))
 | (v2, at_1) =>
  (idx blocks v).bind fun e11 =>
  if (decide (v2 < (e11.length : Int))) = true then
   (idx blocks v).bind fun e14 =>
   (idx e14 v2).bind fun e15 =>
   (zq121 t e15).bind fun r2 =>
   (if (decide (r2 < 0)) = true then some true else (zq99 at_1 r2).bind fun r6 =>
   if r6 = true then some true else if (decide (0 < v2)) = true then (idx blocks v).bind fun e18 =>
   (idx e18 (w64 (v2 - 1))).bind fun e19 =>
   (zq121 t e19).bind fun r7 =>
   (zq54 t f r7 r2).bind fun r8 =>
   some (!r8) else some false).bind fun (v3 : Bool) =>
   if v3 = true then
    some (.dn (.ret (.dn (.ret false))))
   else
    (chk (at_1.length + ([r2] : List Int).length ≤ 4294967296)).bind fun u =>
    some (.nx ((w64 (v2 + 1)), (at_1 ++ ([r2] : List Int))))
  else
   some (.dn (.go at_1))
noncomputable def zq48_L2 (t : Timetable) (f : Fleet) (blocks : List (List Int)) : Int × (List Int) → Option (Lp (Int × (List Int)) (Fl (Bool) ((List Int))))
 | (v, at_) =>
  if (decide (v < (blocks.length : Int))) = true then
   (idx blocks v).bind fun e5 =>
   (if ((e5.length : Int) == 0) = true then some true else if (decide (0 < v)) = true then (idx blocks (w64 (v - 1))).bind fun e6 =>
   (idx e6 0).bind fun e7 =>
   (idx blocks v).bind fun e8 =>
   (idx e8 0).bind fun e9 =>
   some (decide (e9 ≤ e7)) else some false).bind fun (v1 : Bool) =>
   if v1 = true then
    some (.dn (.ret false))
   else
    flb (iter (zq48_L1 t f blocks v) ((0 : Int), at_)) fun (at_2 : List Int) =>
    some (.nx ((w64 (v + 1)), at_2))
  else
   some (.dn (.go at_))
noncomputable def zq48 (t : Timetable) (f : Fleet) (blocks : List (List Int)) : Option (Bool) :=
 flb (iter (zq48_L2 t f blocks) ((0 : Int), ([] : List Int))) fun (at_3 : List Int) =>
 some ((at_3.length : Int) == (t.Trips.length : Int))
noncomputable def zq56 (t : Timetable) (f : Fleet) (blocks : List (List Int)) : Option (Bool) :=
 (zq46 t f).bind fun r =>
 (if r = true then (zq48 t f blocks).bind fun r1 =>
 some r1 else some false).bind fun (v : Bool) =>
 some v
noncomputable def zq59_L1 (t : Timetable) (list : List Delay) : Int → Option (Lp (Int) (Fl (Bool) (Unit)))
 | v =>
  if (decide (v < (list.length : Int))) = true then
   (idx list v).bind fun e4 =>
   (zq121 t e4.Trip).bind fun r2 =>
   (if (decide (r2 < 0)) = true then some true else (idx list v).bind fun e5 =>
   (zq100 e5.Minutes 1 240).bind fun r3 =>
   if (!r3) = true then some true else if (decide (0 < v)) = true then (idx list (w64 (v - 1))).bind fun e6 =>
   (idx list v).bind fun e7 =>
   some (decide (e7.Trip ≤ e6.Trip)) else some false).bind fun (v1 : Bool) =>
   if v1 = true then
    some (.dn (.ret false))
   else
    some (.nx (w64 (v + 1)))
  else
   some (.dn (.go ()))
noncomputable def zq59 (t : Timetable) (list : List Delay) : Option (Bool) :=
 flb (iter (zq59_L1 t list) (0 : Int)) fun (_ : Unit) =>
 some true
noncomputable def zq57 (t : Timetable) (f : Fleet) (blocks : List (List Int)) (list : List Delay) : Option (Bool) :=
 (zq56 t f blocks).bind fun r =>
 (if r = true then (zq59 t list).bind fun r1 =>
 some r1 else some false).bind fun (v : Bool) =>
 some v
noncomputable def zq106_L1 (l : List Int) (n : Int) : Int → Option (Lp (Int) (Int))
 | v =>
  (if (decide (v < (l.length : Int))) = true then (idx l v).bind fun e =>
  some (decide (e < n)) else some false).bind fun (v1 : Bool) =>
  if v1 = true then
   some (.nx (w64 (v + 1)))
  else
   some (.dn v)
noncomputable def zq106 (l : List Int) (n : Int) : Option ((List Int)) :=
 (iter (zq106_L1 l n) (0 : Int)).bind fun (v2 : Int) =>
 (if (decide (v2 < (l.length : Int))) = true then (idx l v2).bind fun e1 =>
 some (e1 == n) else some false).bind fun (v3 : Bool) =>
 if v3 = true then
  some l
 else
  (chk ((0 : Int) ≤ 0 ∧ 0 ≤ v2 ∧ v2 ≤ (l.length : Int))).bind fun u5 =>
  (chk (([] : List Int).length + ((l.take v2.toNat).drop (0 : Int).toNat).length ≤ 4294967296)).bind fun u6 =>
  (chk ((([] : List Int) ++ ((l.take v2.toNat).drop (0 : Int).toNat)).length + ([n] : List Int).length ≤ 4294967296)).bind fun u7 =>
  (chk ((0 : Int) ≤ v2 ∧ v2 ≤ (l.length : Int))).bind fun u8 =>
  (chk (((([] : List Int) ++ ((l.take v2.toNat).drop (0 : Int).toNat)) ++ ([n] : List Int)).length + (l.drop v2.toNat).length ≤ 4294967296)).bind fun u9 =>
  some (((([] : List Int) ++ ((l.take v2.toNat).drop (0 : Int).toNat)) ++ ([n] : List Int)) ++ (l.drop v2.toNat))
noncomputable def zq71_L1 (block : List Int) (number : Int) : (List Int) × Int → Option (Lp ((List Int) × Int) ((List Int)))
 | (v, v1) =>
  if (decide (v1 < (block.length : Int))) = true then
   ((chk ((0 : Int) ≤ (IntKind.u64.wrap (v1)))).bind fun u =>
   if ((IntKind.i64.wrap ((BitVec.ofInt (IntKind.i64).bits (number.fdiv (2 ^ (min ((IntKind.u64.wrap (v1)) : Int).toNat (IntKind.i64).bits))) &&& BitVec.ofInt (IntKind.i64).bits 1).toNat : Int)) == 1) = true then
    (idx block v1).bind fun e =>
    (zq106 v e).bind fun r =>
    some r
   else
    some v).bind fun (v2 : List Int) =>
   some (.nx (v2, (w64 (v1 + 1))))
  else
   some (.dn v)
noncomputable def zq71 (block : List Int) (number : Int) : Option ((List Int)) :=
 (iter (zq71_L1 block number) (([] : List Int), (0 : Int))).bind fun (v3 : List Int) =>
 some v3
noncomputable def zq66_L1 (block : List Int) (cancelled : List Int) : Int × (List Int) → Option (Lp (Int × (List Int)) ((List Int)))
 | (v, v1) =>
  if (decide (v < (block.length : Int))) = true then
   ((idx block v).bind fun e =>
   (zq99 cancelled e).bind fun r =>
   if (!r) = true then
    (idx block v).bind fun e1 =>
    (chk (v1.length + ([e1] : List Int).length ≤ 4294967296)).bind fun u =>
    some (v1 ++ ([e1] : List Int))
   else
    some v1).bind fun (v2 : List Int) =>
   some (.nx ((w64 (v + 1)), v2))
  else
   some (.dn v1)
noncomputable def zq66 (block : List Int) (cancelled : List Int) : Option ((List Int)) :=
 (iter (zq66_L1 block cancelled) ((0 : Int), ([] : List Int))).bind fun (v3 : List Int) =>
 some v3
noncomputable def zq65_L1 (t : Timetable) (f : Fleet) (list : List Int) : Int → Option (Lp (Int) (Fl (Bool) (Unit)))
 | v =>
  if (decide (v < (list.length : Int))) = true then
   (idx list (w64 (v - 1))).bind fun e2 =>
   (zq121 t e2).bind fun r3 =>
   (idx list v).bind fun e3 =>
   (zq121 t e3).bind fun r4 =>
   (zq54 t f r3 r4).bind fun r5 =>
   if (!r5) = true then
    some (.dn (.ret false))
   else
    some (.nx (w64 (v + 1)))
  else
   some (.dn (.go ()))
noncomputable def zq65 (t : Timetable) (f : Fleet) (list : List Int) : Option (Bool) :=
 flb (iter (zq65_L1 t f list) (1 : Int)) fun (_ : Unit) =>
 some true
noncomputable def zq60_L1 (list : List Delay) (id : Int) : Int → Option (Lp (Int) (Fl (Int) (Unit)))
 | v =>
  if (decide (v < (list.length : Int))) = true then
   (idx list v).bind fun e =>
   if (e.Trip == id) = true then
    (idx list v).bind fun e1 =>
    some (.dn (.ret e1.Minutes))
   else
    some (.nx (w64 (v + 1)))
  else
   some (.dn (.go ()))
noncomputable def zq60 (list : List Delay) (id : Int) : Option (Int) :=
 flb (iter (zq60_L1 list id) (0 : Int)) fun (_ : Unit) =>
 some 0
noncomputable def zq58_L1 (t : Timetable) (f : Fleet) (blocks : List (List Int)) (list : List Delay) (before : Int) : Int × (List Int) → Option (Lp (Int × (List Int)) ((List Int)))
 | (v, start1) =>
  (idx blocks before).bind fun e =>
  if (decide (v < (e.length : Int))) = true then
   (idx blocks before).bind fun e3 =>
   (idx e3 v).bind fun e4 =>
   (zq121 t e4).bind fun r1 =>
   (idx t.Trips r1).bind fun e5 =>
   (if (decide (0 < v)) = true then
    (idx blocks before).bind fun e8 =>
    (idx e8 (w64 (v - 1))).bind fun e9 =>
    (zq121 t e9).bind fun r3 =>
    (zq120 t r3).bind fun r7 =>
    (idx start1 r3).bind fun e11 =>
    (zq52 t f r3 r1).bind fun r8 =>
    (zq102 e5.Start (w64 ((w64 ((w64 (r7 + e11)) + f.Turn)) + r8))).bind fun r9 =>
    some r9
   else
    some e5.Start).bind fun (v1 : Int) =>
   (idx blocks before).bind fun e16 =>
   (idx e16 v).bind fun e17 =>
   (zq60 list e17).bind fun r11 =>
   (idx t.Trips r1).bind fun e18 =>
   (idx start1 r1).bind fun e19 =>
   some (.nx ((w64 (v + 1)), (start1.set r1.toNat (w64 ((w64 (v1 + r11)) - e18.Start)))))
  else
   some (.dn start1)
noncomputable def zq58_L2 (t : Timetable) (f : Fleet) (blocks : List (List Int)) (list : List Delay) : Int × (List Int) → Option (Lp (Int × (List Int)) ((List Int)))
 | (before, start) =>
  if (decide (before < (blocks.length : Int))) = true then
   (iter (zq58_L1 t f blocks list before) ((0 : Int), start)).bind fun (start2 : List Int) =>
   some (.nx ((w64 (before + 1)), start2))
  else
   some (.dn start)
noncomputable def zq58 (t : Timetable) (f : Fleet) (blocks : List (List Int)) (list : List Delay) : Option ((List Int)) :=
 (chk ((0 : Int) ≤ (t.Trips.length : Int) ∧ ((t.Trips.length : Int) : Int) ≤ 4294967296)).bind fun u =>
 (iter (zq58_L2 t f blocks list) ((0 : Int), (List.replicate (t.Trips.length : Int).toNat (0 : Int)))).bind fun (start3 : List Int) =>
 some start3
noncomputable def zq70_L1 (a : List Int) (b : List Int) : Int → Option (Lp (Int) (Fl (Bool) (Unit)))
 | v =>
  (if (decide (v < (a.length : Int))) = true then some (decide (v < (b.length : Int))) else some false).bind fun (v1 : Bool) =>
  if v1 = true then
   (idx a v).bind fun e2 =>
   (idx b v).bind fun e3 =>
   if (e2 != e3) = true then
    (idx a v).bind fun e6 =>
    (idx b v).bind fun e7 =>
    some (.dn (.ret (decide (e6 < e7))))
   else
    some (.nx (w64 (v + 1)))
  else
   some (.dn (.go ()))
noncomputable def zq70 (a : List Int) (b : List Int) : Option (Bool) :=
 flb (iter (zq70_L1 a b) (0 : Int)) fun (_ : Unit) =>
 some (decide ((a.length : Int) < (b.length : Int)))
noncomputable def zq62_L1 (t : Timetable) (block : List Int) (penalty : Int) (r : (List Int)) (r3 : (List Int)) : Int × Int → Option (Lp (Int × Int) (Int))
 | (v, v1) =>
  if (decide (v1 < (block.length : Int))) = true then
   ((idx block v1).bind fun e1 =>
   (zq121 t e1).bind fun r5 =>
   (idx block v1).bind fun e2 =>
   (zq99 r e2).bind fun r6 =>
   if r6 = true then
    (zq124 t r5).bind fun r7 =>
    some (w64 (v + (w64 (penalty * (r7.length : Int)))))
   else
    (idx r3 r5).bind fun e4 =>
    (zq124 t r5).bind fun r9 =>
    some (w64 (v + (w64 (e4 * (r9.length : Int)))))).bind fun (v2 : Int) =>
   some (.nx (v2, (w64 (v1 + 1))))
  else
   some (.dn v)
noncomputable def zq62_L2 (t : Timetable) (f : Fleet) (block : List Int) (list : List Delay) (penalty : Int) : (List Int) × Int × Int → Option (Lp ((List Int) × Int × Int) ((List Int) × Int))
 | (delays, cost, i) =>
  (chk ((0 : Int) ≤ (IntKind.u64.wrap ((block.length : Int))))).bind fun u =>
  if (decide (i < (w64 (1 * 2 ^ (min ((IntKind.u64.wrap ((block.length : Int))) : Int).toNat (IntKind.i64).bits))))) = true then
   ((zq71 block i).bind fun r =>
   (zq66 block r).bind fun r1 =>
   (zq65 t f r1).bind fun r2 =>
   if (!r2) = true then
    some (delays, cost)
   else
    (zq58 t f ([r1] : List (List Int)) list).bind fun r3 =>
    (iter (zq62_L1 t block penalty r r3) ((0 : Int), (0 : Int))).bind fun (v3 : Int) =>
    (if (decide (cost < 0)) = true then some true else if (decide (v3 < cost)) = true then some true else if (v3 == cost) = true then if (decide ((r.length : Int) < (delays.length : Int))) = true then some true else if ((r.length : Int) == (delays.length : Int)) = true then (zq70 r delays).bind fun r10 =>
    some r10 else some false else some false).bind fun (v4 : Bool) =>
    if v4 = true then
     some (r, v3)
    else
     some (delays, cost)).bind fun ((delays1, cost1) : (List Int) × Int) =>
   some (.nx (delays1, cost1, (w64 (i + 1))))
  else
   some (.dn (delays, cost))
noncomputable def zq62 (t : Timetable) (f : Fleet) (block : List Int) (list : List Delay) (penalty : Int) : Option ((List Int) × Int) :=
 (iter (zq62_L2 t f block list penalty) (([] : List Int), ((-1) : Int), (0 : Int))).bind fun ((delays2, cost2) : (List Int) × Int) =>
 some (delays2, cost2)
noncomputable def zq72_L1 (b : List Int) : (List Int) × Int → Option (Lp ((List Int) × Int) ((List Int)))
 | (a1, v) =>
  if (decide (v < (b.length : Int))) = true then
   (idx b v).bind fun e =>
   (zq106 a1 e).bind fun r =>
   some (.nx (r, (w64 (v + 1))))
  else
   some (.dn a1)
noncomputable def zq72 (a : List Int) (b : List Int) : Option ((List Int)) :=
 (iter (zq72_L1 b) (a, (0 : Int))).bind fun (a2 : List Int) =>
 some a2
noncomputable def zq43_L1 (t : Timetable) (f : Fleet) (blocks : List (List Int)) (list : List Delay) (penalty : Int) : (List Int) × Int × Int → Option (Lp ((List Int) × Int × Int) ((List Int) × Int))
 | (v1, v2, v3) =>
  if (decide (v3 < (blocks.length : Int))) = true then
   (idx blocks v3).bind fun e1 =>
   (zq62 t f e1 list penalty).bind fun r3 =>
   (zq72 v1 r3.1).bind fun r4 =>
   some (.nx (r4, (w64 (v2 + r3.2)), (w64 (v3 + 1))))
  else
   some (.dn (v1, v2))
noncomputable def zq43 (t : Timetable) (f : Fleet) (blocks : List (List Int)) (list : List Delay) (penalty : Int) : Option ((List Int) × Int × Bool) :=
 (zq57 t f blocks list).bind fun r =>
 (if (!r) = true then some true else (zq100 penalty 0 1000).bind fun r1 =>
 some (!r1)).bind fun (v : Bool) =>
 if v = true then
  some (([] : List Int), 0, false)
 else
  (iter (zq43_L1 t f blocks list penalty) (([] : List Int), (0 : Int), (0 : Int))).bind fun ((v4, v5) : (List Int) × Int) =>
  some (v4, v5, true)
noncomputable def zq132_L1 (a : List Int) (b : List Int) : Int → Option (Lp (Int) (Fl (Bool) (Unit)))
 | v =>
  if (decide (v < (a.length : Int))) = true then
   (idx a v).bind fun e2 =>
   (idx b v).bind fun e3 =>
   if (e2 != e3) = true then
    some (.dn (.ret false))
   else
    some (.nx (w64 (v + 1)))
  else
   some (.dn (.go ()))
noncomputable def zq132 (a : List Int) (b : List Int) : Option (Bool) :=
 if ((a.length : Int) != (b.length : Int)) = true then
  some false
 else
  flb (iter (zq132_L1 a b) (0 : Int)) fun (_ : Unit) =>
  some true
noncomputable def zq12_L1 (t : Timetable) (cancelled : List Int) : Int × Int → Option (Lp (Int × Int) (Fl (Bool) (Unit)))
 | (id, v) =>
  if (decide (v < (cancelled.length : Int))) = true then
   (idx cancelled v).bind fun e =>
   (if (decide (e ≤ id)) = true then some true else (zq39 t e).bind fun r =>
   some (decide (r < 0))).bind fun (v1 : Bool) =>
   if v1 = true then
    some (.dn (.ret false))
   else
    some (.nx (e, (w64 (v + 1))))
  else
   some (.dn (.go ()))
noncomputable def zq12 (t : Timetable) (cancelled : List Int) : Option (Bool) :=
 flb (iter (zq12_L1 t cancelled) ((0 : Int), (0 : Int))) fun (_ : Unit) =>
 some true
noncomputable def zq5 (t : Timetable) (f : Fleet) (blocks : List (List Int)) (cancelled : List Int) : Option (Bool) :=
 (zq6 t f blocks).bind fun r =>
 (if r = true then (zq12 t cancelled).bind fun r1 =>
 if r1 = true then (zq28 t f blocks cancelled).bind fun r2 =>
 some r2 else some false else some false).bind fun (v : Bool) =>
 some v
noncomputable def zq4 (t : Timetable) (f : Fleet) (blocks : List (List Int)) (list : List Delay) (penalty : Int) (cancelled : List Int) : Option (Int × Bool) :=
 (zq5 t f blocks cancelled).bind fun r =>
 (if (!r) = true then some true else (zq13 t list).bind fun r1 =>
 if (!r1) = true then some true else (zq27 penalty).bind fun r2 =>
 some (!r2)).bind fun (v : Bool) =>
 if v = true then
  some (0, false)
 else
  (zq18 t f blocks list penalty cancelled).bind fun r3 =>
  some (r3, true)
noncomputable def zq68_L1 (t : Timetable) (list : List Int) : Int → Option (Lp (Int) (Fl (Bool) (Unit)))
 | v =>
  if (decide (v < (list.length : Int))) = true then
   (idx list v).bind fun e3 =>
   (zq121 t e3).bind fun r1 =>
   (if (decide (r1 < 0)) = true then some true else if (decide (0 < v)) = true then (idx list (w64 (v - 1))).bind fun e4 =>
   (idx list v).bind fun e5 =>
   some (decide (e5 ≤ e4)) else some false).bind fun (v1 : Bool) =>
   if v1 = true then
    some (.dn (.ret false))
   else
    some (.nx (w64 (v + 1)))
  else
   some (.dn (.go ()))
noncomputable def zq68 (t : Timetable) (list : List Int) : Option (Bool) :=
 flb (iter (zq68_L1 t list) (0 : Int)) fun (_ : Unit) =>
 some true
noncomputable def zq69_L1 (t : Timetable) (f : Fleet) (blocks : List (List Int)) (cancelled : List Int) : Int → Option (Lp (Int) (Fl (Bool) (Unit)))
 | v =>
  if (decide (v < (blocks.length : Int))) = true then
   (idx blocks v).bind fun e1 =>
   (zq66 e1 cancelled).bind fun r3 =>
   (zq65 t f r3).bind fun r4 =>
   if (!r4) = true then
    some (.dn (.ret false))
   else
    some (.nx (w64 (v + 1)))
  else
   some (.dn (.go ()))
noncomputable def zq69 (t : Timetable) (f : Fleet) (blocks : List (List Int)) (cancelled : List Int) : Option (Bool) :=
 (zq68 t cancelled).bind fun r =>
 if (!r) = true then
  some false
 else
  flb (iter (zq69_L1 t f blocks cancelled) (0 : Int)) fun (_ : Unit) =>
  some true
noncomputable def zq61 (t : Timetable) (f : Fleet) (blocks : List (List Int)) (list : List Delay) (cancelled : List Int) : Option (Bool) :=
 (zq57 t f blocks list).bind fun r =>
 (if r = true then (zq69 t f blocks cancelled).bind fun r1 =>
 some r1 else some false).bind fun (v : Bool) =>
 some v
noncomputable def zq67_L1 (blocks : List (List Int)) (cancelled : List Int) : Int × (List (List Int)) → Option (Lp (Int × (List (List Int))) ((List (List Int))))
 | (v, v1) =>
  if (decide (v < (blocks.length : Int))) = true then
   (idx blocks v).bind fun e =>
   (zq66 e cancelled).bind fun r =>
   (chk (v1.length + ([r] : List (List Int)).length ≤ 4294967296)).bind fun u =>
   some (.nx ((w64 (v + 1)), (v1 ++ ([r] : List (List Int)))))
  else
   some (.dn v1)
noncomputable def zq67 (blocks : List (List Int)) (cancelled : List Int) : Option ((List (List Int))) :=
 (iter (zq67_L1 blocks cancelled) ((0 : Int), ([] : List (List Int)))).bind fun (v2 : List (List Int)) =>
 some v2
noncomputable def zq64_L1 (t : Timetable) (cancelled : List Int) : Int × (List Int) → Option (Lp (Int × (List Int)) ((List Int)))
 | (v, v1) =>
  if (decide (v < (v1.length : Int))) = true then
   ((idx t.Trips v).bind fun e =>
   (zq99 cancelled e.Id).bind fun r4 =>
   if r4 = true then
    (idx v1 v).bind fun e1 =>
    some (v1.set v.toNat (-1))
   else
    some v1).bind fun (v2 : List Int) =>
   some (.nx ((w64 (v + 1)), v2))
  else
   some (.dn v1)
noncomputable def zq64 (t : Timetable) (f : Fleet) (blocks : List (List Int)) (list : List Delay) (cancelled : List Int) : Option ((List Int)) :=
 (zq67 blocks cancelled).bind fun r2 =>
 (zq58 t f r2 list).bind fun r3 =>
 (iter (zq64_L1 t cancelled) ((0 : Int), r3)).bind fun (v3 : List Int) =>
 some v3
noncomputable def zq63_L1 (t : Timetable) (penalty : Int) (r : (List Int)) : Int × Int → Option (Lp (Int × Int) (Int))
 | (v, v1) =>
  if (decide (v1 < (r.length : Int))) = true then
   (idx r v1).bind fun e =>
   (if (decide (e < 0)) = true then
    some penalty
   else
    some e).bind fun (v2 : Int) =>
   (zq124 t v1).bind fun r1 =>
   some (.nx ((w64 (v + (w64 (v2 * (r1.length : Int))))), (w64 (v1 + 1))))
  else
   some (.dn v)
noncomputable def zq63 (t : Timetable) (f : Fleet) (blocks : List (List Int)) (list : List Delay) (penalty : Int) (cancelled : List Int) : Option (Int) :=
 (zq64 t f blocks list cancelled).bind fun r =>
 (iter (zq63_L1 t penalty r) ((0 : Int), (0 : Int))).bind fun (v3 : Int) =>
 some v3
noncomputable def zq44 (t : Timetable) (f : Fleet) (blocks : List (List Int)) (list : List Delay) (penalty : Int) (cancelled : List Int) : Option (Int × Bool) :=
 (zq61 t f blocks list cancelled).bind fun r =>
 (if (!r) = true then some true else (zq100 penalty 0 1000).bind fun r1 =>
 some (!r1)).bind fun (v : Bool) =>
 if v = true then
  some (0, false)
 else
  (zq63 t f blocks list penalty cancelled).bind fun r2 =>
  some (r2, true)
noncomputable def zq38_L1 (t : Timetable) (delays : List Int) : Int × Int → Option (Lp (Int × Int) (Int))
 | (d, v) =>
  if (decide (v < (delays.length : Int))) = true then
   (idx delays v).bind fun e =>
   (idx t.Trips v).bind fun e2 =>
   (zq35 t e2).bind fun r1 =>
   some (.nx ((w64 (d + (w64 (e * (r1.Stops.length : Int))))), (w64 (v + 1))))
  else
   some (.dn d)
noncomputable def zq38 (t : Timetable) (delays : List Int) : Option (Int) :=
 (iter (zq38_L1 t delays) ((0 : Int), (0 : Int))).bind fun (d1 : Int) =>
 some d1
noncomputable def zq10 (t : Timetable) (f : Fleet) (blocks : List (List Int)) (list : List Delay) : Option (Int × Bool) :=
 (zq14 t f blocks list).bind fun r =>
 if (!r) = true then
  some (0, false)
 else
  (zq21 t f blocks list).bind fun r3 =>
  (zq38 t r3).bind fun r4 =>
  some (r4, true)
noncomputable def v_FnRecovery (code : List UInt8) : Option (Bool) :=
 (zq131 code).bind fun r =>
 if r = true then
  some true
 else
  (zq45 code).bind fun r1 =>
  (zq3 r1.1 r1.2.1 r1.2.2.1 r1.2.2.2.1 r1.2.2.2.2.1).bind fun r2 =>
  (zq43 r1.1 r1.2.1 r1.2.2.1 r1.2.2.2.1 r1.2.2.2.2.1).bind fun r3 =>
  (if (!(r2.2.2 == r3.2.2)) = true then some true else if (r2.2.1 != r3.2.1) = true then some true else (zq132 r2.1 r3.1).bind fun r4 =>
  some (!r4)).bind fun (v : Bool) =>
  if v = true then
   some false
  else
   (zq4 r1.1 r1.2.1 r1.2.2.1 r1.2.2.2.1 r1.2.2.2.2.1 r1.2.2.2.2.2).bind fun r5 =>
   (zq44 r1.1 r1.2.1 r1.2.2.1 r1.2.2.2.1 r1.2.2.2.2.1 r1.2.2.2.2.2).bind fun r6 =>
   (if (r5.1 != r6.1) = true then some true else if (!(r5.2 == r6.2)) = true then some true else if r5.2 = true then some (decide (r5.1 < r2.2.1)) else some false).bind fun (v1 : Bool) =>
   if v1 = true then
    some false
   else
    if (!r2.2.2) = true then
     some ((r2.1.length : Int) == 0)
    else
     (zq4 r1.1 r1.2.1 r1.2.2.1 r1.2.2.2.1 r1.2.2.2.2.1 r2.1).bind fun r7 =>
     (zq4 r1.1 r1.2.1 r1.2.2.1 r1.2.2.2.1 r1.2.2.2.2.1 ([] : List Int)).bind fun r8 =>
     (zq10 r1.1 r1.2.1 r1.2.2.1 r1.2.2.2.1).bind fun r9 =>
     (zq5 r1.1 r1.2.1 r1.2.2.1 r2.1).bind fun r10 =>
     (if r10 = true then if r7.2 = true then if (r7.1 == r2.2.1) = true then if r8.2 = true then if r9.2 = true then if (r8.1 == r9.1) = true then some (decide (r2.2.1 ≤ r8.1)) else some false else some false else some false else some false else some false else some false).bind fun (t : Bool) =>
     some t
end Go.Proofs.YtaegkodcjpgndaaGreat
