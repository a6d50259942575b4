/- Models of the functions that the law reaches: plain Lean; none where the function would panic or not end. Made by program (dec.py). -/
import Derived.Test.YteieacgaipcnoaaAbC0
import Derived.Test.YteieacgaipcnoaaAbIns
import Derived.Test.YteieacgaipcnoaaAbGro
namespace Go.Proofs.Yteieacgaipcnoaa
open Go Go.Ab
set_option maxRecDepth 100000
set_option maxHeartbeats 4000000
set_option linter.unusedVariables false
set_option linter.unusedSimpArgs false
structure l1Cur where
 code_ : List UInt8
 at_ : Int
 seed_ : IK .u64
instance enc_l1Cur : Enc l1Cur := ⟨3, fun x => .agg [Enc.e x.code_, .sc (.int .i64 x.at_), .sc (.int .u64 x.seed_.v)], fun a b h => by
 simp only [D.agg.injEq, List.cons.injEq, and_true] at h
 obtain ⟨a1, a2, a3⟩ := a
 obtain ⟨b1, b2, b3⟩ := b
 obtain ⟨h1, h2, h3⟩ := h
 have q1 := Enc.inj (α := List UInt8) a1 b1 h1
 have q2 := Enc.inj (α := Int) a2 b2 h2
 have q3 := Enc.inj (α := IK .u64) a3 b3 h3
 subst q1; subst q2; subst q3; rfl⟩
structure Message where
 Kind : Int
 Line : ByteArray
 Stop : ByteArray
 From : Int
 To : Int
 Minutes : Int
instance enc_Message : Enc Message := ⟨6, fun x => .agg [.sc (.int .i64 x.Kind), .sc (.string x.Line), .sc (.string x.Stop), .sc (.int .i64 x.From), .sc (.int .i64 x.To), .sc (.int .i64 x.Minutes)], fun a b h => by
 simp only [D.agg.injEq, List.cons.injEq, and_true] at h
 obtain ⟨a1, a2, a3, a4, a5, a6⟩ := a
 obtain ⟨b1, b2, b3, b4, b5, b6⟩ := b
 obtain ⟨h1, h2, h3, h4, h5, h6⟩ := h
 have q1 := Enc.inj (α := Int) a1 b1 h1
 have q2 := Enc.inj (α := ByteArray) a2 b2 h2
 have q3 := Enc.inj (α := ByteArray) a3 b3 h3
 have q4 := Enc.inj (α := Int) a4 b4 h4
 have q5 := Enc.inj (α := Int) a5 b5 h5
 have q6 := Enc.inj (α := Int) a6 b6 h6
 subst q1; subst q2; subst q3; subst q4; subst q5; subst q6; rfl⟩
structure Line where
 Name : ByteArray
 Stops : List Int
 Runs : List Int
instance enc_Line : Enc Line := ⟨3, fun x => .agg [.sc (.string x.Name), Enc.e x.Stops, Enc.e x.Runs], fun a b h => by
 simp only [D.agg.injEq, List.cons.injEq, and_true] at h
 obtain ⟨a1, a2, a3⟩ := a
 obtain ⟨b1, b2, b3⟩ := b
 obtain ⟨h1, h2, h3⟩ := h
 have q1 := Enc.inj (α := ByteArray) a1 b1 h1
 have q2 := Enc.inj (α := List Int) a2 b2 h2
 have q3 := Enc.inj (α := List Int) a3 b3 h3
 subst q1; subst q2; subst q3; rfl⟩
structure Network where
 Stops : List ByteArray
 Lines : List Line
instance enc_Network : Enc Network := ⟨2, fun x => .agg [Enc.e x.Stops, Enc.e x.Lines], fun a b h => by
 simp only [D.agg.injEq, List.cons.injEq, and_true] at h
 obtain ⟨a1, a2⟩ := a
 obtain ⟨b1, b2⟩ := b
 obtain ⟨h1, h2⟩ := h
 have q1 := Enc.inj (α := List ByteArray) a1 b1 h1
 have q2 := Enc.inj (α := List Line) a2 b2 h2
 subst q1; subst q2; rfl⟩
structure Trip where
 Id : Int
 Line : Int
 Start : Int
instance enc_Trip : Enc Trip := ⟨3, fun x => .agg [.sc (.int .i64 x.Id), .sc (.int .i64 x.Line), .sc (.int .i64 x.Start)], fun a b h => by
 simp only [D.agg.injEq, List.cons.injEq, and_true] at h
 obtain ⟨a1, a2, a3⟩ := a
 obtain ⟨b1, b2, b3⟩ := b
 obtain ⟨h1, h2, h3⟩ := h
 have q1 := Enc.inj (α := Int) a1 b1 h1
 have q2 := Enc.inj (α := Int) a2 b2 h2
 have q3 := Enc.inj (α := Int) a3 b3 h3
 subst q1; subst q2; subst q3; rfl⟩
structure Timetable where
 Network : Network
 Trips : List Trip
instance enc_Timetable : Enc Timetable := ⟨3, fun x => .agg [Enc.e x.Network.Stops, Enc.e x.Network.Lines, Enc.e x.Trips], fun a b h => by
 simp only [D.agg.injEq, List.cons.injEq, and_true] at h
 obtain ⟨⟨a1, a2⟩, a3⟩ := a
 obtain ⟨⟨b1, b2⟩, b3⟩ := b
 obtain ⟨h1, h2, h3⟩ := h
 have q1 := Enc.inj (α := List ByteArray) a1 b1 h1
 have q2 := Enc.inj (α := List Line) a2 b2 h2
 have q3 := Enc.inj (α := List Trip) a3 b3 h3
 subst q1; subst q2; subst q3; rfl⟩
structure TripDelay where
 Id : Int
 Minutes : Int
instance enc_TripDelay : Enc TripDelay := ⟨2, fun x => .agg [.sc (.int .i64 x.Id), .sc (.int .i64 x.Minutes)], fun a b h => by
 simp only [D.agg.injEq, List.cons.injEq, and_true] at h
 obtain ⟨a1, a2⟩ := a
 obtain ⟨b1, b2⟩ := b
 obtain ⟨h1, h2⟩ := h
 have q1 := Enc.inj (α := Int) a1 b1 h1
 have q2 := Enc.inj (α := Int) a2 b2 h2
 subst q1; subst q2; rfl⟩
instance : BxE l1Cur := ⟨fun x y h => Enc.inj x y (congrArg D.agg h)⟩
instance : BxE Message := ⟨fun x y h => Enc.inj x y (congrArg D.agg h)⟩
instance : BxE Line := ⟨fun x y h => Enc.inj x y (congrArg D.agg h)⟩
instance : BxE Network := ⟨fun x y h => Enc.inj x y (congrArg D.agg h)⟩
instance : BxE Trip := ⟨fun x y h => Enc.inj x y (congrArg D.agg h)⟩
instance : BxE Timetable := ⟨fun x y h => Enc.inj x y (congrArg D.agg h)⟩
instance : BxE TripDelay := ⟨fun x y h => Enc.inj x y (congrArg D.agg h)⟩
instance : FlatEnc Message := ⟨fun _ => flatDB_ok rfl⟩
instance : FlatEnc Trip := ⟨fun _ => flatDB_ok rfl⟩
instance : FlatEnc TripDelay := ⟨fun _ => flatDB_ok rfl⟩
noncomputable def v_rBig (code : List UInt8) : Option (Bool) :=
 some (decide (65536 < (code.length : Int)))
noncomputable def s_l1Cur_next (c : l1Cur) : Option (Int × l1Cur) :=
 (if (decide (c.at_ < (c.code_.length : Int))) = true then
  (idx c.code_ c.at_).bind fun e1 =>
  some (w64 ((e1.toNat : Int)))
 else
  some (0 : Int)).bind fun (v : Int) =>
 if (decide ((w64 (c.at_ + 1)) ≤ (c.code_.length : Int))) = true then
  some (v, (⟨c.code_, (w64 (c.at_ + 1)), (⟨(IntKind.u64.wrap ((IntKind.u64.wrap ((IntKind.u64.wrap (c.seed_.v * 6364136223846793005)) + (IntKind.u64.wrap (v)))) + 900900))⟩ : IK .u64)⟩ : l1Cur))
 else
  (chk ((0 : Int) ≤ 40)).bind fun u =>
  some ((w64 ((IntKind.u64.wrap ((BitVec.ofInt (IntKind.u64).bits ((IntKind.u64.wrap ((IntKind.u64.wrap ((IntKind.u64.wrap (c.seed_.v * 6364136223846793005)) + (IntKind.u64.wrap (v)))) + 900900)).fdiv (2 ^ (min (40 : Int).toNat (IntKind.u64).bits))) &&& BitVec.ofInt (IntKind.u64).bits 255).toNat : Int)))), (⟨c.code_, (w64 (c.at_ + 1)), (⟨(IntKind.u64.wrap ((IntKind.u64.wrap ((IntKind.u64.wrap (c.seed_.v * 6364136223846793005)) + (IntKind.u64.wrap (v)))) + 900900))⟩ : IK .u64)⟩ : l1Cur))
noncomputable def s_l1Cur_pick (c : l1Cur) (n : Int) : Option (Int × l1Cur) :=
 if (decide (n ≤ 1)) = true then
  some (0, c)
 else
  (s_l1Cur_next c).bind fun r =>
  (if (decide (200 < n)) = true then
   (s_l1Cur_next r.2).bind fun r1 =>
   some ((w64 ((w64 (r.1 * 256)) + r1.1)), r1.2.code_, r1.2.at_, r1.2.seed_.v)
  else
   some (r.1, r.2.code_, r.2.at_, r.2.seed_.v)).bind fun ((v, v1, v2, v3) : Int × (List UInt8) × Int × Int) =>
  (chk ((n : Int) ≠ 0)).bind fun u =>
  some ((v.tmod n), (⟨v1, v2, (⟨v3⟩ : IK .u64)⟩ : l1Cur))
noncomputable def s_l1Cur_of (c : l1Cur) (list : List ByteArray) : Option (ByteArray × l1Cur) :=
 (s_l1Cur_pick c (list.length : Int)).bind fun r =>
 (idx list r.1).bind fun e =>
 some (e, r.2)
noncomputable def s_l1Cur_among (c : l1Cur) (list : List Int) : Option (Int × l1Cur) :=
 (s_l1Cur_pick c (list.length : Int)).bind fun r =>
 (idx list r.1).bind fun e =>
 some (e, r.2)
noncomputable def s_l1Least (a : Int) (b : Int) : Option (Int) :=
 if (decide (a < b)) = true then
  some a
 else
  some b
noncomputable def s_l1Cur_message (c : l1Cur) : Option (Message × l1Cur) :=
 (s_l1Cur_pick c 5).bind fun r =>
 (s_l1Cur_of r.2 ([(str [97]), (str [98, 49]), (str [101, 120, 112, 114, 101, 115, 115])] : List ByteArray)).bind fun r1 =>
 (s_l1Cur_of r1.2 ([(str [104, 97, 114, 98, 111, 114]), (str [120])] : List ByteArray)).bind fun r2 =>
 (s_l1Cur_among r2.2 ([0, 425, 600, 1439, 1799] : List Int)).bind fun r3 =>
 (if ((w64 (1 + r.1)) == 1) = true then
  (s_l1Cur_among r3.2 ([1, 2, 10, 600] : List Int)).bind fun r4 =>
  some (r4.2.code_, r4.2.at_, r4.2.seed_.v, r1.1, ByteArray.empty, (0 : Int), (0 : Int), r4.1)
 else
  (if ((w64 (1 + r.1)) == 2) = true then
   some ((w64 (1 + r.1)) == 2)
  else
   some ((w64 (1 + r.1)) == 5)).bind fun (v8 : Bool) =>
  if v8 = true then
   some (r3.2.code_, r3.2.at_, r3.2.seed_.v, r1.1, ByteArray.empty, r3.1, (0 : Int), (0 : Int))
  else
   if ((w64 (1 + r.1)) == 3) = true then
    (s_l1Cur_among r3.2 ([0, 30, 200] : List Int)).bind fun r5 =>
    (s_l1Least (w64 (r3.1 + r5.1)) 1799).bind fun r6 =>
    some (r5.2.code_, r5.2.at_, r5.2.seed_.v, ByteArray.empty, r2.1, r3.1, r6, (0 : Int))
   else
    (s_l1Cur_among r3.2 ([0, 30, 200] : List Int)).bind fun r7 =>
    (s_l1Least (w64 (r3.1 + r7.1)) 1799).bind fun r8 =>
    some (r7.2.code_, r7.2.at_, r7.2.seed_.v, r1.1, r2.1, r3.1, r8, (0 : Int))).bind fun ((v, v1, v2, v3, v4, v5, v6, v7) : (List UInt8) × Int × Int × ByteArray × ByteArray × Int × Int × Int) =>
 ((s_l1Cur_pick (⟨v, v1, (⟨v2⟩ : IK .u64)⟩ : l1Cur) 60).bind fun r9 =>
 if (r9.1 == 0) = true then
  (s_l1Cur_among r9.2 ([0, 6, 1] : List Int)).bind fun r10 =>
  some (r10.2.code_, r10.2.at_, r10.2.seed_.v, r10.1, v3, v6, v7)
 else
  if (r9.1 == 1) = true then
   (s_l1Cur_among r9.2 ([0, 601, 5] : List Int)).bind fun r11 =>
   some (r11.2.code_, r11.2.at_, r11.2.seed_.v, (w64 (1 + r.1)), v3, v6, r11.1)
  else
   if (r9.1 == 2) = true then
    (s_l1Cur_among r9.2 ([(-1), 1800, 3] : List Int)).bind fun r12 =>
    some (r12.2.code_, r12.2.at_, r12.2.seed_.v, (w64 (1 + r.1)), v3, r12.1, v7)
   else
    if (r9.1 == 3) = true then
     (s_l1Cur_of r9.2 ([(str []), (str [65]), (str [108, 105, 110, 101, 49])] : List ByteArray)).bind fun r13 =>
     some (r13.2.code_, r13.2.at_, r13.2.seed_.v, (w64 (1 + r.1)), r13.1, v6, v7)
    else
     some (r9.2.code_, r9.2.at_, r9.2.seed_.v, (w64 (1 + r.1)), v3, v6, v7)).bind fun ((v9, v10, v11, v12, v13, v14, v15) : (List UInt8) × Int × Int × Int × ByteArray × Int × Int) =>
 some ((⟨v12, v13, v4, v5, v14, v15⟩ : Message), (⟨v9, v10, (⟨v11⟩ : IK .u64)⟩ : l1Cur))
noncomputable def s_l1Cur_one (c : l1Cur) (n : Int) : Option (Bool × l1Cur) :=
 (s_l1Cur_pick c n).bind fun r =>
 some ((r.1 == 0), r.2)
noncomputable def s_l1Cur_notice_L1 : Int × (List UInt8) × Int × Int × (List Message) → Option (Lp (Int × (List UInt8) × Int × Int × (List Message)) ((List UInt8) × Int × Int × (List Message)))
 | (v, v1, v2, v3, n) =>
  if (decide (0 < v)) = true then
   (s_l1Cur_message (⟨v1, v2, (⟨v3⟩ : IK .u64)⟩ : l1Cur)).bind fun r1 =>
   (chk (n.length + ([r1.1] : List Message).length ≤ 4294967296)).bind fun u =>
   some (.nx ((w64 (v - 1)), r1.2.code_, r1.2.at_, r1.2.seed_.v, (n ++ ([r1.1] : List Message))))
  else
   some (.dn (v1, v2, v3, n))
noncomputable def s_l1Cur_notice_L2 : (List UInt8) × Int × Int × (List Message) → Option (Lp ((List UInt8) × Int × Int × (List Message)) ((List UInt8) × Int × Int × (List Message)))
 | (v10, v11, v12, n3) =>
  (s_l1Cur_pick (⟨v10, v11, (⟨v12⟩ : IK .u64)⟩ : l1Cur) 2).bind fun r3 =>
  if (decide ((n3.length : Int) < (w64 (10 + r3.1)))) = true then
   (chk (n3.length + ([(⟨1, (str [122]), ByteArray.empty, 0, 0, (w64 (2 + (n3.length : Int)))⟩ : Message)] : List Message).length ≤ 4294967296)).bind fun u1 =>
   some (.nx (r3.2.code_, r3.2.at_, r3.2.seed_.v, (n3 ++ ([(⟨1, (str [122]), ByteArray.empty, 0, 0, (w64 (2 + (n3.length : Int)))⟩ : Message)] : List Message))))
  else
   some (.dn (r3.2.code_, r3.2.at_, r3.2.seed_.v, n3))
noncomputable def s_l1Cur_notice (c : l1Cur) : Option ((List Message) × l1Cur) :=
 (s_l1Cur_pick c 5).bind fun r =>
 (iter (s_l1Cur_notice_L1) (r.1, r.2.code_, r.2.at_, r.2.seed_.v, ([] : List Message))).bind fun ((v4, v5, v6, n1) : (List UInt8) × Int × Int × (List Message)) =>
 ((s_l1Cur_one (⟨v4, v5, (⟨v6⟩ : IK .u64)⟩ : l1Cur) 40).bind fun r2 =>
 if r2.1 = true then
  (iter (s_l1Cur_notice_L2) (r2.2.code_, r2.2.at_, r2.2.seed_.v, n1)).bind fun ((v13, v14, v15, n4) : (List UInt8) × Int × Int × (List Message)) =>
  some (v13, v14, v15, n4)
 else
  some (r2.2.code_, r2.2.at_, r2.2.seed_.v, n1)).bind fun ((v7, v8, v9, n2) : (List UInt8) × Int × Int × (List Message)) =>
 some (n2, (⟨v7, v8, (⟨v9⟩ : IK .u64)⟩ : l1Cur))
noncomputable def s_DrawMergeNotices (code : List UInt8) : Option ((List Message) × (List Message)) :=
 (s_l1Cur_notice (⟨code, 0, (⟨0⟩ : IK .u64)⟩ : l1Cur)).bind fun r =>
 (s_l1Cur_notice r.2).bind fun r1 =>
 ((if (decide (0 < (r.1.length : Int))) = true then (s_l1Cur_one r1.2 2).bind fun r2 =>
 some (r2.1, r2.2.code_, r2.2.at_, r2.2.seed_.v) else some (false, r1.2.code_, r1.2.at_, r1.2.seed_.v)).bind fun ((v1, v2, v3, v4) : Bool × (List UInt8) × Int × Int) =>
 if v1 = true then
  (s_l1Cur_pick (⟨v2, v3, (⟨v4⟩ : IK .u64)⟩ : l1Cur) (r.1.length : Int)).bind fun r3 =>
  (idx r.1 r3.1).bind fun e =>
  (chk (r1.1.length + ([e] : List Message).length ≤ 4294967296)).bind fun u =>
  some (r1.1 ++ ([e] : List Message))
 else
  some r1.1).bind fun (v : List Message) =>
 some (r.1, v)
noncomputable def i_isName_L1 (s : ByteArray) : Int → Option (Lp (Int) (Fl (Bool) (Unit)))
 | v1 =>
  if (decide (v1 < (s.size : Int))) = true then
   (chk ((0 : Int) ≤ v1 ∧ v1 < (s.size : Int))).bind fun u =>
   (if (decide (97 ≤ ((s.data.toList.getD v1.toNat 0).toNat : Int))) = true then (chk ((0 : Int) ≤ v1 ∧ v1 < (s.size : Int))).bind fun u1 =>
   some (decide (((s.data.toList.getD v1.toNat 0).toNat : Int) ≤ 122)) else some false).bind fun (v2 : Bool) =>
   (if (!v2) = true then if (v1 == 0) = true then some true else (chk ((0 : Int) ≤ v1 ∧ v1 < (s.size : Int))).bind fun u2 =>
   if (decide (((s.data.toList.getD v1.toNat 0).toNat : Int) < 48)) = true then some true else (chk ((0 : Int) ≤ v1 ∧ v1 < (s.size : Int))).bind fun u3 =>
   some (decide (57 < ((s.data.toList.getD v1.toNat 0).toNat : Int))) else some false).bind fun (v3 : Bool) =>
   if v3 = true then
    some (.dn (.ret false))
   else
    some (.nx (w64 (v1 + 1)))
  else
   some (.dn (.go ()))
noncomputable def i_isName (s : ByteArray) : Option (Bool) :=
 (if (decide ((s.size : Int) < 1)) = true then some true else some (decide (8 < (s.size : Int)))).bind fun (v : Bool) =>
 if v = true then
  some false
 else
  flb (iter (i_isName_L1 s) (0 : Int)) fun (_ : Unit) =>
  some true
noncomputable def i_within (n : Int) (lo : Int) (hi : Int) : Option (Bool) :=
 (if (decide (lo ≤ n)) = true then some (decide (n ≤ hi)) else some false).bind fun (v : Bool) =>
 some v
noncomputable def i_IsValidTime (t : Int) : Option (Bool) :=
 (i_within t 0 1799).bind fun r =>
 some r
noncomputable def i_isPeriod (m : Message) : Option (Bool) :=
 (i_IsValidTime m.From).bind fun r =>
 (if r = true then (i_IsValidTime m.To).bind fun r1 =>
 if r1 = true then some (decide (m.From ≤ m.To)) else some false else some false).bind fun (v : Bool) =>
 some v
noncomputable def i_IsValidMessage (m : Message) : Option (Bool) :=
 flb (if (m.Kind == 1) = true then
  (i_isName m.Line).bind fun r =>
  (if (!r) = true then some true else (i_within m.Minutes 1 600).bind fun r1 =>
  some (!r1)).bind fun (v5 : Bool) =>
  if v5 = true then
   some (.ret false)
  else
   some (.go ((str []), m.Stop, m.From, m.To, (0 : Int)))
 else
  (if (m.Kind == 2) = true then
   some (m.Kind == 2)
  else
   some (m.Kind == 5)).bind fun (v6 : Bool) =>
  if v6 = true then
   (i_isName m.Line).bind fun r3 =>
   (if (!r3) = true then some true else (i_IsValidTime m.From).bind fun r4 =>
   some (!r4)).bind fun (v7 : Bool) =>
   if v7 = true then
    some (.ret false)
   else
    some (.go ((str []), m.Stop, (0 : Int), m.To, m.Minutes))
  else
   if (m.Kind == 3) = true then
    (i_isName m.Stop).bind fun r6 =>
    (if (!r6) = true then some true else (i_isPeriod m).bind fun r7 =>
    some (!r7)).bind fun (v8 : Bool) =>
    if v8 = true then
     some (.ret false)
    else
     some (.go (m.Line, (str []), (0 : Int), (0 : Int), m.Minutes))
   else
    if (m.Kind == 4) = true then
     (i_isName m.Line).bind fun r9 =>
     (if (!r9) = true then some true else (i_isName m.Stop).bind fun r10 =>
     if (!r10) = true then some true else (i_isPeriod m).bind fun r11 =>
     some (!r11)).bind fun (v9 : Bool) =>
     if v9 = true then
      some (.ret false)
     else
      some (.go ((str []), (str []), (0 : Int), (0 : Int), m.Minutes))
    else
     some (.ret false)) fun ((v, v1, v2, v3, v4) : ByteArray × ByteArray × Int × Int × Int) =>
 some ((m.Kind == m.Kind) && ((v.toList == ByteArray.empty.toList) && ((v1.toList == ByteArray.empty.toList) && ((v2 == 0) && ((v3 == 0) && ((v4 == 0) && true))))))
noncomputable def i_isNotice_1 (m : Message) : Option (Bool) :=
 (i_IsValidMessage m).bind fun r =>
 some (!r)
noncomputable def slices_IndexFunc_Message_L1 (s : List Message) (f : Message → Option (Bool)) : Int → Option (Lp (Int) (Fl (Int) (Unit)))
 | v =>
  if (decide (v < (s.length : Int))) = true then
   (idx s v).bind fun e =>
   (f e).bind fun r =>
   if r = true then
    some (.dn (.ret v))
   else
    some (.nx (w64 (v + 1)))
  else
   some (.dn (.go ()))
noncomputable def slices_IndexFunc_Message (s : List Message) (f : Message → Option (Bool)) : Option (Int) :=
 flb (iter (slices_IndexFunc_Message_L1 s f) (0 : Int)) fun (_ : Unit) =>
 some (-1)
noncomputable def slices_IndexFunc_Message__i_isNotice_1 (s : List Message) : Option (Int) :=
 slices_IndexFunc_Message s (fun (z0 : Message) => i_isNotice_1 z0)
noncomputable def slices_ContainsFunc_Message (s : List Message) (f : Message → Option (Bool)) : Option (Bool) :=
 (slices_IndexFunc_Message s f).bind fun r =>
 some (decide (0 ≤ r))
noncomputable def slices_ContainsFunc_Message__i_isNotice_1 (s : List Message) : Option (Bool) :=
 slices_ContainsFunc_Message s (fun (z0 : Message) => i_isNotice_1 z0)
noncomputable def i_isNotice (list : List Message) : Option (Bool) :=
 (if (decide ((list.length : Int) ≤ 10)) = true then (slices_ContainsFunc_Message__i_isNotice_1 list).bind fun r =>
 some (!r) else some false).bind fun (v : Bool) =>
 some v
noncomputable def slices_Grow_Message_z (n : Int) : Option ((List Message)) :=
 groZM n
noncomputable def slices_Concat_Message_L1 (slices : List (List Message)) : Int × Int → Option (Lp (Int × Int) (Int))
 | (v, v1) =>
  if (decide (v1 < (slices.length : Int))) = true then
   (idx slices v1).bind fun e =>
   if (decide ((w64 (v + (e.length : Int))) < 0)) = true then
    none
   else
    some (.nx ((w64 (v + (e.length : Int))), (w64 (v1 + 1))))
  else
   some (.dn v)
noncomputable def slices_Concat_Message_L2 (slices : List (List Message)) : Int × (List Message) → Option (Lp (Int × (List Message)) ((List Message)))
 | (v3, v4) =>
  if (decide (v3 < (slices.length : Int))) = true then
   (idx slices v3).bind fun e1 =>
   (chk (v4.length + e1.length ≤ 4294967296)).bind fun u =>
   some (.nx ((w64 (v3 + 1)), (v4 ++ e1)))
  else
   some (.dn v4)
noncomputable def slices_Concat_Message (slices : List (List Message)) : Option ((List Message)) :=
 (iter (slices_Concat_Message_L1 slices) ((0 : Int), (0 : Int))).bind fun (v2 : Int) =>
 (slices_Grow_Message_z v2).bind fun r =>
 (iter (slices_Concat_Message_L2 slices) ((0 : Int), r)).bind fun (v5 : List Message) =>
 some v5
noncomputable def slices_Index_Message_L1 (s : List Message) (v : Message) : Int → Option (Lp (Int) (Fl (Int) (Unit)))
 | v1 =>
  if (decide (v1 < (s.length : Int))) = true then
   (idx s v1).bind fun e1 =>
   if ((v.Kind == e1.Kind) && ((v.Line.toList == e1.Line.toList) && ((v.Stop.toList == e1.Stop.toList) && ((v.From == e1.From) && ((v.To == e1.To) && ((v.Minutes == e1.Minutes) && true)))))) = true then
    some (.dn (.ret v1))
   else
    some (.nx (w64 (v1 + 1)))
  else
   some (.dn (.go ()))
noncomputable def slices_Index_Message (s : List Message) (v : Message) : Option (Int) :=
 flb (iter (slices_Index_Message_L1 s v) (0 : Int)) fun (_ : Unit) =>
 some (-1)
noncomputable def slices_Contains_Message (s : List Message) (v : Message) : Option (Bool) :=
 (slices_Index_Message s v).bind fun r =>
 some (decide (0 ≤ r))
noncomputable def i_MergeNotices_1 (n : Message) (c1 : Message) : Option (Bool) :=
 (if (n.Kind == 1) = true then some (n.Line.toList == c1.Line.toList) else some false).bind fun (v : Bool) =>
 some v
noncomputable def slices_IndexFunc_Message__i_MergeNotices_1 (s : List Message) (c1 : Message) : Option (Int) :=
 slices_IndexFunc_Message s (fun (z0 : Message) => i_MergeNotices_1 z0 c1)
noncomputable def slices_ContainsFunc_Message__i_MergeNotices_1 (s : List Message) (c1 : Message) : Option (Bool) :=
 slices_ContainsFunc_Message s (fun (z0 : Message) => i_MergeNotices_1 z0 c1)
noncomputable def i_MergeNotices_L1 (r2 : (List Message)) : Int × (List Message) → Option (Lp (Int × (List Message)) ((List Message)))
 | (v1, m) =>
  if (decide (v1 < (r2.length : Int))) = true then
   ((idx r2 v1).bind fun e =>
   (chk ((0 : Int) ≤ 0 ∧ (0 : Int) ≤ v1 ∧ v1 ≤ (r2.length : Int))).bind fun u1 =>
   (slices_Contains_Message ((r2.take v1.toNat).drop (0 : Int).toNat) e).bind fun r4 =>
   (if (e.Kind == 1) = true then
    (chk ((0 : Int) ≤ (w64 (v1 + 1)) ∧ (w64 (v1 + 1)) ≤ (r2.length : Int))).bind fun u2 =>
    (slices_ContainsFunc_Message__i_MergeNotices_1 (r2.drop (w64 (v1 + 1)).toNat) e).bind fun r5 =>
    some r5
   else
    some r4).bind fun (v2 : Bool) =>
   if (!v2) = true then
    (chk (m.length + ([e] : List Message).length ≤ 4294967296)).bind fun u3 =>
    some (m ++ ([e] : List Message))
   else
    some m).bind fun (m1 : List Message) =>
   some (.nx ((w64 (v1 + 1)), m1))
  else
   some (.dn m)
noncomputable def i_MergeNotices (a : List Message) (b : List Message) : Option ((List Message) × Bool) :=
 (i_isNotice a).bind fun r =>
 (if (!r) = true then some true else (i_isNotice b).bind fun r1 =>
 some (!r1)).bind fun (v : Bool) =>
 if v = true then
  some (([] : List Message), false)
 else
  (slices_Concat_Message ([a, b] : List (List Message))).bind fun r2 =>
  (iter (i_MergeNotices_L1 r2) ((0 : Int), ([] : List Message))).bind fun (m2 : List Message) =>
  (i_isNotice m2).bind fun r6 =>
  if (!r6) = true then
   some (([] : List Message), false)
  else
   some (m2, true)
noncomputable def s_l1In (x : Int) (a : Int) (b : Int) : Option (Bool) :=
 (if (decide (a ≤ x)) = true then some (decide (x ≤ b)) else some false).bind fun (v : Bool) =>
 some v
noncomputable def s_l2Name_L1 (s : ByteArray) : Int → Option (Lp (Int) (Fl (Bool) (Unit)))
 | v1 =>
  if (decide (v1 < (s.size : Int))) = true then
   (chk ((0 : Int) ≤ v1 ∧ v1 < (s.size : Int))).bind fun u2 =>
   (if (decide (((s.data.toList.getD v1.toNat 0).toNat : Int) < 97)) = true then (chk ((0 : Int) ≤ v1 ∧ v1 < (s.size : Int))).bind fun u3 =>
   if (decide (((s.data.toList.getD v1.toNat 0).toNat : Int) < 48)) = true then some true else (chk ((0 : Int) ≤ v1 ∧ v1 < (s.size : Int))).bind fun u4 =>
   some (decide (57 < ((s.data.toList.getD v1.toNat 0).toNat : Int))) else (chk ((0 : Int) ≤ v1 ∧ v1 < (s.size : Int))).bind fun u5 =>
   if (decide (122 < ((s.data.toList.getD v1.toNat 0).toNat : Int))) = true then (chk ((0 : Int) ≤ v1 ∧ v1 < (s.size : Int))).bind fun u6 =>
   if (decide (((s.data.toList.getD v1.toNat 0).toNat : Int) < 48)) = true then some true else (chk ((0 : Int) ≤ v1 ∧ v1 < (s.size : Int))).bind fun u7 =>
   some (decide (57 < ((s.data.toList.getD v1.toNat 0).toNat : Int))) else some false).bind fun (v2 : Bool) =>
   if v2 = true then
    some (.dn (.ret false))
   else
    some (.nx (w64 (v1 + 1)))
  else
   some (.dn (.go ()))
noncomputable def s_l2Name (s : ByteArray) : Option (Bool) :=
 (s_l1In (s.size : Int) 1 8).bind fun r =>
 (if (!r) = true then some true else (chk ((0 : Int) ≤ 0 ∧ 0 < (s.size : Int))).bind fun u =>
 if (decide (((s.data.toList.getD (0 : Int).toNat 0).toNat : Int) < 97)) = true then some true else (chk ((0 : Int) ≤ 0 ∧ 0 < (s.size : Int))).bind fun u1 =>
 some (decide (122 < ((s.data.toList.getD (0 : Int).toNat 0).toNat : Int)))).bind fun (v : Bool) =>
 if v = true then
  some false
 else
  flb (iter (s_l2Name_L1 s) (0 : Int)) fun (_ : Unit) =>
  some true
noncomputable def s_l4Time (t : Int) : Option (Bool) :=
 (s_l1In t 0 1799).bind fun r =>
 some r
noncomputable def s_l24Good (m : Message) : Option (Bool) :=
 if (m.Kind == 1) = true then
  (if ((m.Kind == m.Kind) && ((m.Line.toList == m.Line.toList) && ((m.Stop.toList == ByteArray.empty.toList) && ((m.From == 0) && ((m.To == 0) && ((m.Minutes == m.Minutes) && true)))))) = true then (s_l2Name m.Line).bind fun r =>
  if r = true then (s_l1In m.Minutes 1 600).bind fun r1 =>
  some r1 else some false else some false).bind fun (x : Bool) =>
  some x
 else
  (if (m.Kind == 2) = true then
   some (m.Kind == 2)
  else
   some (m.Kind == 5)).bind fun (v : Bool) =>
  if v = true then
   (if ((m.Kind == m.Kind) && ((m.Line.toList == m.Line.toList) && ((m.Stop.toList == ByteArray.empty.toList) && ((m.From == m.From) && ((m.To == 0) && ((m.Minutes == 0) && true)))))) = true then (s_l2Name m.Line).bind fun r2 =>
   if r2 = true then (s_l4Time m.From).bind fun r3 =>
   some r3 else some false else some false).bind fun (x1 : Bool) =>
   some x1
  else
   if (m.Kind == 3) = true then
    (if (m.Line.toList == (str []).toList) = true then if (m.Minutes == 0) = true then (s_l2Name m.Stop).bind fun r4 =>
    if r4 = true then (s_l4Time m.From).bind fun r5 =>
    if r5 = true then (s_l4Time m.To).bind fun r6 =>
    if r6 = true then some (decide (m.From ≤ m.To)) else some false else some false else some false else some false else some false).bind fun (x2 : Bool) =>
    some x2
   else
    if (m.Kind == 4) = true then
     (if (m.Minutes == 0) = true then (s_l2Name m.Line).bind fun r7 =>
     if r7 = true then (s_l2Name m.Stop).bind fun r8 =>
     if r8 = true then (s_l4Time m.From).bind fun r9 =>
     if r9 = true then (s_l4Time m.To).bind fun r10 =>
     if r10 = true then some (decide (m.From ≤ m.To)) else some false else some false else some false else some false else some false).bind fun (x3 : Bool) =>
     some x3
    else
     some false
noncomputable def s_l24Notice_L1 (list : List Message) : Int → Option (Lp (Int) (Fl (Bool) (Unit)))
 | v =>
  if (decide (v < (list.length : Int))) = true then
   (idx list v).bind fun e =>
   (s_l24Good e).bind fun r =>
   if (!r) = true then
    some (.dn (.ret false))
   else
    some (.nx (w64 (v + 1)))
  else
   some (.dn (.go ()))
noncomputable def s_l24Notice (list : List Message) : Option (Bool) :=
 flb (iter (s_l24Notice_L1 list) (0 : Int)) fun (_ : Unit) =>
 some (decide ((list.length : Int) ≤ 10))
noncomputable def s_MergeNotices_L1 (a : List Message) (b : List Message) (k : Int) : Bool × Int → Option (Lp (Bool × Int) (Bool))
 | (v1, v2) =>
  if (decide (v2 < (((([] : List Message) ++ a) ++ b).length : Int))) = true then
   ((idx ((([] : List Message) ++ a) ++ b) k).bind fun e =>
   if (e.Kind == 1) = true then
    if v1 = true then if (decide (k < v2)) = true then (idx ((([] : List Message) ++ a) ++ b) v2).bind fun e4 =>
    if (e4.Kind == 1) = true then (idx ((([] : List Message) ++ a) ++ b) v2).bind fun e5 =>
    (idx ((([] : List Message) ++ a) ++ b) k).bind fun e6 =>
    some (!(e5.Line.toList == e6.Line.toList)) else some true else some true else some false
   else
    if v1 = true then if (decide (v2 < k)) = true then (idx ((([] : List Message) ++ a) ++ b) v2).bind fun e9 =>
    (idx ((([] : List Message) ++ a) ++ b) k).bind fun e10 =>
    some (!((e9.Kind == e10.Kind) && ((e9.Line.toList == e10.Line.toList) && ((e9.Stop.toList == e10.Stop.toList) && ((e9.From == e10.From) && ((e9.To == e10.To) && ((e9.Minutes == e10.Minutes) && true))))))) else some true else some false).bind fun (v3 : Bool) =>
   some (.nx (v3, (w64 (v2 + 1))))
  else
   some (.dn v1)
noncomputable def s_MergeNotices_L2 (a : List Message) (b : List Message) : Int × (List Message) → Option (Lp (Int × (List Message)) ((List Message)))
 | (k, keep) =>
  if (decide (k < (((([] : List Message) ++ a) ++ b).length : Int))) = true then
   ((iter (s_MergeNotices_L1 a b k) (true, (0 : Int))).bind fun (v4 : Bool) =>
   if v4 = true then
    (idx ((([] : List Message) ++ a) ++ b) k).bind fun e11 =>
    (chk (keep.length + ([e11] : List Message).length ≤ 4294967296)).bind fun u2 =>
    some (keep ++ ([e11] : List Message))
   else
    some keep).bind fun (keep1 : List Message) =>
   some (.nx ((w64 (k + 1)), keep1))
  else
   some (.dn keep)
noncomputable def s_MergeNotices (a : List Message) (b : List Message) : Option ((List Message) × Bool) :=
 (s_l24Notice a).bind fun r =>
 (if (!r) = true then some true else (s_l24Notice b).bind fun r1 =>
 some (!r1)).bind fun (v : Bool) =>
 if v = true then
  some (([] : List Message), false)
 else
  (chk (([] : List Message).length + a.length ≤ 4294967296)).bind fun u =>
  (chk ((([] : List Message) ++ a).length + b.length ≤ 4294967296)).bind fun u1 =>
  (iter (s_MergeNotices_L2 a b) ((0 : Int), ([] : List Message))).bind fun (keep2 : List Message) =>
  (s_l24Notice keep2).bind fun r2 =>
  if (!r2) = true then
   some (([] : List Message), false)
  else
   some (keep2, true)
noncomputable def v_rMessages_L1 (a : List Message) (b : List Message) : Int → Option (Lp (Int) (Fl (Bool) (Unit)))
 | v =>
  if (decide (v < (a.length : Int))) = true then
   (idx a v).bind fun e2 =>
   (idx b v).bind fun e3 =>
   if (!((e2.Kind == e3.Kind) && ((e2.Line.toList == e3.Line.toList) && ((e2.Stop.toList == e3.Stop.toList) && ((e2.From == e3.From) && ((e2.To == e3.To) && ((e2.Minutes == e3.Minutes) && true))))))) = true then
    some (.dn (.ret false))
   else
    some (.nx (w64 (v + 1)))
  else
   some (.dn (.go ()))
noncomputable def v_rMessages (a : List Message) (b : List Message) : Option (Bool) :=
 if ((a.length : Int) != (b.length : Int)) = true then
  some false
 else
  flb (iter (v_rMessages_L1 a b) (0 : Int)) fun (_ : Unit) =>
  some true
noncomputable def s_DrawActiveMessages (code : List UInt8) : Option ((List Message) × Int) :=
 (s_l1Cur_notice (⟨code, 0, (⟨0⟩ : IK .u64)⟩ : l1Cur)).bind fun r =>
 (s_l1Cur_among r.2 ([0, 425, 430, 600, 700, 1799, 1800] : List Int)).bind fun r1 =>
 some (r.1, r1.1)
noncomputable def i_ActiveMessages_L1 (list : List Message) (now : Int) : Int × (List Int) → Option (Lp (Int × (List Int)) ((List Int)))
 | (v1, m) =>
  if (decide (v1 < (list.length : Int))) = true then
   ((idx list v1).bind fun e =>
   ((if (e.Kind == 2) = true then
    some (e.Kind == 2)
   else
    some (e.Kind == 5)).bind fun (v3 : Bool) =>
   if v3 = true then
    some (decide (now ≤ e.From))
   else
    (if (e.Kind == 3) = true then
     some (e.Kind == 3)
    else
     some (e.Kind == 4)).bind fun (v4 : Bool) =>
    if v4 = true then
     (i_within now e.From e.To).bind fun r2 =>
     some r2
    else
     some true).bind fun (v2 : Bool) =>
   if v2 = true then
    (chk (m.length + ([v1] : List Int).length ≤ 4294967296)).bind fun u =>
    some (m ++ ([v1] : List Int))
   else
    some m).bind fun (m1 : List Int) =>
   some (.nx ((w64 (v1 + 1)), m1))
  else
   some (.dn m)
noncomputable def i_ActiveMessages (list : List Message) (now : Int) : Option ((List Int) × Bool) :=
 (i_isNotice list).bind fun r =>
 (if (!r) = true then some true else (i_IsValidTime now).bind fun r1 =>
 some (!r1)).bind fun (v : Bool) =>
 if v = true then
  some (([] : List Int), false)
 else
  (iter (i_ActiveMessages_L1 list now) ((0 : Int), ([] : List Int))).bind fun (m2 : List Int) =>
  some (m2, true)
noncomputable def s_ActiveMessages_L1 (list : List Message) (now : Int) : Int × (List Int) → Option (Lp (Int × (List Int)) ((List Int)))
 | (active, m) =>
  if (decide (active < (list.length : Int))) = true then
   ((idx list active).bind fun e =>
   ((if (e.Kind == 2) = true then
    some (e.Kind == 2)
   else
    some (e.Kind == 5)).bind fun (v2 : Bool) =>
   if v2 = true then
    some (decide (now ≤ e.From))
   else
    (if (e.Kind == 3) = true then
     some (e.Kind == 3)
    else
     some (e.Kind == 4)).bind fun (v3 : Bool) =>
    if v3 = true then
     (s_l1In now e.From e.To).bind fun r2 =>
     some r2
    else
     some true).bind fun (v1 : Bool) =>
   if v1 = true then
    (chk (m.length + ([active] : List Int).length ≤ 4294967296)).bind fun u =>
    some (m ++ ([active] : List Int))
   else
    some m).bind fun (m1 : List Int) =>
   some (.nx ((w64 (active + 1)), m1))
  else
   some (.dn m)
noncomputable def s_ActiveMessages (list : List Message) (now : Int) : Option ((List Int) × Bool) :=
 (s_l24Notice list).bind fun r =>
 (if (!r) = true then some true else (s_l4Time now).bind fun r1 =>
 some (!r1)).bind fun (v : Bool) =>
 if v = true then
  some (([] : List Int), false)
 else
  (iter (s_ActiveMessages_L1 list now) ((0 : Int), ([] : List Int))).bind fun (m2 : List Int) =>
  some (m2, true)
noncomputable def v_rInts_L1 (a : List Int) (b : List Int) : Int → Option (Lp (Int) (Fl (Bool) (Unit)))
 | v =>
  if (decide (v < (a.length : Int))) = true then
   (idx a v).bind fun e2 =>
   (idx b v).bind fun e3 =>
   if (e2 != e3) = true then
    some (.dn (.ret false))
   else
    some (.nx (w64 (v + 1)))
  else
   some (.dn (.go ()))
noncomputable def v_rInts (a : List Int) (b : List Int) : Option (Bool) :=
 if ((a.length : Int) != (b.length : Int)) = true then
  some false
 else
  flb (iter (v_rInts_L1 a b) (0 : Int)) fun (_ : Unit) =>
  some true
noncomputable def s_DrawMessagesFor (code : List UInt8) : Option ((List Message) × ByteArray × ByteArray) :=
 (s_l1Cur_notice (⟨code, 0, (⟨0⟩ : IK .u64)⟩ : l1Cur)).bind fun r =>
 (s_l1Cur_of r.2 ([(str [97]), (str [98, 49]), (str [122, 122]), (str [])] : List ByteArray)).bind fun r1 =>
 (s_l1Cur_of r1.2 ([(str [104, 97, 114, 98, 111, 114]), (str [120]), (str [121])] : List ByteArray)).bind fun r2 =>
 some (r.1, r1.1, r2.1)
noncomputable def i_MessagesFor_L1 (list : List Message) (line : ByteArray) (stop : ByteArray) : Int × (List Int) → Option (Lp (Int × (List Int)) ((List Int)))
 | (v1, v2) =>
  if (decide (v1 < (list.length : Int))) = true then
   ((idx list v1).bind fun e =>
   (if (e.Line.toList == line.toList) = true then some true else some (e.Stop.toList == stop.toList)).bind fun (v4 : Bool) =>
   if v4 = true then
    (chk (v2.length + ([v1] : List Int).length ≤ 4294967296)).bind fun u =>
    some (v2 ++ ([v1] : List Int))
   else
    some v2).bind fun (v3 : List Int) =>
   some (.nx ((w64 (v1 + 1)), v3))
  else
   some (.dn v2)
noncomputable def i_MessagesFor (list : List Message) (line : ByteArray) (stop : ByteArray) : Option ((List Int) × Bool) :=
 (i_isNotice list).bind fun r =>
 (if (!r) = true then some true else (i_isName line).bind fun r1 =>
 if (!r1) = true then some true else (i_isName stop).bind fun r2 =>
 some (!r2)).bind fun (v : Bool) =>
 if v = true then
  some (([] : List Int), false)
 else
  (iter (i_MessagesFor_L1 list line stop) ((0 : Int), ([] : List Int))).bind fun (v5 : List Int) =>
  some (v5, true)
noncomputable def s_MessagesFor_L1 (list : List Message) (line : ByteArray) (stop : ByteArray) : Int × (List Int) → Option (Lp (Int × (List Int)) ((List Int)))
 | (v1, v2) =>
  if (decide (v1 < (list.length : Int))) = true then
   ((idx list v1).bind fun e =>
   (if (e.Line.toList == line.toList) = true then some true else (idx list v1).bind fun e1 =>
   some (e1.Stop.toList == stop.toList)).bind fun (v4 : Bool) =>
   if v4 = true then
    (chk (v2.length + ([v1] : List Int).length ≤ 4294967296)).bind fun u =>
    some (v2 ++ ([v1] : List Int))
   else
    some v2).bind fun (v3 : List Int) =>
   some (.nx ((w64 (v1 + 1)), v3))
  else
   some (.dn v2)
noncomputable def s_MessagesFor (list : List Message) (line : ByteArray) (stop : ByteArray) : Option ((List Int) × Bool) :=
 (s_l24Notice list).bind fun r =>
 (if (!r) = true then some true else (s_l2Name line).bind fun r1 =>
 if (!r1) = true then some true else (s_l2Name stop).bind fun r2 =>
 some (!r2)).bind fun (v : Bool) =>
 if v = true then
  some (([] : List Int), false)
 else
  (iter (s_MessagesFor_L1 list line stop) ((0 : Int), ([] : List Int))).bind fun (v5 : List Int) =>
  some (v5, true)
noncomputable def s_l1Num_F (rec_ : Int → Option (ByteArray)) (n : Int) : Option (ByteArray) :=
 if (decide (n < 0)) = true then
  (rec_ (w64 (0 - n))).bind fun r =>
  (chk ((str [45]).size + r.size ≤ 4294967296)).bind fun u =>
  some ((str [45]) ++ r)
 else
  if (decide (n < 10)) = true then
   (chk ((0 : Int) ≤ n ∧ (n : Int) ≤ (w64 (n + 1)) ∧ (w64 (n + 1)) ≤ ((str [48, 49, 50, 51, 52, 53, 54, 55, 56, 57]).size : Int))).bind fun u1 =>
   some ((str [48, 49, 50, 51, 52, 53, 54, 55, 56, 57]).extract n.toNat (w64 (n + 1)).toNat)
  else
   (chk ((10 : Int) ≠ 0)).bind fun u7 =>
   (rec_ (w64 (n.tdiv 10))).bind fun r2 =>
   (chk ((10 : Int) ≠ 0)).bind fun u8 =>
   (chk ((10 : Int) ≠ 0)).bind fun u9 =>
   (chk ((0 : Int) ≤ (n.tmod 10) ∧ ((n.tmod 10) : Int) ≤ (w64 ((n.tmod 10) + 1)) ∧ (w64 ((n.tmod 10) + 1)) ≤ ((str [48, 49, 50, 51, 52, 53, 54, 55, 56, 57]).size : Int))).bind fun u10 =>
   (chk (r2.size + ((str [48, 49, 50, 51, 52, 53, 54, 55, 56, 57]).extract (n.tmod 10).toNat (w64 ((n.tmod 10) + 1)).toNat).size ≤ 4294967296)).bind fun u11 =>
   some (r2 ++ ((str [48, 49, 50, 51, 52, 53, 54, 55, 56, 57]).extract (n.tmod 10).toNat (w64 ((n.tmod 10) + 1)).toNat))
noncomputable def s_l1Num_k : Nat → Int → Option (ByteArray)
 | 0 => fun _ => none
 | n + 1 => s_l1Num_F (s_l1Num_k n)
noncomputable def s_l1Num (n : Int) : Option (ByteArray) := s_l1Num_k 4294967296 n
noncomputable def s_l2Place_L1 (x : Line) (stop : Int) : Int → Option (Lp (Int) (Fl (Int) (Unit)))
 | v =>
  if (decide (v < (x.Stops.length : Int))) = true then
   (idx x.Stops v).bind fun e =>
   if (e == stop) = true then
    some (.dn (.ret v))
   else
    some (.nx (w64 (v + 1)))
  else
   some (.dn (.go ()))
noncomputable def s_l2Place (x : Line) (stop : Int) : Option (Int) :=
 flb (iter (s_l2Place_L1 x stop) (0 : Int)) fun (_ : Unit) =>
 some (-1)
noncomputable def s_l1Cur_line_L1 (name : ByteArray) (stops : Int) : Int × Int × (List UInt8) × Int × Int × (List Int) → Option (Lp (Int × Int × (List UInt8) × Int × Int × (List Int)) ((List UInt8) × Int × Int × (List Int)))
 | (v, v1, v2, v3, v4, v5) =>
  if (decide (0 < v1)) = true then
   ((s_l2Place (⟨name, v5, ([] : List Int)⟩ : Line) v).bind fun r2 =>
   if (decide (r2 < 0)) = true then
    (chk (v5.length + ([v] : List Int).length ≤ 4294967296)).bind fun u =>
    some (v5 ++ ([v] : List Int))
   else
    some v5).bind fun (v6 : List Int) =>
   (s_l1Cur_pick (⟨v2, v3, (⟨v4⟩ : IK .u64)⟩ : l1Cur) 2).bind fun r3 =>
   (chk ((stops : Int) ≠ 0)).bind fun u1 =>
   some (.nx (((w64 ((w64 (v + 1)) + r3.1)).tmod stops), (w64 (v1 - 1)), r3.2.code_, r3.2.at_, r3.2.seed_.v, v6))
  else
   some (.dn (v2, v3, v4, v5))
noncomputable def s_l1Cur_line_L2 (v11 : List Int) : Int × (List UInt8) × Int × Int × (List Int) → Option (Lp (Int × (List UInt8) × Int × Int × (List Int)) ((List UInt8) × Int × Int × (List Int)))
 | (v12, v13, v14, v15, v16) =>
  if (decide (v12 < (v11.length : Int))) = true then
   (s_l1Cur_pick (⟨v13, v14, (⟨v15⟩ : IK .u64)⟩ : l1Cur) 12).bind fun r5 =>
   (chk (v16.length + ([(w64 (3 + r5.1))] : List Int).length ≤ 4294967296)).bind fun u7 =>
   some (.nx ((w64 (v12 + 1)), r5.2.code_, r5.2.at_, r5.2.seed_.v, (v16 ++ ([(w64 (3 + r5.1))] : List Int))))
  else
   some (.dn (v13, v14, v15, v16))
noncomputable def s_l1Cur_line (c : l1Cur) (name : ByteArray) (stops : Int) : Option (Line × l1Cur) :=
 (s_l1Cur_pick c stops).bind fun r =>
 (s_l1Cur_pick r.2 3).bind fun r1 =>
 (iter (s_l1Cur_line_L1 name stops) (r.1, (w64 (2 + r1.1)), r1.2.code_, r1.2.at_, r1.2.seed_.v, ([] : List Int))).bind fun ((v7, v8, v9, v10) : (List UInt8) × Int × Int × (List Int)) =>
 (if (decide ((v10.length : Int) < 2)) = true then
  (idx v10 0).bind fun e1 =>
  (chk ((stops : Int) ≠ 0)).bind fun u4 =>
  (chk (v10.length + ([((w64 (e1 + 1)).tmod stops)] : List Int).length ≤ 4294967296)).bind fun u5 =>
  some (v10 ++ ([((w64 (e1 + 1)).tmod stops)] : List Int))
 else
  some v10).bind fun (v11 : List Int) =>
 (iter (s_l1Cur_line_L2 v11) ((1 : Int), v7, v8, v9, ([] : List Int))).bind fun ((v17, v18, v19, v20) : (List UInt8) × Int × Int × (List Int)) =>
 some ((⟨name, v11, v20⟩ : Line), (⟨v17, v18, (⟨v19⟩ : IK .u64)⟩ : l1Cur))
noncomputable def s_l1Cur_line_f_L1 (name : ByteArray) (stops : Int) : Int × Int × (List UInt8) × Int × Int × (List Int) → Option (Lp (Int × Int × (List UInt8) × Int × Int × (List Int)) ((List UInt8) × Int × Int × (List Int)))
 | (v, v1, v2, v3, v4, v5) =>
  if (decide (0 < v1)) = true then
   ((s_l2Place (⟨name, v5, ([] : List Int)⟩ : Line) v).bind fun r2 =>
   if (decide (r2 < 0)) = true then
    (chk (v5.length + ([v] : List Int).length ≤ 4294967296)).bind fun u =>
    some (v5 ++ ([v] : List Int))
   else
    some v5).bind fun (v6 : List Int) =>
   (s_l1Cur_pick (⟨v2, v3, (⟨v4⟩ : IK .u64)⟩ : l1Cur) 2).bind fun r3 =>
   (chk ((stops : Int) ≠ 0)).bind fun u1 =>
   some (.nx (((w64 ((w64 (v + 1)) + r3.1)).tmod stops), (w64 (v1 - 1)), r3.2.code_, r3.2.at_, r3.2.seed_.v, v6))
  else
   some (.dn (v2, v3, v4, v5))
noncomputable def s_l1Cur_line_f_L2 (v11 : List Int) : Int × (List UInt8) × Int × Int × (List Int) → Option (Lp (Int × (List UInt8) × Int × Int × (List Int)) ((List UInt8) × Int × Int × (List Int)))
 | (v12, v13, v14, v15, v16) =>
  if (decide (v12 < (v11.length : Int))) = true then
   (s_l1Cur_pick (⟨v13, v14, (⟨v15⟩ : IK .u64)⟩ : l1Cur) 12).bind fun r5 =>
   (chk (v16.length + ([(w64 (3 + r5.1))] : List Int).length ≤ 4294967296)).bind fun u7 =>
   some (.nx ((w64 (v12 + 1)), r5.2.code_, r5.2.at_, r5.2.seed_.v, (v16 ++ ([(w64 (3 + r5.1))] : List Int))))
  else
   some (.dn (v13, v14, v15, v16))
noncomputable def s_l1Cur_line_f (c : l1Cur) (name : ByteArray) (stops : Int) : Option (Line × l1Cur) :=
 (s_l1Cur_pick c stops).bind fun r =>
 (s_l1Cur_pick r.2 3).bind fun r1 =>
 (iter (s_l1Cur_line_f_L1 name stops) (r.1, (w64 (2 + r1.1)), r1.2.code_, r1.2.at_, r1.2.seed_.v, ([] : List Int))).bind fun ((v7, v8, v9, v10) : (List UInt8) × Int × Int × (List Int)) =>
 (if (decide ((v10.length : Int) < 2)) = true then
  (idx v10 0).bind fun e1 =>
  (chk ((stops : Int) ≠ 0)).bind fun u4 =>
  (chk (v10.length + ([((w64 (e1 + 1)).tmod stops)] : List Int).length ≤ 4294967296)).bind fun u5 =>
  some (v10 ++ ([((w64 (e1 + 1)).tmod stops)] : List Int))
 else
  some v10).bind fun (v11 : List Int) =>
 (iter (s_l1Cur_line_f_L2 v11) ((1 : Int), v7, v8, v9, ([] : List Int))).bind fun ((v17, v18, v19, v20) : (List UInt8) × Int × Int × (List Int)) =>
 some ((⟨name, v11, v20⟩ : Line), (⟨v17, v18, (⟨v19⟩ : IK .u64)⟩ : l1Cur))
noncomputable def s_l2Back_L1 (list : List Int) : Int × (List Int) → Option (Lp (Int × (List Int)) ((List Int)))
 | (v, i) =>
  if (decide (0 ≤ v)) = true then
   (idx list v).bind fun e =>
   (chk (i.length + ([e] : List Int).length ≤ 4294967296)).bind fun u =>
   some (.nx ((w64 (v - 1)), (i ++ ([e] : List Int))))
  else
   some (.dn i)
noncomputable def s_l2Back (list : List Int) : Option ((List Int)) :=
 (iter (s_l2Back_L1 list) ((w64 ((list.length : Int) - 1)), ([] : List Int))).bind fun (i1 : List Int) =>
 some i1
noncomputable def s_l2Back_f_L1 (list : List Int) : Int × (List Int) → Option (Lp (Int × (List Int)) ((List Int)))
 | (v, i) =>
  if (decide (0 ≤ v)) = true then
   (idx list v).bind fun e =>
   (chk (i.length + ([e] : List Int).length ≤ 4294967296)).bind fun u =>
   some (.nx ((w64 (v - 1)), (i ++ ([e] : List Int))))
  else
   some (.dn i)
noncomputable def s_l2Back_f (list : List Int) : Option ((List Int)) :=
 (iter (s_l2Back_f_L1 list) ((w64 ((list.length : Int) - 1)), ([] : List Int))).bind fun (i1 : List Int) =>
 some i1
noncomputable def s_l1Own (l : List Int) : Option ((List Int)) :=
 (chk (([] : List Int).length + l.length ≤ 4294967296)).bind fun u =>
 some (([] : List Int) ++ l)
noncomputable def s_l1Own_f (l : List Int) : Option ((List Int)) :=
 (chk (([] : List Int).length + l.length ≤ 4294967296)).bind fun u =>
 some (([] : List Int) ++ l)
noncomputable def s_l2Own_L1 (n : Network) : Int × (List Line) → Option (Lp (Int × (List Line)) ((List Line)))
 | (v, v1) =>
  if (decide (v < (n.Lines.length : Int))) = true then
   (idx n.Lines v).bind fun e3 =>
   (idx n.Lines v).bind fun e4 =>
   (s_l1Own_f e4.Stops).bind fun r2 =>
   (idx n.Lines v).bind fun e5 =>
   (s_l1Own_f e5.Runs).bind fun r3 =>
   (chk (v1.length + ([(⟨e3.Name, r2, r3⟩ : Line)] : List Line).length ≤ 4294967296)).bind fun u2 =>
   some (.nx ((w64 (v + 1)), (v1 ++ ([(⟨e3.Name, r2, r3⟩ : Line)] : List Line))))
  else
   some (.dn v1)
noncomputable def s_l2Own (n : Network) : Option (Network) :=
 (chk (([] : List ByteArray).length + n.Stops.length ≤ 4294967296)).bind fun u =>
 (iter (s_l2Own_L1 n) ((0 : Int), ([] : List Line))).bind fun (v2 : List Line) =>
 some (⟨(([] : List ByteArray) ++ n.Stops), v2⟩ : Network)
noncomputable def s_l1Cur_network_L1 (r : Int × l1Cur) : Int × (List UInt8) × Int × Int × (List Line) → Option (Lp (Int × (List UInt8) × Int × Int × (List Line)) ((List UInt8) × Int × Int × (List Line)))
 | (x, v, v1, v2, v3) =>
  if (decide (0 < x)) = true then
   (s_l1Num x).bind fun r4 =>
   (chk ((str [108]).size + r4.size ≤ 4294967296)).bind fun u3 =>
   (s_l1Cur_line_f (⟨v, v1, (⟨v2⟩ : IK .u64)⟩ : l1Cur) ((str [108]) ++ r4) (w64 (2 + r.1))).bind fun r5 =>
   (chk (v3.length + ([r5.1] : List Line).length ≤ 4294967296)).bind fun u4 =>
   some (.nx ((w64 (x - 1)), r5.2.code_, r5.2.at_, r5.2.seed_.v, (v3 ++ ([r5.1] : List Line))))
  else
   some (.dn (v, v1, v2, v3))
noncomputable def s_l1Cur_network (c : l1Cur) : Option (Network × l1Cur) :=
 (s_l1Cur_pick c 5).bind fun r =>
 (chk ((0 : Int) ≤ 0 ∧ (0 : Int) ≤ (w64 (2 + r.1)) ∧ (w64 (2 + r.1)) ≤ (([(str [112, 111, 114, 116]), (str [109, 105, 108, 108]), (str [112, 97, 114, 107]), (str [104, 97, 108, 108]), (str [100, 111, 99, 107]), (str [102, 97, 105, 114])] : List ByteArray).length : Int))).bind fun u =>
 (s_l1Cur_pick r.2 3).bind fun r1 =>
 (iter (s_l1Cur_network_L1 r) ((w64 (1 + r1.1)), r1.2.code_, r1.2.at_, r1.2.seed_.v, ([] : List Line))).bind fun ((v4, v5, v6, v7) : (List UInt8) × Int × Int × (List Line)) =>
 ((s_l1Cur_one (⟨v4, v5, (⟨v6⟩ : IK .u64)⟩ : l1Cur) 2).bind fun r6 =>
 if r6.1 = true then
  (idx v7 0).bind fun e =>
  (s_l2Back_f e.Stops).bind fun r9 =>
  (s_l2Back_f e.Runs).bind fun r10 =>
  (chk (v7.length + ([(⟨(str [114, 49]), r9, r10⟩ : Line)] : List Line).length ≤ 4294967296)).bind fun u6 =>
  some (r6.2.code_, r6.2.at_, r6.2.seed_.v, (v7 ++ ([(⟨(str [114, 49]), r9, r10⟩ : Line)] : List Line)))
 else
  some (r6.2.code_, r6.2.at_, r6.2.seed_.v, v7)).bind fun ((v8, v9, v10, v11) : (List UInt8) × Int × Int × (List Line)) =>
 (s_l2Own (⟨((([(str [112, 111, 114, 116]), (str [109, 105, 108, 108]), (str [112, 97, 114, 107]), (str [104, 97, 108, 108]), (str [100, 111, 99, 107]), (str [102, 97, 105, 114])] : List ByteArray).take (w64 (2 + r.1)).toNat).drop (0 : Int).toNat), v11⟩ : Network)).bind fun r11 =>
 some ((⟨r11.Stops, r11.Lines⟩ : Network), (⟨v8, v9, (⟨v10⟩ : IK .u64)⟩ : l1Cur))
noncomputable def s_l1Cur_timetable_L1 (r : Network × l1Cur) : Int × Int × (List UInt8) × Int × Int × (List Trip) → Option (Lp (Int × Int × (List UInt8) × Int × Int × (List Trip)) ((List UInt8) × Int × Int × (List Trip)))
 | (n, v, v1, v2, v3, v4) =>
  if (decide (0 < v)) = true then
   (s_l1Cur_pick (⟨v1, v2, (⟨v3⟩ : IK .u64)⟩ : l1Cur) 3).bind fun r2 =>
   (s_l1Cur_pick r2.2 (r.1.Lines.length : Int)).bind fun r5 =>
   (s_l1Cur_pick r5.2 24).bind fun r6 =>
   (chk (v4.length + ([(⟨(w64 ((w64 (n + 1)) + r2.1)), r5.1, (w64 (360 + (w64 (5 * r6.1))))⟩ : Trip)] : List Trip).length ≤ 4294967296)).bind fun u1 =>
   some (.nx ((w64 ((w64 (n + 1)) + r2.1)), (w64 (v - 1)), r6.2.code_, r6.2.at_, r6.2.seed_.v, (v4 ++ ([(⟨(w64 ((w64 (n + 1)) + r2.1)), r5.1, (w64 (360 + (w64 (5 * r6.1))))⟩ : Trip)] : List Trip))))
  else
   some (.dn (v1, v2, v3, v4))
noncomputable def s_l1Cur_timetable (c : l1Cur) : Option (Timetable × l1Cur) :=
 (s_l1Cur_network c).bind fun r =>
 (s_l1Cur_pick r.2 8).bind fun r1 =>
 (iter (s_l1Cur_timetable_L1 r) ((0 : Int), r1.1, r1.2.code_, r1.2.at_, r1.2.seed_.v, ([] : List Trip))).bind fun ((v5, v6, v7, v8) : (List UInt8) × Int × Int × (List Trip)) =>
 some ((⟨(⟨r.1.Stops, r.1.Lines⟩ : Network), v8⟩ : Timetable), (⟨v5, v6, (⟨v7⟩ : IK .u64)⟩ : l1Cur))
noncomputable def s_l1Cur_of_w (c : l1Cur) (list : List ByteArray) : Option (ByteArray × l1Cur) :=
 (s_l1Cur_pick c (list.length : Int)).bind fun r =>
 (idx list r.1).bind fun e =>
 some (e, r.2)
noncomputable def s_l2Own_t_L1 (n : Network) : Int × (List Line) → Option (Lp (Int × (List Line)) ((List Line)))
 | (v, v1) =>
  if (decide (v < (n.Lines.length : Int))) = true then
   (idx n.Lines v).bind fun e3 =>
   (idx n.Lines v).bind fun e4 =>
   (s_l1Own e4.Stops).bind fun r2 =>
   (idx n.Lines v).bind fun e5 =>
   (s_l1Own e5.Runs).bind fun r3 =>
   (chk (v1.length + ([(⟨e3.Name, r2, r3⟩ : Line)] : List Line).length ≤ 4294967296)).bind fun u2 =>
   some (.nx ((w64 (v + 1)), (v1 ++ ([(⟨e3.Name, r2, r3⟩ : Line)] : List Line))))
  else
   some (.dn v1)
noncomputable def s_l2Own_t (n : Network) : Option (Network) :=
 (chk (([] : List ByteArray).length + n.Stops.length ≤ 4294967296)).bind fun u =>
 (iter (s_l2Own_t_L1 n) ((0 : Int), ([] : List Line))).bind fun (v2 : List Line) =>
 some (⟨(([] : List ByteArray) ++ n.Stops), v2⟩ : Network)
noncomputable def s_l1Cur_network_t_L1 (r : Int × l1Cur) : Int × (List UInt8) × Int × Int × (List Line) → Option (Lp (Int × (List UInt8) × Int × Int × (List Line)) ((List UInt8) × Int × Int × (List Line)))
 | (x, v, v1, v2, v3) =>
  if (decide (0 < x)) = true then
   (s_l1Num x).bind fun r4 =>
   (chk ((str [108]).size + r4.size ≤ 4294967296)).bind fun u3 =>
   (s_l1Cur_line_f (⟨v, v1, (⟨v2⟩ : IK .u64)⟩ : l1Cur) ((str [108]) ++ r4) (w64 (2 + r.1))).bind fun r5 =>
   (chk (v3.length + ([r5.1] : List Line).length ≤ 4294967296)).bind fun u4 =>
   some (.nx ((w64 (x - 1)), r5.2.code_, r5.2.at_, r5.2.seed_.v, (v3 ++ ([r5.1] : List Line))))
  else
   some (.dn (v, v1, v2, v3))
noncomputable def s_l1Cur_network_t (c : l1Cur) : Option (Network × l1Cur) :=
 (s_l1Cur_pick c 5).bind fun r =>
 (chk ((0 : Int) ≤ 0 ∧ (0 : Int) ≤ (w64 (2 + r.1)) ∧ (w64 (2 + r.1)) ≤ (([(str [112, 111, 114, 116]), (str [109, 105, 108, 108]), (str [112, 97, 114, 107]), (str [104, 97, 108, 108]), (str [100, 111, 99, 107]), (str [102, 97, 105, 114])] : List ByteArray).length : Int))).bind fun u =>
 (s_l1Cur_pick r.2 3).bind fun r1 =>
 (iter (s_l1Cur_network_t_L1 r) ((w64 (1 + r1.1)), r1.2.code_, r1.2.at_, r1.2.seed_.v, ([] : List Line))).bind fun ((v4, v5, v6, v7) : (List UInt8) × Int × Int × (List Line)) =>
 ((s_l1Cur_one (⟨v4, v5, (⟨v6⟩ : IK .u64)⟩ : l1Cur) 2).bind fun r6 =>
 if r6.1 = true then
  (idx v7 0).bind fun e =>
  (s_l2Back_f e.Stops).bind fun r9 =>
  (s_l2Back_f e.Runs).bind fun r10 =>
  (chk (v7.length + ([(⟨(str [114, 49]), r9, r10⟩ : Line)] : List Line).length ≤ 4294967296)).bind fun u6 =>
  some (r6.2.code_, r6.2.at_, r6.2.seed_.v, (v7 ++ ([(⟨(str [114, 49]), r9, r10⟩ : Line)] : List Line)))
 else
  some (r6.2.code_, r6.2.at_, r6.2.seed_.v, v7)).bind fun ((v8, v9, v10, v11) : (List UInt8) × Int × Int × (List Line)) =>
 (s_l2Own_t (⟨((([(str [112, 111, 114, 116]), (str [109, 105, 108, 108]), (str [112, 97, 114, 107]), (str [104, 97, 108, 108]), (str [100, 111, 99, 107]), (str [102, 97, 105, 114])] : List ByteArray).take (w64 (2 + r.1)).toNat).drop (0 : Int).toNat), v11⟩ : Network)).bind fun r11 =>
 some ((⟨r11.Stops, r11.Lines⟩ : Network), (⟨v8, v9, (⟨v10⟩ : IK .u64)⟩ : l1Cur))
noncomputable def s_l1Cur_among_w (c : l1Cur) (list : List Int) : Option (Int × l1Cur) :=
 (s_l1Cur_pick c (list.length : Int)).bind fun r =>
 (idx list r.1).bind fun e =>
 some (e, r.2)
noncomputable def s_l1Cur_anyNetwork_L1 (r : Network × l1Cur) : Int × (List UInt8) × Int × Int × (List Line) → Option (Lp (Int × (List UInt8) × Int × Int × (List Line)) ((List UInt8) × Int × Int × (List Line)))
 | (v7, v8, v9, v10, v11) =>
  (s_l1Cur_pick (⟨v8, v9, (⟨v10⟩ : IK .u64)⟩ : l1Cur) 2).bind fun r16 =>
  (if (decide ((v11.length : Int) < (w64 (5 + r16.1)))) = true then some (decide (v7 < 7)) else some false).bind fun (v12 : Bool) =>
  if v12 = true then
   (s_l1Num v7).bind fun r19 =>
   (chk ((str [120]).size + r19.size ≤ 4294967296)).bind fun u3 =>
   (s_l1Cur_line r16.2 ((str [120]) ++ r19) (r.1.Stops.length : Int)).bind fun r20 =>
   (chk (v11.length + ([(⟨r20.1.Name, r20.1.Stops, r20.1.Runs⟩ : Line)] : List Line).length ≤ 4294967296)).bind fun u4 =>
   some (.nx ((w64 (v7 + 1)), r20.2.code_, r20.2.at_, r20.2.seed_.v, (v11 ++ ([(⟨r20.1.Name, r20.1.Stops, r20.1.Runs⟩ : Line)] : List Line))))
  else
   some (.dn (r16.2.code_, r16.2.at_, r16.2.seed_.v, v11))
noncomputable def s_l1Cur_anyNetwork (c : l1Cur) : Option (Network × l1Cur) :=
 (s_l1Cur_network_t c).bind fun r =>
 (s_l1Cur_pick r.2 (r.1.Lines.length : Int)).bind fun r1 =>
 (idx r.1.Lines r1.1).bind fun e =>
 flb ((s_l1Cur_pick r1.2 24).bind fun r2 =>
 if (r2.1 == 0) = true then
  (s_l1Cur_of_w r2.2 ([(str [109, 105, 108, 108]), (str []), (str [65]), (str [97, 98, 99, 100, 101, 102, 103, 104]), (str [97, 98, 99, 100, 101, 102, 103, 104, 105])] : List ByteArray)).bind fun r4 =>
  (idx r.1.Stops 0).bind fun e2 =>
  some (.go (r4.2.code_, r4.2.at_, r4.2.seed_.v, e.Name, (r.1.Stops.set (0 : Int).toNat r4.1), r.1.Lines, e.Runs))
 else
  if (r2.1 == 1) = true then
   (s_l1Cur_of_w r2.2 ([(str [114, 49]), (str [108, 49]), (str []), (str [88])] : List ByteArray)).bind fun r5 =>
   some (.go (r5.2.code_, r5.2.at_, r5.2.seed_.v, r5.1, r.1.Stops, r.1.Lines, e.Runs))
  else
   if (r2.1 == 2) = true then
    (s_l1Cur_pick r2.2 (e.Stops.length : Int)).bind fun r8 =>
    (s_l1Cur_pick r8.2 10).bind fun r9 =>
    (idx e.Stops r8.1).bind fun e4 =>
    some (.go (r9.2.code_, r9.2.at_, r9.2.seed_.v, e.Name, r.1.Stops, (r.1.Lines.set r1.1.toNat (⟨e.Name, (e.Stops.set r8.1.toNat (w64 (r9.1 - 1))), e.Runs⟩ : Line)), ((⟨e.Name, (e.Stops.set r8.1.toNat (w64 (r9.1 - 1))), e.Runs⟩ : Line).Runs)))
   else
    if (r2.1 == 3) = true then
     (s_l1Cur_pick r2.2 (e.Runs.length : Int)).bind fun r12 =>
     (s_l1Cur_among_w r12.2 ([0, 60, 61, (-1)] : List Int)).bind fun r13 =>
     (idx e.Runs r12.1).bind fun e6 =>
     some (.go (r13.2.code_, r13.2.at_, r13.2.seed_.v, e.Name, r.1.Stops, (r.1.Lines.set r1.1.toNat (⟨e.Name, e.Stops, (e.Runs.set r12.1.toNat r13.1)⟩ : Line)), ((⟨e.Name, e.Stops, (e.Runs.set r12.1.toNat r13.1)⟩ : Line).Runs)))
    else
     if (r2.1 == 4) = true then
      (chk (e.Runs.length + ([3] : List Int).length ≤ 4294967296)).bind fun u =>
      some (.go (r2.2.code_, r2.2.at_, r2.2.seed_.v, e.Name, r.1.Stops, r.1.Lines, (e.Runs ++ ([3] : List Int))))
     else
      if (r2.1 == 5) = true then
       some (.ret ((⟨r.1.Stops, ([] : List Line)⟩ : Network), r2.2))
      else
       if (r2.1 == 6) = true then
        (iter (s_l1Cur_anyNetwork_L1 r) ((0 : Int), r2.2.code_, r2.2.at_, r2.2.seed_.v, r.1.Lines)).bind fun ((v13, v14, v15, v16) : (List UInt8) × Int × Int × (List Line)) =>
        some (.ret ((⟨r.1.Stops, v16⟩ : Network), (⟨v13, v14, (⟨v15⟩ : IK .u64)⟩ : l1Cur)))
       else
        some (.go (r2.2.code_, r2.2.at_, r2.2.seed_.v, e.Name, r.1.Stops, r.1.Lines, e.Runs))) fun ((v, v1, v2, v3, v4, v5, v6) : (List UInt8) × Int × Int × ByteArray × (List ByteArray) × (List Line) × (List Int)) =>
 (idx v5 r1.1).bind fun e9 =>
 some ((⟨v4, (v5.set r1.1.toNat (⟨v3, e9.Stops, v6⟩ : Line))⟩ : Network), (⟨v, v1, (⟨v2⟩ : IK .u64)⟩ : l1Cur))
noncomputable def s_l1Cur_anyTimetable_L1 : Int × (List UInt8) × Int × Int × (List Trip) → Option (Lp (Int × (List UInt8) × Int × Int × (List Trip)) ((List UInt8) × Int × Int × (List Trip)))
 | (v8, v9, v10, v11, v12) =>
  (s_l1Cur_pick (⟨v9, v10, (⟨v11⟩ : IK .u64)⟩ : l1Cur) 2).bind fun r8 =>
  (if (decide ((v12.length : Int) < (w64 (12 + r8.1)))) = true then some (decide (v8 < 14)) else some false).bind fun (v13 : Bool) =>
  if v13 = true then
   (chk (v12.length + ([(⟨(w64 (100 + v8)), 0, (w64 (400 + v8))⟩ : Trip)] : List Trip).length ≤ 4294967296)).bind fun u =>
   some (.nx ((w64 (v8 + 1)), r8.2.code_, r8.2.at_, r8.2.seed_.v, (v12 ++ ([(⟨(w64 (100 + v8)), 0, (w64 (400 + v8))⟩ : Trip)] : List Trip))))
  else
   some (.dn (r8.2.code_, r8.2.at_, r8.2.seed_.v, v12))
noncomputable def s_l1Cur_anyTimetable (c : l1Cur) : Option (Timetable × l1Cur) :=
 (s_l1Cur_timetable c).bind fun r =>
 if ((r.1.Trips.length : Int) == 0) = true then
  some ((⟨(⟨r.1.Network.Stops, r.1.Network.Lines⟩ : Network), r.1.Trips⟩ : Timetable), r.2)
 else
  (s_l1Cur_pick r.2 (r.1.Trips.length : Int)).bind fun r1 =>
  (idx r.1.Trips r1.1).bind fun e =>
  flb ((s_l1Cur_pick r1.2 24).bind fun r2 =>
  if (r2.1 == 0) = true then
   (s_l1Cur_among r2.2 ([0, 999, 1000, 2] : List Int)).bind fun r3 =>
   some (.go (r3.2.code_, r3.2.at_, r3.2.seed_.v, r.1.Network.Lines, r3.1, e.Line, e.Start, r.1.Network.Stops))
  else
   if (r2.1 == 1) = true then
    (s_l1Cur_pick r2.2 7).bind fun r4 =>
    some (.go (r4.2.code_, r4.2.at_, r4.2.seed_.v, r.1.Network.Lines, e.Id, (w64 (r4.1 - 1)), e.Start, r.1.Network.Stops))
   else
    if (r2.1 == 2) = true then
     (s_l1Cur_among r2.2 ([(-1), 0, 1799, 1798, 1800] : List Int)).bind fun r5 =>
     some (.go (r5.2.code_, r5.2.at_, r5.2.seed_.v, r.1.Network.Lines, e.Id, e.Line, r5.1, r.1.Network.Stops))
    else
     if (r2.1 == 3) = true then
      (s_l1Cur_anyNetwork r2.2).bind fun r6 =>
      some (.go (r6.2.code_, r6.2.at_, r6.2.seed_.v, r6.1.Lines, e.Id, e.Line, e.Start, r6.1.Stops))
     else
      if (r2.1 == 4) = true then
       (iter (s_l1Cur_anyTimetable_L1) ((0 : Int), r2.2.code_, r2.2.at_, r2.2.seed_.v, r.1.Trips)).bind fun ((v14, v15, v16, v17) : (List UInt8) × Int × Int × (List Trip)) =>
       some (.ret ((⟨(⟨r.1.Network.Stops, r.1.Network.Lines⟩ : Network), v17⟩ : Timetable), (⟨v14, v15, (⟨v16⟩ : IK .u64)⟩ : l1Cur)))
      else
       some (.go (r2.2.code_, r2.2.at_, r2.2.seed_.v, r.1.Network.Lines, e.Id, e.Line, e.Start, r.1.Network.Stops))) fun ((v, v1, v2, v3, v4, v5, v6, v7) : (List UInt8) × Int × Int × (List Line) × Int × Int × Int × (List ByteArray)) =>
  (idx r.1.Trips r1.1).bind fun e2 =>
  some ((⟨(⟨v7, v3⟩ : Network), (r.1.Trips.set r1.1.toNat (⟨v4, v5, v6⟩ : Trip))⟩ : Timetable), (⟨v, v1, (⟨v2⟩ : IK .u64)⟩ : l1Cur))
noncomputable def s_l1Cur_delays23_L1 (t : Timetable) : Int × (List UInt8) × Int × Int × (List TripDelay) → Option (Lp (Int × (List UInt8) × Int × Int × (List TripDelay)) ((List UInt8) × Int × Int × (List TripDelay)))
 | (v, v1, v2, v3, v4) =>
  if (decide (v < (t.Trips.length : Int))) = true then
   ((s_l1Cur_one (⟨v1, v2, (⟨v3⟩ : IK .u64)⟩ : l1Cur) 3).bind fun r =>
   if r.1 = true then
    (idx t.Trips v).bind fun e1 =>
    (s_l1Cur_among_w r.2 ([1, 2, 5, 10, 30, 0] : List Int)).bind fun r2 =>
    (chk (v4.length + ([(⟨e1.Id, r2.1⟩ : TripDelay)] : List TripDelay).length ≤ 4294967296)).bind fun u1 =>
    some (r2.2.code_, r2.2.at_, r2.2.seed_.v, (v4 ++ ([(⟨e1.Id, r2.1⟩ : TripDelay)] : List TripDelay)))
   else
    some (r.2.code_, r.2.at_, r.2.seed_.v, v4)).bind fun ((v5, v6, v7, v8) : (List UInt8) × Int × Int × (List TripDelay)) =>
   some (.nx ((w64 (v + 1)), v5, v6, v7, v8))
  else
   some (.dn (v1, v2, v3, v4))
noncomputable def s_l1Cur_delays23 (c : l1Cur) (t : Timetable) : Option ((List TripDelay) × l1Cur) :=
 (iter (s_l1Cur_delays23_L1 t) ((0 : Int), c.code_, c.at_, c.seed_.v, ([] : List TripDelay))).bind fun ((v9, v10, v11, v12) : (List UInt8) × Int × Int × (List TripDelay)) =>
 ((s_l1Cur_pick (⟨v9, v10, (⟨v11⟩ : IK .u64)⟩ : l1Cur) 40).bind fun r3 =>
 if (r3.1 == 0) = true then
  (s_l1Cur_among_w r3.2 ([0, 1, 999] : List Int)).bind fun r4 =>
  (chk (v12.length + ([(⟨r4.1, 5⟩ : TripDelay)] : List TripDelay).length ≤ 4294967296)).bind fun u2 =>
  some (r4.2.code_, r4.2.at_, r4.2.seed_.v, (v12 ++ ([(⟨r4.1, 5⟩ : TripDelay)] : List TripDelay)))
 else
  if (r3.1 == 1) = true then
   if (decide (0 < (v12.length : Int))) = true then
    (idx v12 (w64 ((v12.length : Int) - 1))).bind fun e4 =>
    (s_l1Cur_among_w r3.2 ([(-1), 600, 601] : List Int)).bind fun r6 =>
    (idx v12 (w64 ((v12.length : Int) - 1))).bind fun e5 =>
    some (r6.2.code_, r6.2.at_, r6.2.seed_.v, (v12.set (w64 ((v12.length : Int) - 1)).toNat (⟨e4.Id, r6.1⟩ : TripDelay)))
   else
    some (r3.2.code_, r3.2.at_, r3.2.seed_.v, v12)
  else
   some (r3.2.code_, r3.2.at_, r3.2.seed_.v, v12)).bind fun ((v13, v14, v15, v16) : (List UInt8) × Int × Int × (List TripDelay)) =>
 some (v16, (⟨v13, v14, (⟨v15⟩ : IK .u64)⟩ : l1Cur))
noncomputable def s_DrawDelayMessages (code : List UInt8) : Option (Timetable × (List TripDelay) × Int) :=
 (s_l1Cur_anyTimetable (⟨code, 0, (⟨0⟩ : IK .u64)⟩ : l1Cur)).bind fun r =>
 (s_l1Cur_delays23 r.2 r.1).bind fun r1 =>
 (s_l1Cur_pick r1.2 24).bind fun r4 =>
 (chk ((11 : Int) ≠ 0)).bind fun u2 =>
 (chk ((0 : Int) ≤ 0 ∧ (0 : Int) ≤ (w64 (4 + (w64 (r4.1.tdiv 11)))) ∧ (w64 (4 + (w64 (r4.1.tdiv 11)))) ≤ (([1, 2, 5, 600, 0, 601] : List Int).length : Int))).bind fun u3 =>
 (s_l1Cur_among_w r4.2 ((([1, 2, 5, 600, 0, 601] : List Int).take (w64 (4 + (w64 (r4.1.tdiv 11)))).toNat).drop (0 : Int).toNat)).bind fun r5 =>
 some (r.1, r1.1, r5.1)
noncomputable def slices_Index_string_L1 (s : List ByteArray) (v : ByteArray) : Int → Option (Lp (Int) (Fl (Int) (Unit)))
 | v1 =>
  if (decide (v1 < (s.length : Int))) = true then
   (idx s v1).bind fun e =>
   if (v.toList == e.toList) = true then
    some (.dn (.ret v1))
   else
    some (.nx (w64 (v1 + 1)))
  else
   some (.dn (.go ()))
noncomputable def slices_Index_string (s : List ByteArray) (v : ByteArray) : Option (Int) :=
 flb (iter (slices_Index_string_L1 s v) (0 : Int)) fun (_ : Unit) =>
 some (-1)
noncomputable def i_areNames_L1 (names : List ByteArray) : Int → Option (Lp (Int) (Fl (Bool) (Unit)))
 | v =>
  if (decide (v < (names.length : Int))) = true then
   (idx names v).bind fun e =>
   (i_isName e).bind fun r =>
   (if (!r) = true then some true else (slices_Index_string names e).bind fun r1 =>
   some (r1 != v)).bind fun (v1 : Bool) =>
   if v1 = true then
    some (.dn (.ret false))
   else
    some (.nx (w64 (v + 1)))
  else
   some (.dn (.go ()))
noncomputable def i_areNames (names : List ByteArray) : Option (Bool) :=
 flb (iter (i_areNames_L1 names) (0 : Int)) fun (_ : Unit) =>
 some true
noncomputable def i_lineNames_L1 (n : Network) : Int × (List ByteArray) → Option (Lp (Int × (List ByteArray)) ((List ByteArray)))
 | (v, i) =>
  if (decide (v < (n.Lines.length : Int))) = true then
   (idx n.Lines v).bind fun e =>
   (idx i v).bind fun e1 =>
   some (.nx ((w64 (v + 1)), (i.set v.toNat e.Name)))
  else
   some (.dn i)
noncomputable def i_lineNames (n : Network) : Option ((List ByteArray)) :=
 (chk ((0 : Int) ≤ (n.Lines.length : Int) ∧ ((n.Lines.length : Int) : Int) ≤ 4294967296)).bind fun u =>
 (iter (i_lineNames_L1 n) ((0 : Int), (List.replicate (n.Lines.length : Int).toNat (ByteArray.empty : ByteArray)))).bind fun (i1 : List ByteArray) =>
 some i1
noncomputable def i_isStop (n : Network) (stop : Int) : Option (Bool) :=
 (if (decide (0 ≤ stop)) = true then some (decide (stop < (n.Stops.length : Int))) else some false).bind fun (v : Bool) =>
 some v
noncomputable def slices_Index_int_L1 (s : List Int) (v : Int) : Int → Option (Lp (Int) (Fl (Int) (Unit)))
 | v1 =>
  if (decide (v1 < (s.length : Int))) = true then
   (idx s v1).bind fun e =>
   if (v == e) = true then
    some (.dn (.ret v1))
   else
    some (.nx (w64 (v1 + 1)))
  else
   some (.dn (.go ()))
noncomputable def slices_Index_int (s : List Int) (v : Int) : Option (Int) :=
 flb (iter (slices_Index_int_L1 s v) (0 : Int)) fun (_ : Unit) =>
 some (-1)
noncomputable def i_isValidLine_L1 (n : Network) (l : Line) : Int → Option (Lp (Int) (Fl (Bool) (Unit)))
 | v1 =>
  if (decide (v1 < (l.Stops.length : Int))) = true then
   (idx l.Stops v1).bind fun e =>
   (i_isStop n e).bind fun r1 =>
   (if (!r1) = true then some true else (slices_Index_int l.Stops e).bind fun r2 =>
   some (r2 != v1)).bind fun (v2 : Bool) =>
   if v2 = true then
    some (.dn (.ret false))
   else
    some (.nx (w64 (v1 + 1)))
  else
   some (.dn (.go ()))
noncomputable def i_isValidLine_L2 (l : Line) : Int → Option (Lp (Int) (Fl (Bool) (Unit)))
 | v3 =>
  if (decide (v3 < (l.Runs.length : Int))) = true then
   (idx l.Runs v3).bind fun e2 =>
   (i_within e2 1 60).bind fun r4 =>
   if (!r4) = true then
    some (.dn (.ret false))
   else
    some (.nx (w64 (v3 + 1)))
  else
   some (.dn (.go ()))
noncomputable def i_isValidLine (n : Network) (l : Line) : Option (Bool) :=
 (i_within (l.Stops.length : Int) 2 6).bind fun r =>
 (if (!r) = true then some true else some ((l.Runs.length : Int) != (w64 ((l.Stops.length : Int) - 1)))).bind fun (v : Bool) =>
 if v = true then
  some false
 else
  flb (iter (i_isValidLine_L1 n l) (0 : Int)) fun (_ : Unit) =>
  flb (iter (i_isValidLine_L2 l) (0 : Int)) fun (_ : Unit) =>
  some true
noncomputable def i_IsValidNetwork_L1 (n : Network) : Int → Option (Lp (Int) (Fl (Bool) (Unit)))
 | v1 =>
  if (decide (v1 < (n.Lines.length : Int))) = true then
   (idx n.Lines v1).bind fun e =>
   (i_isValidLine n e).bind fun r5 =>
   if (!r5) = true then
    some (.dn (.ret false))
   else
    some (.nx (w64 (v1 + 1)))
  else
   some (.dn (.go ()))
noncomputable def i_IsValidNetwork (n : Network) : Option (Bool) :=
 (i_within (n.Stops.length : Int) 2 8).bind fun r =>
 (if (!r) = true then some true else (i_within (n.Lines.length : Int) 1 5).bind fun r1 =>
 if (!r1) = true then some true else (i_areNames n.Stops).bind fun r2 =>
 if (!r2) = true then some true else (i_lineNames n).bind fun r3 =>
 (i_areNames r3).bind fun r4 =>
 some (!r4)).bind fun (v : Bool) =>
 if v = true then
  some false
 else
  flb (iter (i_IsValidNetwork_L1 n) (0 : Int)) fun (_ : Unit) =>
  some true
noncomputable def i_isLine (n : Network) (line : Int) : Option (Bool) :=
 (if (decide (0 ≤ line)) = true then some (decide (line < (n.Lines.length : Int))) else some false).bind fun (v : Bool) =>
 some v
noncomputable def i_total_L1 (list : List Int) : Int × Int → Option (Lp (Int × Int) (Int))
 | (v, v1) =>
  if (decide (v1 < (list.length : Int))) = true then
   (idx list v1).bind fun e =>
   some (.nx ((w64 (v + e)), (w64 (v1 + 1))))
  else
   some (.dn v)
noncomputable def i_total (list : List Int) : Option (Int) :=
 (iter (i_total_L1 list) ((0 : Int), (0 : Int))).bind fun (v2 : Int) =>
 some v2
noncomputable def i_endOf (t : Timetable) (x : Trip) : Option (Int) :=
 (idx t.Network.Lines x.Line).bind fun e1 =>
 (i_total e1.Runs).bind fun r1 =>
 some (w64 (x.Start + r1))
noncomputable def i_areTrips_L1 (t : Timetable) : Int × Int → Option (Lp (Int × Int) (Fl (Bool) (Unit)))
 | (v, v1) =>
  if (decide (v1 < (t.Trips.length : Int))) = true then
   (idx t.Trips v1).bind fun e =>
   (if (decide (e.Id ≤ v)) = true then some true else if (decide (999 < e.Id)) = true then some true else (i_isLine t.Network e.Line).bind fun r =>
   if (!r) = true then some true else (i_IsValidTime e.Start).bind fun r1 =>
   if (!r1) = true then some true else (i_endOf t e).bind fun r2 =>
   (i_IsValidTime r2).bind fun r3 =>
   some (!r3)).bind fun (v2 : Bool) =>
   if v2 = true then
    some (.dn (.ret false))
   else
    some (.nx (e.Id, (w64 (v1 + 1))))
  else
   some (.dn (.go ()))
noncomputable def i_areTrips (t : Timetable) : Option (Bool) :=
 if (decide (12 < (t.Trips.length : Int))) = true then
  some false
 else
  flb (iter (i_areTrips_L1 t) ((0 : Int), (0 : Int))) fun (_ : Unit) =>
  some true
noncomputable def i_IsValidTimetable (t : Timetable) : Option (Bool) :=
 (i_IsValidNetwork t.Network).bind fun r =>
 (if r = true then (i_areTrips t).bind fun r1 =>
 some r1 else some false).bind fun (v : Bool) =>
 some v
noncomputable def i_tripIndex_1 (x : Trip) (c1 : Int) : Option (Bool) :=
 some (x.Id == c1)
noncomputable def slices_IndexFunc_Trip_L1 (s : List Trip) (f : Trip → Option (Bool)) : Int → Option (Lp (Int) (Fl (Int) (Unit)))
 | v =>
  if (decide (v < (s.length : Int))) = true then
   (idx s v).bind fun e =>
   (f e).bind fun r =>
   if r = true then
    some (.dn (.ret v))
   else
    some (.nx (w64 (v + 1)))
  else
   some (.dn (.go ()))
noncomputable def slices_IndexFunc_Trip (s : List Trip) (f : Trip → Option (Bool)) : Option (Int) :=
 flb (iter (slices_IndexFunc_Trip_L1 s f) (0 : Int)) fun (_ : Unit) =>
 some (-1)
noncomputable def slices_IndexFunc_Trip__i_tripIndex_1 (s : List Trip) (c1 : Int) : Option (Int) :=
 slices_IndexFunc_Trip s (fun (z0 : Trip) => i_tripIndex_1 z0 c1)
noncomputable def i_tripIndex (t : Timetable) (id : Int) : Option (Int) :=
 (slices_IndexFunc_Trip__i_tripIndex_1 t.Trips id).bind fun r =>
 some r
noncomputable def i_areTripDelays_L1 (t : Timetable) (delays : List TripDelay) : Int × Int → Option (Lp (Int × Int) (Fl (Bool) (Unit)))
 | (d, v) =>
  if (decide (v < (delays.length : Int))) = true then
   (idx delays v).bind fun e =>
   (if (decide (e.Id ≤ d)) = true then some true else (i_tripIndex t e.Id).bind fun r =>
   if (decide (r < 0)) = true then some true else (i_within e.Minutes 0 600).bind fun r1 =>
   some (!r1)).bind fun (v1 : Bool) =>
   if v1 = true then
    some (.dn (.ret false))
   else
    some (.nx (e.Id, (w64 (v + 1))))
  else
   some (.dn (.go ()))
noncomputable def i_areTripDelays (t : Timetable) (delays : List TripDelay) : Option (Bool) :=
 flb (iter (i_areTripDelays_L1 t delays) ((0 : Int), (0 : Int))) fun (_ : Unit) =>
 some true
noncomputable def i_IsValidTripDelays (t : Timetable) (delays : List TripDelay) : Option (Bool) :=
 (i_IsValidTimetable t).bind fun r =>
 (if r = true then (i_areTripDelays t delays).bind fun r1 =>
 some r1 else some false).bind fun (v : Bool) =>
 some v
noncomputable def i_delayOf_L1 (delays : List TripDelay) (id : Int) : Int → Option (Lp (Int) (Fl (Int) (Unit)))
 | v =>
  if (decide (v < (delays.length : Int))) = true then
   (idx delays v).bind fun e =>
   if (e.Id == id) = true then
    some (.dn (.ret e.Minutes))
   else
    some (.nx (w64 (v + 1)))
  else
   some (.dn (.go ()))
noncomputable def i_delayOf (delays : List TripDelay) (id : Int) : Option (Int) :=
 flb (iter (i_delayOf_L1 delays id) (0 : Int)) fun (_ : Unit) =>
 some 0
noncomputable def i_DelayMessages_L1 (t : Timetable) (delays : List TripDelay) (v1 : Int) : Int × Int → Option (Lp (Int × Int) (Int))
 | (v2, v3) =>
  if (decide (v3 < (t.Trips.length : Int))) = true then
   ((idx t.Trips v3).bind fun e1 =>
   if (e1.Line == v1) = true then
    (i_delayOf delays e1.Id).bind fun r2 =>
    some (if r2 > v2 then r2 else v2)
   else
    some v2).bind fun (v4 : Int) =>
   some (.nx (v4, (w64 (v3 + 1))))
  else
   some (.dn v2)
noncomputable def i_DelayMessages_L2 (t : Timetable) (delays : List TripDelay) (limit : Int) : Int × (List Message) → Option (Lp (Int × (List Message)) ((List Message)))
 | (v1, most) =>
  if (decide (v1 < (t.Network.Lines.length : Int))) = true then
   ((idx t.Network.Lines v1).bind fun e =>
   (iter (i_DelayMessages_L1 t delays v1) ((0 : Int), (0 : Int))).bind fun (v5 : Int) =>
   if (decide (limit ≤ v5)) = true then
    (chk (most.length + ([(⟨1, e.Name, ByteArray.empty, 0, 0, v5⟩ : Message)] : List Message).length ≤ 4294967296)).bind fun u =>
    some (most ++ ([(⟨1, e.Name, ByteArray.empty, 0, 0, v5⟩ : Message)] : List Message))
   else
    some most).bind fun (most1 : List Message) =>
   some (.nx ((w64 (v1 + 1)), most1))
  else
   some (.dn most)
noncomputable def i_DelayMessages (t : Timetable) (delays : List TripDelay) (limit : Int) : Option ((List Message) × Bool) :=
 (i_IsValidTripDelays t delays).bind fun r =>
 (if (!r) = true then some true else (i_within limit 1 600).bind fun r1 =>
 some (!r1)).bind fun (v : Bool) =>
 if v = true then
  some (([] : List Message), false)
 else
  (iter (i_DelayMessages_L2 t delays limit) ((0 : Int), ([] : List Message))).bind fun (most2 : List Message) =>
  some (most2, true)
noncomputable def s_l2Find_L1 (list : List ByteArray) (name : ByteArray) : Int → Option (Lp (Int) (Fl (Int) (Unit)))
 | v =>
  if (decide (v < (list.length : Int))) = true then
   (idx list v).bind fun e =>
   if (e.toList == name.toList) = true then
    some (.dn (.ret v))
   else
    some (.nx (w64 (v + 1)))
  else
   some (.dn (.go ()))
noncomputable def s_l2Find (list : List ByteArray) (name : ByteArray) : Option (Int) :=
 flb (iter (s_l2Find_L1 list name) (0 : Int)) fun (_ : Unit) =>
 some (-1)
noncomputable def s_l2Line_L1 (x : Line) (stops : Int) : Int → Option (Lp (Int) (Fl (Bool) (Unit)))
 | v1 =>
  if (decide (v1 < (x.Stops.length : Int))) = true then
   (idx x.Stops v1).bind fun e2 =>
   (s_l1In e2 0 (w64 (stops - 1))).bind fun r4 =>
   (if (!r4) = true then some true else (idx x.Stops v1).bind fun e3 =>
   (s_l2Place x e3).bind fun r5 =>
   some (r5 != v1)).bind fun (v2 : Bool) =>
   if v2 = true then
    some (.dn (.ret false))
   else
    some (.nx (w64 (v1 + 1)))
  else
   some (.dn (.go ()))
noncomputable def s_l2Line_L2 (x : Line) : Int → Option (Lp (Int) (Fl (Bool) (Unit)))
 | v3 =>
  if (decide (v3 < (x.Runs.length : Int))) = true then
   (idx x.Runs v3).bind fun e5 =>
   (s_l1In e5 1 60).bind fun r7 =>
   if (!r7) = true then
    some (.dn (.ret false))
   else
    some (.nx (w64 (v3 + 1)))
  else
   some (.dn (.go ()))
noncomputable def s_l2Line (x : Line) (stops : Int) : Option (Bool) :=
 (s_l2Name x.Name).bind fun r =>
 (if (!r) = true then some true else (s_l1In (x.Stops.length : Int) 2 6).bind fun r1 =>
 if (!r1) = true then some true else some ((x.Runs.length : Int) != (w64 ((x.Stops.length : Int) - 1)))).bind fun (v : Bool) =>
 if v = true then
  some false
 else
  flb (iter (s_l2Line_L1 x stops) (0 : Int)) fun (_ : Unit) =>
  flb (iter (s_l2Line_L2 x) (0 : Int)) fun (_ : Unit) =>
  some true
noncomputable def s_l2LineNamed_L1 (n : Network) (name : ByteArray) : Int → Option (Lp (Int) (Fl (Int) (Unit)))
 | v =>
  if (decide (v < (n.Lines.length : Int))) = true then
   (idx n.Lines v).bind fun e =>
   if (e.Name.toList == name.toList) = true then
    some (.dn (.ret v))
   else
    some (.nx (w64 (v + 1)))
  else
   some (.dn (.go ()))
noncomputable def s_l2LineNamed (n : Network) (name : ByteArray) : Option (Int) :=
 flb (iter (s_l2LineNamed_L1 n name) (0 : Int)) fun (_ : Unit) =>
 some (-1)
noncomputable def s_l2Good_L1 (n : Network) : Int → Option (Lp (Int) (Fl (Bool) (Unit)))
 | i =>
  if (decide (i < (n.Stops.length : Int))) = true then
   (idx n.Stops i).bind fun e2 =>
   (s_l2Name e2).bind fun r4 =>
   (if (!r4) = true then some true else (idx n.Stops i).bind fun e3 =>
   (s_l2Find n.Stops e3).bind fun r5 =>
   some (r5 != i)).bind fun (v1 : Bool) =>
   if v1 = true then
    some (.dn (.ret false))
   else
    some (.nx (w64 (i + 1)))
  else
   some (.dn (.go ()))
noncomputable def s_l2Good_L2 (n : Network) : Int → Option (Lp (Int) (Fl (Bool) (Unit)))
 | v2 =>
  if (decide (v2 < (n.Lines.length : Int))) = true then
   (idx n.Lines v2).bind fun e7 =>
   (s_l2Line e7 (n.Stops.length : Int)).bind fun r9 =>
   (if (!r9) = true then some true else (idx n.Lines v2).bind fun e8 =>
   (s_l2LineNamed n e8.Name).bind fun r10 =>
   some (r10 != v2)).bind fun (v3 : Bool) =>
   if v3 = true then
    some (.dn (.ret false))
   else
    some (.nx (w64 (v2 + 1)))
  else
   some (.dn (.go ()))
noncomputable def s_l2Good (n : Network) : Option (Bool) :=
 (s_l1In (n.Stops.length : Int) 2 8).bind fun r =>
 (if (!r) = true then some true else (s_l1In (n.Lines.length : Int) 1 5).bind fun r1 =>
 some (!r1)).bind fun (v : Bool) =>
 if v = true then
  some false
 else
  flb (iter (s_l2Good_L1 n) (0 : Int)) fun (_ : Unit) =>
  flb (iter (s_l2Good_L2 n) (0 : Int)) fun (_ : Unit) =>
  some true
noncomputable def s_l5Line (t : Timetable) (i : Int) : Option (Line) :=
 (idx t.Trips i).bind fun e2 =>
 (idx t.Network.Lines e2.Line).bind fun e3 =>
 some e3
noncomputable def s_l5Stops (t : Timetable) (i : Int) : Option ((List Int)) :=
 (s_l5Line t i).bind fun r =>
 some r.Stops
noncomputable def s_l2Run_L1 (x : Line) (to_ : Int) : Int × Int → Option (Lp (Int × Int) (Int))
 | (v, v1) =>
  if (decide (v1 < to_)) = true then
   (idx x.Runs v1).bind fun e =>
   some (.nx ((w64 (v + e)), (w64 (v1 + 1))))
  else
   some (.dn v)
noncomputable def s_l2Run (x : Line) (from_ : Int) (to_ : Int) : Option (Int) :=
 (iter (s_l2Run_L1 x to_) ((0 : Int), from_)).bind fun (v2 : Int) =>
 some v2
noncomputable def s_l5At (t : Timetable) (i : Int) (k : Int) : Option (Int) :=
 (idx t.Trips i).bind fun e1 =>
 (s_l5Line t i).bind fun r2 =>
 (s_l2Run r2 0 k).bind fun r3 =>
 some (w64 (e1.Start + r3))
noncomputable def s_l5End (t : Timetable) (i : Int) : Option (Int) :=
 (s_l5Stops t i).bind fun r2 =>
 (s_l5At t i (w64 ((r2.length : Int) - 1))).bind fun r3 =>
 some r3
noncomputable def s_l5Good_L1 (t : Timetable) : Int → Option (Lp (Int) (Fl (Bool) (Unit)))
 | x =>
  if (decide (x < (t.Trips.length : Int))) = true then
   (idx t.Trips x).bind fun e =>
   (s_l1In e.Id 1 999).bind fun r6 =>
   (if (!r6) = true then some true else (s_l1In e.Line 0 (w64 ((t.Network.Lines.length : Int) - 1))).bind fun r7 =>
   if (!r7) = true then some true else (s_l4Time e.Start).bind fun r8 =>
   if (!r8) = true then some true else (s_l5End t x).bind fun r9 =>
   (s_l4Time r9).bind fun r10 =>
   if (!r10) = true then some true else if (decide (0 < x)) = true then (idx t.Trips (w64 (x - 1))).bind fun e2 =>
   some (decide (e.Id ≤ e2.Id)) else some false).bind fun (v1 : Bool) =>
   if v1 = true then
    some (.dn (.ret false))
   else
    some (.nx (w64 (x + 1)))
  else
   some (.dn (.go ()))
noncomputable def s_l5Good (t : Timetable) : Option (Bool) :=
 (s_l2Good t.Network).bind fun r =>
 (if (!r) = true then some true else some (decide (12 < (t.Trips.length : Int)))).bind fun (v : Bool) =>
 if v = true then
  some false
 else
  flb (iter (s_l5Good_L1 t) (0 : Int)) fun (_ : Unit) =>
  some true
noncomputable def s_l5Find_L1 (t : Timetable) (id : Int) : Int → Option (Lp (Int) (Fl (Int) (Unit)))
 | v =>
  if (decide (v < (t.Trips.length : Int))) = true then
   (idx t.Trips v).bind fun e =>
   if (e.Id == id) = true then
    some (.dn (.ret v))
   else
    some (.nx (w64 (v + 1)))
  else
   some (.dn (.go ()))
noncomputable def s_l5Find (t : Timetable) (id : Int) : Option (Int) :=
 flb (iter (s_l5Find_L1 t id) (0 : Int)) fun (_ : Unit) =>
 some (-1)
noncomputable def s_l23Good_L1 (t : Timetable) (delays : List TripDelay) : Int → Option (Lp (Int) (Fl (Bool) (Unit)))
 | v =>
  if (decide (v < (delays.length : Int))) = true then
   (idx delays v).bind fun e4 =>
   (s_l5Find t e4.Id).bind fun r3 =>
   (if (decide (r3 < 0)) = true then some true else (idx delays v).bind fun e5 =>
   (s_l1In e5.Minutes 0 600).bind fun r4 =>
   if (!r4) = true then some true else if (decide (0 < v)) = true then (idx delays (w64 (v - 1))).bind fun e6 =>
   (idx delays v).bind fun e7 =>
   some (decide (e7.Id ≤ e6.Id)) else some false).bind fun (v1 : Bool) =>
   if v1 = true then
    some (.dn (.ret false))
   else
    some (.nx (w64 (v + 1)))
  else
   some (.dn (.go ()))
noncomputable def s_l23Good (t : Timetable) (delays : List TripDelay) : Option (Bool) :=
 (s_l5Good t).bind fun r =>
 if (!r) = true then
  some false
 else
  flb (iter (s_l23Good_L1 t delays) (0 : Int)) fun (_ : Unit) =>
  some true
noncomputable def s_l23Delay_L1 (delays : List TripDelay) (id : Int) : Int → Option (Lp (Int) (Fl (Int) (Unit)))
 | v =>
  if (decide (v < (delays.length : Int))) = true then
   (idx delays v).bind fun e =>
   if (e.Id == id) = true then
    (idx delays v).bind fun e1 =>
    some (.dn (.ret e1.Minutes))
   else
    some (.nx (w64 (v + 1)))
  else
   some (.dn (.go ()))
noncomputable def s_l23Delay (delays : List TripDelay) (id : Int) : Option (Int) :=
 flb (iter (s_l23Delay_L1 delays id) (0 : Int)) fun (_ : Unit) =>
 some 0
noncomputable def s_l1Most (a : Int) (b : Int) : Option (Int) :=
 if (decide (b < a)) = true then
  some a
 else
  some b
noncomputable def s_DelayMessages_L1 (t : Timetable) (delays : List TripDelay) (v1 : Int) : Int × Int → Option (Lp (Int × Int) (Int))
 | (v2, v3) =>
  if (decide (v3 < (t.Trips.length : Int))) = true then
   ((idx t.Trips v3).bind fun e =>
   if (e.Line == v1) = true then
    (idx t.Trips v3).bind fun e1 =>
    (s_l23Delay delays e1.Id).bind fun r2 =>
    (s_l1Most v2 r2).bind fun r3 =>
    some r3
   else
    some v2).bind fun (v4 : Int) =>
   some (.nx (v4, (w64 (v3 + 1))))
  else
   some (.dn v2)
noncomputable def s_DelayMessages_L2 (t : Timetable) (delays : List TripDelay) (limit : Int) : Int × (List Message) → Option (Lp (Int × (List Message)) ((List Message)))
 | (v1, i) =>
  if (decide (v1 < (t.Network.Lines.length : Int))) = true then
   ((iter (s_DelayMessages_L1 t delays v1) ((0 : Int), (0 : Int))).bind fun (v5 : Int) =>
   if (decide (limit ≤ v5)) = true then
    (idx t.Network.Lines v1).bind fun e2 =>
    (chk (i.length + ([(⟨1, e2.Name, ByteArray.empty, 0, 0, v5⟩ : Message)] : List Message).length ≤ 4294967296)).bind fun u =>
    some (i ++ ([(⟨1, e2.Name, ByteArray.empty, 0, 0, v5⟩ : Message)] : List Message))
   else
    some i).bind fun (i1 : List Message) =>
   some (.nx ((w64 (v1 + 1)), i1))
  else
   some (.dn i)
noncomputable def s_DelayMessages (t : Timetable) (delays : List TripDelay) (limit : Int) : Option ((List Message) × Bool) :=
 (s_l23Good t delays).bind fun r =>
 (if (!r) = true then some true else (s_l1In limit 1 600).bind fun r1 =>
 some (!r1)).bind fun (v : Bool) =>
 if v = true then
  some (([] : List Message), false)
 else
  (iter (s_DelayMessages_L2 t delays limit) ((0 : Int), ([] : List Message))).bind fun (i2 : List Message) =>
  some (i2, true)
noncomputable def v_FnNotices (code : List UInt8) : Option (Bool) :=
 (v_rBig code).bind fun r =>
 if r = true then
  some true
 else
  (s_DrawMergeNotices code).bind fun r1 =>
  (i_MergeNotices r1.1 r1.2).bind fun r2 =>
  (s_MergeNotices r1.1 r1.2).bind fun r3 =>
  (if (!(r2.2 == r3.2)) = true then some true else (v_rMessages r2.1 r3.1).bind fun r4 =>
  some (!r4)).bind fun (v : Bool) =>
  if v = true then
   some false
  else
   flb (if r2.2 = true then
    (i_MergeNotices r2.1 ([] : List Message)).bind fun r5 =>
    (if (!r5.2) = true then some true else (v_rMessages r5.1 r2.1).bind fun r6 =>
    if (!r6) = true then some true else some (decide ((w64 ((r1.1.length : Int) + (r1.2.length : Int))) < (r2.1.length : Int)))).bind fun (v1 : Bool) =>
    if v1 = true then
     some (.ret false)
    else
     some (.go ())
   else
    some (.go ())) fun (_ : Unit) =>
   (s_DrawActiveMessages code).bind fun r8 =>
   (i_ActiveMessages r8.1 r8.2).bind fun r9 =>
   (s_ActiveMessages r8.1 r8.2).bind fun r10 =>
   (if (!(r9.2 == r10.2)) = true then some true else (v_rInts r9.1 r10.1).bind fun r11 =>
   some (!r11)).bind fun (v2 : Bool) =>
   if v2 = true then
    some false
   else
    (s_DrawMessagesFor code).bind fun r12 =>
    (i_MessagesFor r12.1 r12.2.1 r12.2.2).bind fun r13 =>
    (s_MessagesFor r12.1 r12.2.1 r12.2.2).bind fun r14 =>
    (if (!(r13.2 == r14.2)) = true then some true else (v_rInts r13.1 r14.1).bind fun r15 =>
    some (!r15)).bind fun (v3 : Bool) =>
    if v3 = true then
     some false
    else
     (s_DrawDelayMessages code).bind fun r16 =>
     (i_DelayMessages r16.1 r16.2.1 r16.2.2).bind fun r17 =>
     (s_DelayMessages r16.1 r16.2.1 r16.2.2).bind fun r18 =>
     (if (r17.2 == r18.2) = true then (v_rMessages r17.1 r18.1).bind fun r19 =>
     if r19 = true then some (decide ((r17.1.length : Int) ≤ (r16.1.Network.Lines.length : Int))) else some false else some false).bind fun (a : Bool) =>
     some a
end Go.Proofs.Yteieacgaipcnoaa
