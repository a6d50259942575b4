/- Models of the functions that the law reaches: plain Lean; none where the function would panic or not end. Made by program (dec.py). -/
import Derived.Test.YteieacgaipcnoaaGreatDoorAbC0
import Derived.Test.YteieacgaipcnoaaGreatDoorAbStr1
import Derived.Test.YteieacgaipcnoaaGreatDoorAbStr2
namespace Go.Proofs.YteieacgaipcnoaaGreatDoor
open Go Go.Ab
set_option maxRecDepth 100000
set_option maxHeartbeats 4000000
set_option linter.unusedVariables false
set_option linter.unusedSimpArgs false
structure l1Cur where
 code_ : List UInt8
 at_ : Int
 seed_ : IK .u64
instance enc_l1Cur : Enc l1Cur := ⟨3, fun x => .agg [Enc.e x.code_, .sc (.int .i64 x.at_), .sc (.int .u64 x.seed_.v)], fun a b h => by
 simp only [D.agg.injEq, List.cons.injEq, and_true] at h
 obtain ⟨a1, a2, a3⟩ := a
 obtain ⟨b1, b2, b3⟩ := b
 obtain ⟨h1, h2, h3⟩ := h
 have q1 := Enc.inj (α := List UInt8) a1 b1 h1
 have q2 := Enc.inj (α := Int) a2 b2 h2
 have q3 := Enc.inj (α := IK .u64) a3 b3 h3
 subst q1; subst q2; subst q3; rfl⟩
structure Message where
 Kind : Int
 Line : ByteArray
 Stop : ByteArray
 From : Int
 To : Int
 Minutes : Int
instance enc_Message : Enc Message := ⟨6, fun x => .agg [.sc (.int .i64 x.Kind), .sc (.string x.Line), .sc (.string x.Stop), .sc (.int .i64 x.From), .sc (.int .i64 x.To), .sc (.int .i64 x.Minutes)], fun a b h => by
 simp only [D.agg.injEq, List.cons.injEq, and_true] at h
 obtain ⟨a1, a2, a3, a4, a5, a6⟩ := a
 obtain ⟨b1, b2, b3, b4, b5, b6⟩ := b
 obtain ⟨h1, h2, h3, h4, h5, h6⟩ := h
 have q1 := Enc.inj (α := Int) a1 b1 h1
 have q2 := Enc.inj (α := ByteArray) a2 b2 h2
 have q3 := Enc.inj (α := ByteArray) a3 b3 h3
 have q4 := Enc.inj (α := Int) a4 b4 h4
 have q5 := Enc.inj (α := Int) a5 b5 h5
 have q6 := Enc.inj (α := Int) a6 b6 h6
 subst q1; subst q2; subst q3; subst q4; subst q5; subst q6; rfl⟩
structure l24Reader where
 s_ : ByteArray
 at_ : Int
 bad_ : Bool
instance enc_l24Reader : Enc l24Reader := ⟨3, fun x => .agg [.sc (.string x.s_), .sc (.int .i64 x.at_), .sc (.bool x.bad_)], fun a b h => by
 simp only [D.agg.injEq, List.cons.injEq, and_true] at h
 obtain ⟨a1, a2, a3⟩ := a
 obtain ⟨b1, b2, b3⟩ := b
 obtain ⟨h1, h2, h3⟩ := h
 have q1 := Enc.inj (α := ByteArray) a1 b1 h1
 have q2 := Enc.inj (α := Int) a2 b2 h2
 have q3 := Enc.inj (α := Bool) a3 b3 h3
 subst q1; subst q2; subst q3; rfl⟩
instance : BxE l1Cur := ⟨fun x y h => Enc.inj x y (congrArg D.agg h)⟩
instance : BxE Message := ⟨fun x y h => Enc.inj x y (congrArg D.agg h)⟩
instance : BxE l24Reader := ⟨fun x y h => Enc.inj x y (congrArg D.agg h)⟩
instance : FlatEnc Message := ⟨fun _ => flatDB_ok rfl⟩
instance : FlatEnc l24Reader := ⟨fun _ => flatDB_ok rfl⟩
noncomputable def v_rBig (code : List UInt8) : Option (Bool) :=
 some (decide (65536 < (code.length : Int)))
noncomputable def s_l1Cur_next (c : l1Cur) : Option (Int × l1Cur) :=
 (if (decide (c.at_ < (c.code_.length : Int))) = true then
  (idx c.code_ c.at_).bind fun e1 =>
  some (w64 ((e1.toNat : Int)))
 else
  some (0 : Int)).bind fun (v : Int) =>
 if (decide ((w64 (c.at_ + 1)) ≤ (c.code_.length : Int))) = true then
  some (v, (⟨c.code_, (w64 (c.at_ + 1)), (⟨(IntKind.u64.wrap ((IntKind.u64.wrap ((IntKind.u64.wrap (c.seed_.v * 6364136223846793005)) + (IntKind.u64.wrap (v)))) + 900900))⟩ : IK .u64)⟩ : l1Cur))
 else
  (chk ((0 : Int) ≤ 40)).bind fun u =>
  some ((w64 ((IntKind.u64.wrap ((BitVec.ofInt (IntKind.u64).bits ((IntKind.u64.wrap ((IntKind.u64.wrap ((IntKind.u64.wrap (c.seed_.v * 6364136223846793005)) + (IntKind.u64.wrap (v)))) + 900900)).fdiv (2 ^ (min (40 : Int).toNat (IntKind.u64).bits))) &&& BitVec.ofInt (IntKind.u64).bits 255).toNat : Int)))), (⟨c.code_, (w64 (c.at_ + 1)), (⟨(IntKind.u64.wrap ((IntKind.u64.wrap ((IntKind.u64.wrap (c.seed_.v * 6364136223846793005)) + (IntKind.u64.wrap (v)))) + 900900))⟩ : IK .u64)⟩ : l1Cur))
noncomputable def s_l1Cur_pick (c : l1Cur) (n : Int) : Option (Int × l1Cur) :=
 if (decide (n ≤ 1)) = true then
  some (0, c)
 else
  (s_l1Cur_next c).bind fun r =>
  (if (decide (200 < n)) = true then
   (s_l1Cur_next r.2).bind fun r1 =>
   some ((w64 ((w64 (r.1 * 256)) + r1.1)), r1.2.code_, r1.2.at_, r1.2.seed_.v)
  else
   some (r.1, r.2.code_, r.2.at_, r.2.seed_.v)).bind fun ((v, v1, v2, v3) : Int × (List UInt8) × Int × Int) =>
  (chk ((n : Int) ≠ 0)).bind fun u =>
  some ((v.tmod n), (⟨v1, v2, (⟨v3⟩ : IK .u64)⟩ : l1Cur))
noncomputable def s_l1Cur_of (c : l1Cur) (list : List ByteArray) : Option (ByteArray × l1Cur) :=
 (s_l1Cur_pick c (list.length : Int)).bind fun r =>
 (idx list r.1).bind fun e =>
 some (e, r.2)
noncomputable def s_l1Cur_among (c : l1Cur) (list : List Int) : Option (Int × l1Cur) :=
 (s_l1Cur_pick c (list.length : Int)).bind fun r =>
 (idx list r.1).bind fun e =>
 some (e, r.2)
noncomputable def s_l1Least (a : Int) (b : Int) : Option (Int) :=
 if (decide (a < b)) = true then
  some a
 else
  some b
noncomputable def s_l1Cur_message (c : l1Cur) : Option (Message × l1Cur) :=
 (s_l1Cur_pick c 5).bind fun r =>
 (s_l1Cur_of r.2 ([(str [97]), (str [98, 49]), (str [101, 120, 112, 114, 101, 115, 115])] : List ByteArray)).bind fun r1 =>
 (s_l1Cur_of r1.2 ([(str [104, 97, 114, 98, 111, 114]), (str [120])] : List ByteArray)).bind fun r2 =>
 (s_l1Cur_among r2.2 ([0, 425, 600, 1439, 1799] : List Int)).bind fun r3 =>
 (if ((w64 (1 + r.1)) == 1) = true then
  (s_l1Cur_among r3.2 ([1, 2, 10, 600] : List Int)).bind fun r4 =>
  some (r4.2.code_, r4.2.at_, r4.2.seed_.v, r1.1, ByteArray.empty, (0 : Int), (0 : Int), r4.1)
 else
  (if ((w64 (1 + r.1)) == 2) = true then
   some ((w64 (1 + r.1)) == 2)
  else
   some ((w64 (1 + r.1)) == 5)).bind fun (v8 : Bool) =>
  if v8 = true then
   some (r3.2.code_, r3.2.at_, r3.2.seed_.v, r1.1, ByteArray.empty, r3.1, (0 : Int), (0 : Int))
  else
   if ((w64 (1 + r.1)) == 3) = true then
    (s_l1Cur_among r3.2 ([0, 30, 200] : List Int)).bind fun r5 =>
    (s_l1Least (w64 (r3.1 + r5.1)) 1799).bind fun r6 =>
    some (r5.2.code_, r5.2.at_, r5.2.seed_.v, ByteArray.empty, r2.1, r3.1, r6, (0 : Int))
   else
    (s_l1Cur_among r3.2 ([0, 30, 200] : List Int)).bind fun r7 =>
    (s_l1Least (w64 (r3.1 + r7.1)) 1799).bind fun r8 =>
    some (r7.2.code_, r7.2.at_, r7.2.seed_.v, r1.1, r2.1, r3.1, r8, (0 : Int))).bind fun ((v, v1, v2, v3, v4, v5, v6, v7) : (List UInt8) × Int × Int × ByteArray × ByteArray × Int × Int × Int) =>
 ((s_l1Cur_pick (⟨v, v1, (⟨v2⟩ : IK .u64)⟩ : l1Cur) 60).bind fun r9 =>
 if (r9.1 == 0) = true then
  (s_l1Cur_among r9.2 ([0, 6, 1] : List Int)).bind fun r10 =>
  some (r10.2.code_, r10.2.at_, r10.2.seed_.v, r10.1, v3, v6, v7)
 else
  if (r9.1 == 1) = true then
   (s_l1Cur_among r9.2 ([0, 601, 5] : List Int)).bind fun r11 =>
   some (r11.2.code_, r11.2.at_, r11.2.seed_.v, (w64 (1 + r.1)), v3, v6, r11.1)
  else
   if (r9.1 == 2) = true then
    (s_l1Cur_among r9.2 ([(-1), 1800, 3] : List Int)).bind fun r12 =>
    some (r12.2.code_, r12.2.at_, r12.2.seed_.v, (w64 (1 + r.1)), v3, r12.1, v7)
   else
    if (r9.1 == 3) = true then
     (s_l1Cur_of r9.2 ([(str []), (str [65]), (str [108, 105, 110, 101, 49])] : List ByteArray)).bind fun r13 =>
     some (r13.2.code_, r13.2.at_, r13.2.seed_.v, (w64 (1 + r.1)), r13.1, v6, v7)
    else
     some (r9.2.code_, r9.2.at_, r9.2.seed_.v, (w64 (1 + r.1)), v3, v6, v7)).bind fun ((v9, v10, v11, v12, v13, v14, v15) : (List UInt8) × Int × Int × Int × ByteArray × Int × Int) =>
 some ((⟨v12, v13, v4, v5, v14, v15⟩ : Message), (⟨v9, v10, (⟨v11⟩ : IK .u64)⟩ : l1Cur))
noncomputable def s_DrawIsValidMessage (code : List UInt8) : Option (Message) :=
 (s_l1Cur_message (⟨code, 0, (⟨0⟩ : IK .u64)⟩ : l1Cur)).bind fun r =>
 some r.1
noncomputable def s_DrawMessageText (code : List UInt8) : Option (Message) :=
 (s_DrawIsValidMessage code).bind fun r =>
 some r
noncomputable def i_isName_L1 (s : ByteArray) : Int → Option (Lp (Int) (Fl (Bool) (Unit)))
 | v1 =>
  if (decide (v1 < (s.size : Int))) = true then
   (chk ((0 : Int) ≤ v1 ∧ v1 < (s.size : Int))).bind fun u =>
   (if (decide (97 ≤ ((s.data.toList.getD v1.toNat 0).toNat : Int))) = true then (chk ((0 : Int) ≤ v1 ∧ v1 < (s.size : Int))).bind fun u1 =>
   some (decide (((s.data.toList.getD v1.toNat 0).toNat : Int) ≤ 122)) else some false).bind fun (v2 : Bool) =>
   (if (!v2) = true then if (v1 == 0) = true then some true else (chk ((0 : Int) ≤ v1 ∧ v1 < (s.size : Int))).bind fun u2 =>
   if (decide (((s.data.toList.getD v1.toNat 0).toNat : Int) < 48)) = true then some true else (chk ((0 : Int) ≤ v1 ∧ v1 < (s.size : Int))).bind fun u3 =>
   some (decide (57 < ((s.data.toList.getD v1.toNat 0).toNat : Int))) else some false).bind fun (v3 : Bool) =>
   if v3 = true then
    some (.dn (.ret false))
   else
    some (.nx (w64 (v1 + 1)))
  else
   some (.dn (.go ()))
noncomputable def i_isName (s : ByteArray) : Option (Bool) :=
 (if (decide ((s.size : Int) < 1)) = true then some true else some (decide (8 < (s.size : Int)))).bind fun (v : Bool) =>
 if v = true then
  some false
 else
  flb (iter (i_isName_L1 s) (0 : Int)) fun (_ : Unit) =>
  some true
noncomputable def i_within (n : Int) (lo : Int) (hi : Int) : Option (Bool) :=
 (if (decide (lo ≤ n)) = true then some (decide (n ≤ hi)) else some false).bind fun (v : Bool) =>
 some v
noncomputable def i_IsValidTime (t : Int) : Option (Bool) :=
 (i_within t 0 1799).bind fun r =>
 some r
noncomputable def i_isPeriod (m : Message) : Option (Bool) :=
 (i_IsValidTime m.From).bind fun r =>
 (if r = true then (i_IsValidTime m.To).bind fun r1 =>
 if r1 = true then some (decide (m.From ≤ m.To)) else some false else some false).bind fun (v : Bool) =>
 some v
noncomputable def i_IsValidMessage (m : Message) : Option (Bool) :=
 flb (if (m.Kind == 1) = true then
  (i_isName m.Line).bind fun r =>
  (if (!r) = true then some true else (i_within m.Minutes 1 600).bind fun r1 =>
  some (!r1)).bind fun (v5 : Bool) =>
  if v5 = true then
   some (.ret false)
  else
   some (.go ((str []), m.Stop, m.From, m.To, (0 : Int)))
 else
  (if (m.Kind == 2) = true then
   some (m.Kind == 2)
  else
   some (m.Kind == 5)).bind fun (v6 : Bool) =>
  if v6 = true then
   (i_isName m.Line).bind fun r3 =>
   (if (!r3) = true then some true else (i_IsValidTime m.From).bind fun r4 =>
   some (!r4)).bind fun (v7 : Bool) =>
   if v7 = true then
    some (.ret false)
   else
    some (.go ((str []), m.Stop, (0 : Int), m.To, m.Minutes))
  else
   if (m.Kind == 3) = true then
    (i_isName m.Stop).bind fun r6 =>
    (if (!r6) = true then some true else (i_isPeriod m).bind fun r7 =>
    some (!r7)).bind fun (v8 : Bool) =>
    if v8 = true then
     some (.ret false)
    else
     some (.go (m.Line, (str []), (0 : Int), (0 : Int), m.Minutes))
   else
    if (m.Kind == 4) = true then
     (i_isName m.Line).bind fun r9 =>
     (if (!r9) = true then some true else (i_isName m.Stop).bind fun r10 =>
     if (!r10) = true then some true else (i_isPeriod m).bind fun r11 =>
     some (!r11)).bind fun (v9 : Bool) =>
     if v9 = true then
      some (.ret false)
     else
      some (.go ((str []), (str []), (0 : Int), (0 : Int), m.Minutes))
    else
     some (.ret false)) fun ((v, v1, v2, v3, v4) : ByteArray × ByteArray × Int × Int × Int) =>
 some ((m.Kind == m.Kind) && ((v.toList == ByteArray.empty.toList) && ((v1.toList == ByteArray.empty.toList) && ((v2 == 0) && ((v3 == 0) && ((v4 == 0) && true))))))
noncomputable def strconv_Itoa (i : Int) : Option (ByteArray) :=
 itoaM i
noncomputable def i_clockText_1 (n : Int) : Option (ByteArray) :=
 (chk ((10 : Int) ≠ 0)).bind fun u =>
 (chk ((10 : Int) ≠ 0)).bind fun u1 =>
 some (bytS ([(mkU8 (IntKind.u8.wrap ((w64 (48 + (w64 (n.tdiv 10))))))), (mkU8 (IntKind.u8.wrap ((w64 (48 + (n.tmod 10))))))] : List UInt8))
noncomputable def i_clockText (t : Int) : Option (ByteArray) :=
 (chk ((60 : Int) ≠ 0)).bind fun u =>
 (i_clockText_1 (w64 (t.tdiv 60))).bind fun r =>
 (chk (r.size + (str [58]).size ≤ 4294967296)).bind fun u1 =>
 (chk ((60 : Int) ≠ 0)).bind fun u2 =>
 (i_clockText_1 (t.tmod 60)).bind fun r1 =>
 (chk ((r ++ (str [58])).size + r1.size ≤ 4294967296)).bind fun u3 =>
 some ((r ++ (str [58])) ++ r1)
noncomputable def i_messageText (m : Message) : Option (ByteArray) :=
 if (m.Kind == 1) = true then
  (if (m.Minutes == 1) = true then
   some (str [32, 109, 105, 110, 117, 116, 101, 46])
  else
   some (str [32, 109, 105, 110, 117, 116, 101, 115, 46])).bind fun (v : ByteArray) =>
  (chk ((str [76, 105, 110, 101, 32]).size + m.Line.size ≤ 4294967296)).bind fun u4 =>
  (chk (((str [76, 105, 110, 101, 32]) ++ m.Line).size + (str [32, 105, 115, 32, 100, 101, 108, 97, 121, 101, 100, 32, 98, 121, 32]).size ≤ 4294967296)).bind fun u5 =>
  (strconv_Itoa m.Minutes).bind fun r1 =>
  (chk ((((str [76, 105, 110, 101, 32]) ++ m.Line) ++ (str [32, 105, 115, 32, 100, 101, 108, 97, 121, 101, 100, 32, 98, 121, 32])).size + r1.size ≤ 4294967296)).bind fun u6 =>
  (chk (((((str [76, 105, 110, 101, 32]) ++ m.Line) ++ (str [32, 105, 115, 32, 100, 101, 108, 97, 121, 101, 100, 32, 98, 121, 32])) ++ r1).size + v.size ≤ 4294967296)).bind fun u7 =>
  some (((((str [76, 105, 110, 101, 32]) ++ m.Line) ++ (str [32, 105, 115, 32, 100, 101, 108, 97, 121, 101, 100, 32, 98, 121, 32])) ++ r1) ++ v)
 else
  if (m.Kind == 2) = true then
   (chk ((str [84, 104, 101, 32, 100, 101, 112, 97, 114, 116, 117, 114, 101, 32, 111, 102, 32, 108, 105, 110, 101, 32]).size + m.Line.size ≤ 4294967296)).bind fun u12 =>
   (chk (((str [84, 104, 101, 32, 100, 101, 112, 97, 114, 116, 117, 114, 101, 32, 111, 102, 32, 108, 105, 110, 101, 32]) ++ m.Line).size + (str [32, 97, 116, 32]).size ≤ 4294967296)).bind fun u13 =>
   (i_clockText m.From).bind fun r3 =>
   (chk ((((str [84, 104, 101, 32, 100, 101, 112, 97, 114, 116, 117, 114, 101, 32, 111, 102, 32, 108, 105, 110, 101, 32]) ++ m.Line) ++ (str [32, 97, 116, 32])).size + r3.size ≤ 4294967296)).bind fun u14 =>
   (chk (((((str [84, 104, 101, 32, 100, 101, 112, 97, 114, 116, 117, 114, 101, 32, 111, 102, 32, 108, 105, 110, 101, 32]) ++ m.Line) ++ (str [32, 97, 116, 32])) ++ r3).size + (str [32, 105, 115, 32, 99, 97, 110, 99, 101, 108, 108, 101, 100, 46]).size ≤ 4294967296)).bind fun u15 =>
   some (((((str [84, 104, 101, 32, 100, 101, 112, 97, 114, 116, 117, 114, 101, 32, 111, 102, 32, 108, 105, 110, 101, 32]) ++ m.Line) ++ (str [32, 97, 116, 32])) ++ r3) ++ (str [32, 105, 115, 32, 99, 97, 110, 99, 101, 108, 108, 101, 100, 46]))
  else
   if (m.Kind == 3) = true then
    (chk ((str [84, 104, 101, 32, 115, 116, 111, 112, 32]).size + m.Stop.size ≤ 4294967296)).bind fun u22 =>
    (chk (((str [84, 104, 101, 32, 115, 116, 111, 112, 32]) ++ m.Stop).size + (str [32, 105, 115, 32, 99, 108, 111, 115, 101, 100, 32, 102, 114, 111, 109, 32]).size ≤ 4294967296)).bind fun u23 =>
    (i_clockText m.From).bind fun r6 =>
    (chk ((((str [84, 104, 101, 32, 115, 116, 111, 112, 32]) ++ m.Stop) ++ (str [32, 105, 115, 32, 99, 108, 111, 115, 101, 100, 32, 102, 114, 111, 109, 32])).size + r6.size ≤ 4294967296)).bind fun u24 =>
    (chk (((((str [84, 104, 101, 32, 115, 116, 111, 112, 32]) ++ m.Stop) ++ (str [32, 105, 115, 32, 99, 108, 111, 115, 101, 100, 32, 102, 114, 111, 109, 32])) ++ r6).size + (str [32, 116, 111, 32]).size ≤ 4294967296)).bind fun u25 =>
    (i_clockText m.To).bind fun r7 =>
    (chk ((((((str [84, 104, 101, 32, 115, 116, 111, 112, 32]) ++ m.Stop) ++ (str [32, 105, 115, 32, 99, 108, 111, 115, 101, 100, 32, 102, 114, 111, 109, 32])) ++ r6) ++ (str [32, 116, 111, 32])).size + r7.size ≤ 4294967296)).bind fun u26 =>
    (chk (((((((str [84, 104, 101, 32, 115, 116, 111, 112, 32]) ++ m.Stop) ++ (str [32, 105, 115, 32, 99, 108, 111, 115, 101, 100, 32, 102, 114, 111, 109, 32])) ++ r6) ++ (str [32, 116, 111, 32])) ++ r7).size + (str [46]).size ≤ 4294967296)).bind fun u27 =>
    some (((((((str [84, 104, 101, 32, 115, 116, 111, 112, 32]) ++ m.Stop) ++ (str [32, 105, 115, 32, 99, 108, 111, 115, 101, 100, 32, 102, 114, 111, 109, 32])) ++ r6) ++ (str [32, 116, 111, 32])) ++ r7) ++ (str [46]))
   else
    if (m.Kind == 4) = true then
     (i_clockText m.From).bind fun r10 =>
     (chk ((str [70, 114, 111, 109, 32]).size + r10.size ≤ 4294967296)).bind fun u36 =>
     (chk (((str [70, 114, 111, 109, 32]) ++ r10).size + (str [32, 116, 111, 32]).size ≤ 4294967296)).bind fun u37 =>
     (i_clockText m.To).bind fun r11 =>
     (chk ((((str [70, 114, 111, 109, 32]) ++ r10) ++ (str [32, 116, 111, 32])).size + r11.size ≤ 4294967296)).bind fun u38 =>
     (chk (((((str [70, 114, 111, 109, 32]) ++ r10) ++ (str [32, 116, 111, 32])) ++ r11).size + (str [44, 32, 108, 105, 110, 101, 32]).size ≤ 4294967296)).bind fun u39 =>
     (chk ((((((str [70, 114, 111, 109, 32]) ++ r10) ++ (str [32, 116, 111, 32])) ++ r11) ++ (str [44, 32, 108, 105, 110, 101, 32])).size + m.Line.size ≤ 4294967296)).bind fun u40 =>
     (chk (((((((str [70, 114, 111, 109, 32]) ++ r10) ++ (str [32, 116, 111, 32])) ++ r11) ++ (str [44, 32, 108, 105, 110, 101, 32])) ++ m.Line).size + (str [32, 114, 117, 110, 115, 32, 111, 110, 108, 121, 32, 97, 115, 32, 102, 97, 114, 32, 97, 115, 32]).size ≤ 4294967296)).bind fun u41 =>
     (chk ((((((((str [70, 114, 111, 109, 32]) ++ r10) ++ (str [32, 116, 111, 32])) ++ r11) ++ (str [44, 32, 108, 105, 110, 101, 32])) ++ m.Line) ++ (str [32, 114, 117, 110, 115, 32, 111, 110, 108, 121, 32, 97, 115, 32, 102, 97, 114, 32, 97, 115, 32])).size + m.Stop.size ≤ 4294967296)).bind fun u42 =>
     (chk (((((((((str [70, 114, 111, 109, 32]) ++ r10) ++ (str [32, 116, 111, 32])) ++ r11) ++ (str [44, 32, 108, 105, 110, 101, 32])) ++ m.Line) ++ (str [32, 114, 117, 110, 115, 32, 111, 110, 108, 121, 32, 97, 115, 32, 102, 97, 114, 32, 97, 115, 32])) ++ m.Stop).size + (str [46]).size ≤ 4294967296)).bind fun u43 =>
     some (((((((((str [70, 114, 111, 109, 32]) ++ r10) ++ (str [32, 116, 111, 32])) ++ r11) ++ (str [44, 32, 108, 105, 110, 101, 32])) ++ m.Line) ++ (str [32, 114, 117, 110, 115, 32, 111, 110, 108, 121, 32, 97, 115, 32, 102, 97, 114, 32, 97, 115, 32])) ++ m.Stop) ++ (str [46]))
    else
     (chk ((str [84, 104, 101, 32, 100, 101, 112, 97, 114, 116, 117, 114, 101, 32, 111, 102, 32, 108, 105, 110, 101, 32]).size + m.Line.size ≤ 4294967296)).bind fun u48 =>
     (chk (((str [84, 104, 101, 32, 100, 101, 112, 97, 114, 116, 117, 114, 101, 32, 111, 102, 32, 108, 105, 110, 101, 32]) ++ m.Line).size + (str [32, 97, 116, 32]).size ≤ 4294967296)).bind fun u49 =>
     (i_clockText m.From).bind fun r13 =>
     (chk ((((str [84, 104, 101, 32, 100, 101, 112, 97, 114, 116, 117, 114, 101, 32, 111, 102, 32, 108, 105, 110, 101, 32]) ++ m.Line) ++ (str [32, 97, 116, 32])).size + r13.size ≤ 4294967296)).bind fun u50 =>
     (chk (((((str [84, 104, 101, 32, 100, 101, 112, 97, 114, 116, 117, 114, 101, 32, 111, 102, 32, 108, 105, 110, 101, 32]) ++ m.Line) ++ (str [32, 97, 116, 32])) ++ r13).size + (str [32, 105, 115, 32, 101, 120, 112, 101, 99, 116, 101, 100, 32, 116, 111, 32, 98, 101, 32, 99, 114, 111, 119, 100, 101, 100, 46]).size ≤ 4294967296)).bind fun u51 =>
     some (((((str [84, 104, 101, 32, 100, 101, 112, 97, 114, 116, 117, 114, 101, 32, 111, 102, 32, 108, 105, 110, 101, 32]) ++ m.Line) ++ (str [32, 97, 116, 32])) ++ r13) ++ (str [32, 105, 115, 32, 101, 120, 112, 101, 99, 116, 101, 100, 32, 116, 111, 32, 98, 101, 32, 99, 114, 111, 119, 100, 101, 100, 46]))
noncomputable def i_MessageText (m : Message) : Option (ByteArray × Bool) :=
 (i_IsValidMessage m).bind fun r =>
 if (!r) = true then
  some ((str []), false)
 else
  (i_messageText m).bind fun r1 =>
  some (r1, true)
noncomputable def s_l1In (x : Int) (a : Int) (b : Int) : Option (Bool) :=
 (if (decide (a ≤ x)) = true then some (decide (x ≤ b)) else some false).bind fun (v : Bool) =>
 some v
noncomputable def s_l2Name_L1 (s : ByteArray) : Int → Option (Lp (Int) (Fl (Bool) (Unit)))
 | v1 =>
  if (decide (v1 < (s.size : Int))) = true then
   (chk ((0 : Int) ≤ v1 ∧ v1 < (s.size : Int))).bind fun u2 =>
   (if (decide (((s.data.toList.getD v1.toNat 0).toNat : Int) < 97)) = true then (chk ((0 : Int) ≤ v1 ∧ v1 < (s.size : Int))).bind fun u3 =>
   if (decide (((s.data.toList.getD v1.toNat 0).toNat : Int) < 48)) = true then some true else (chk ((0 : Int) ≤ v1 ∧ v1 < (s.size : Int))).bind fun u4 =>
   some (decide (57 < ((s.data.toList.getD v1.toNat 0).toNat : Int))) else (chk ((0 : Int) ≤ v1 ∧ v1 < (s.size : Int))).bind fun u5 =>
   if (decide (122 < ((s.data.toList.getD v1.toNat 0).toNat : Int))) = true then (chk ((0 : Int) ≤ v1 ∧ v1 < (s.size : Int))).bind fun u6 =>
   if (decide (((s.data.toList.getD v1.toNat 0).toNat : Int) < 48)) = true then some true else (chk ((0 : Int) ≤ v1 ∧ v1 < (s.size : Int))).bind fun u7 =>
   some (decide (57 < ((s.data.toList.getD v1.toNat 0).toNat : Int))) else some false).bind fun (v2 : Bool) =>
   if v2 = true then
    some (.dn (.ret false))
   else
    some (.nx (w64 (v1 + 1)))
  else
   some (.dn (.go ()))
noncomputable def s_l2Name (s : ByteArray) : Option (Bool) :=
 (s_l1In (s.size : Int) 1 8).bind fun r =>
 (if (!r) = true then some true else (chk ((0 : Int) ≤ 0 ∧ 0 < (s.size : Int))).bind fun u =>
 if (decide (((s.data.toList.getD (0 : Int).toNat 0).toNat : Int) < 97)) = true then some true else (chk ((0 : Int) ≤ 0 ∧ 0 < (s.size : Int))).bind fun u1 =>
 some (decide (122 < ((s.data.toList.getD (0 : Int).toNat 0).toNat : Int)))).bind fun (v : Bool) =>
 if v = true then
  some false
 else
  flb (iter (s_l2Name_L1 s) (0 : Int)) fun (_ : Unit) =>
  some true
noncomputable def s_l4Time (t : Int) : Option (Bool) :=
 (s_l1In t 0 1799).bind fun r =>
 some r
noncomputable def s_l24Good (m : Message) : Option (Bool) :=
 if (m.Kind == 1) = true then
  (if ((m.Kind == m.Kind) && ((m.Line.toList == m.Line.toList) && ((m.Stop.toList == ByteArray.empty.toList) && ((m.From == 0) && ((m.To == 0) && ((m.Minutes == m.Minutes) && true)))))) = true then (s_l2Name m.Line).bind fun r =>
  if r = true then (s_l1In m.Minutes 1 600).bind fun r1 =>
  some r1 else some false else some false).bind fun (x : Bool) =>
  some x
 else
  (if (m.Kind == 2) = true then
   some (m.Kind == 2)
  else
   some (m.Kind == 5)).bind fun (v : Bool) =>
  if v = true then
   (if ((m.Kind == m.Kind) && ((m.Line.toList == m.Line.toList) && ((m.Stop.toList == ByteArray.empty.toList) && ((m.From == m.From) && ((m.To == 0) && ((m.Minutes == 0) && true)))))) = true then (s_l2Name m.Line).bind fun r2 =>
   if r2 = true then (s_l4Time m.From).bind fun r3 =>
   some r3 else some false else some false).bind fun (x1 : Bool) =>
   some x1
  else
   if (m.Kind == 3) = true then
    (if (m.Line.toList == (str []).toList) = true then if (m.Minutes == 0) = true then (s_l2Name m.Stop).bind fun r4 =>
    if r4 = true then (s_l4Time m.From).bind fun r5 =>
    if r5 = true then (s_l4Time m.To).bind fun r6 =>
    if r6 = true then some (decide (m.From ≤ m.To)) else some false else some false else some false else some false else some false).bind fun (x2 : Bool) =>
    some x2
   else
    if (m.Kind == 4) = true then
     (if (m.Minutes == 0) = true then (s_l2Name m.Line).bind fun r7 =>
     if r7 = true then (s_l2Name m.Stop).bind fun r8 =>
     if r8 = true then (s_l4Time m.From).bind fun r9 =>
     if r9 = true then (s_l4Time m.To).bind fun r10 =>
     if r10 = true then some (decide (m.From ≤ m.To)) else some false else some false else some false else some false else some false).bind fun (x3 : Bool) =>
     some x3
    else
     some false
noncomputable def s_l1Num_F (rec_ : Int → Option (ByteArray)) (n : Int) : Option (ByteArray) :=
 if (decide (n < 0)) = true then
  (rec_ (w64 (0 - n))).bind fun r =>
  (chk ((str [45]).size + r.size ≤ 4294967296)).bind fun u =>
  some ((str [45]) ++ r)
 else
  if (decide (n < 10)) = true then
   (chk ((0 : Int) ≤ n ∧ (n : Int) ≤ (w64 (n + 1)) ∧ (w64 (n + 1)) ≤ ((str [48, 49, 50, 51, 52, 53, 54, 55, 56, 57]).size : Int))).bind fun u1 =>
   some ((str [48, 49, 50, 51, 52, 53, 54, 55, 56, 57]).extract n.toNat (w64 (n + 1)).toNat)
  else
   (chk ((10 : Int) ≠ 0)).bind fun u7 =>
   (rec_ (w64 (n.tdiv 10))).bind fun r2 =>
   (chk ((10 : Int) ≠ 0)).bind fun u8 =>
   (chk ((10 : Int) ≠ 0)).bind fun u9 =>
   (chk ((0 : Int) ≤ (n.tmod 10) ∧ ((n.tmod 10) : Int) ≤ (w64 ((n.tmod 10) + 1)) ∧ (w64 ((n.tmod 10) + 1)) ≤ ((str [48, 49, 50, 51, 52, 53, 54, 55, 56, 57]).size : Int))).bind fun u10 =>
   (chk (r2.size + ((str [48, 49, 50, 51, 52, 53, 54, 55, 56, 57]).extract (n.tmod 10).toNat (w64 ((n.tmod 10) + 1)).toNat).size ≤ 4294967296)).bind fun u11 =>
   some (r2 ++ ((str [48, 49, 50, 51, 52, 53, 54, 55, 56, 57]).extract (n.tmod 10).toNat (w64 ((n.tmod 10) + 1)).toNat))
noncomputable def s_l1Num_k : Nat → Int → Option (ByteArray)
 | 0 => fun _ => none
 | n + 1 => s_l1Num_F (s_l1Num_k n)
noncomputable def s_l1Num (n : Int) : Option (ByteArray) := s_l1Num_k 4294967296 n
noncomputable def s_l4Two (n : Int) : Option (ByteArray) :=
 (chk ((10 : Int) ≠ 0)).bind fun u7 =>
 (chk ((10 : Int) ≠ 0)).bind fun u8 =>
 (chk ((0 : Int) ≤ (w64 (n.tdiv 10)) ∧ ((w64 (n.tdiv 10)) : Int) ≤ (w64 ((w64 (n.tdiv 10)) + 1)) ∧ (w64 ((w64 (n.tdiv 10)) + 1)) ≤ ((str [48, 49, 50, 51, 52, 53, 54, 55, 56, 57]).size : Int))).bind fun u9 =>
 (chk ((10 : Int) ≠ 0)).bind fun u10 =>
 (chk ((10 : Int) ≠ 0)).bind fun u11 =>
 (chk ((0 : Int) ≤ (n.tmod 10) ∧ ((n.tmod 10) : Int) ≤ (w64 ((n.tmod 10) + 1)) ∧ (w64 ((n.tmod 10) + 1)) ≤ ((str [48, 49, 50, 51, 52, 53, 54, 55, 56, 57]).size : Int))).bind fun u12 =>
 (chk (((str [48, 49, 50, 51, 52, 53, 54, 55, 56, 57]).extract (w64 (n.tdiv 10)).toNat (w64 ((w64 (n.tdiv 10)) + 1)).toNat).size + ((str [48, 49, 50, 51, 52, 53, 54, 55, 56, 57]).extract (n.tmod 10).toNat (w64 ((n.tmod 10) + 1)).toNat).size ≤ 4294967296)).bind fun u13 =>
 some (((str [48, 49, 50, 51, 52, 53, 54, 55, 56, 57]).extract (w64 (n.tdiv 10)).toNat (w64 ((w64 (n.tdiv 10)) + 1)).toNat) ++ ((str [48, 49, 50, 51, 52, 53, 54, 55, 56, 57]).extract (n.tmod 10).toNat (w64 ((n.tmod 10) + 1)).toNat))
noncomputable def s_l4Text (t : Int) : Option (ByteArray) :=
 (chk ((60 : Int) ≠ 0)).bind fun u =>
 (s_l4Two (w64 (t.tdiv 60))).bind fun r =>
 (chk (r.size + (str [58]).size ≤ 4294967296)).bind fun u1 =>
 (chk ((60 : Int) ≠ 0)).bind fun u2 =>
 (s_l4Two (t.tmod 60)).bind fun r1 =>
 (chk ((r ++ (str [58])).size + r1.size ≤ 4294967296)).bind fun u3 =>
 some ((r ++ (str [58])) ++ r1)
noncomputable def s_l24Text (m : Message) : Option (ByteArray) :=
 if (m.Kind == 1) = true then
  if (m.Minutes == 1) = true then
   (chk ((str [76, 105, 110, 101, 32]).size + m.Line.size ≤ 4294967296)).bind fun u =>
   (chk (((str [76, 105, 110, 101, 32]) ++ m.Line).size + (str [32, 105, 115, 32, 100, 101, 108, 97, 121, 101, 100, 32, 98, 121, 32, 49, 32, 109, 105, 110, 117, 116, 101, 46]).size ≤ 4294967296)).bind fun u1 =>
   some (((str [76, 105, 110, 101, 32]) ++ m.Line) ++ (str [32, 105, 115, 32, 100, 101, 108, 97, 121, 101, 100, 32, 98, 121, 32, 49, 32, 109, 105, 110, 117, 116, 101, 46]))
  else
   (chk ((str [76, 105, 110, 101, 32]).size + m.Line.size ≤ 4294967296)).bind fun u6 =>
   (chk (((str [76, 105, 110, 101, 32]) ++ m.Line).size + (str [32, 105, 115, 32, 100, 101, 108, 97, 121, 101, 100, 32, 98, 121, 32]).size ≤ 4294967296)).bind fun u7 =>
   (s_l1Num m.Minutes).bind fun r1 =>
   (chk ((((str [76, 105, 110, 101, 32]) ++ m.Line) ++ (str [32, 105, 115, 32, 100, 101, 108, 97, 121, 101, 100, 32, 98, 121, 32])).size + r1.size ≤ 4294967296)).bind fun u8 =>
   (chk (((((str [76, 105, 110, 101, 32]) ++ m.Line) ++ (str [32, 105, 115, 32, 100, 101, 108, 97, 121, 101, 100, 32, 98, 121, 32])) ++ r1).size + (str [32, 109, 105, 110, 117, 116, 101, 115, 46]).size ≤ 4294967296)).bind fun u9 =>
   some (((((str [76, 105, 110, 101, 32]) ++ m.Line) ++ (str [32, 105, 115, 32, 100, 101, 108, 97, 121, 101, 100, 32, 98, 121, 32])) ++ r1) ++ (str [32, 109, 105, 110, 117, 116, 101, 115, 46]))
 else
  if (m.Kind == 2) = true then
   (chk ((str [84, 104, 101, 32, 100, 101, 112, 97, 114, 116, 117, 114, 101, 32, 111, 102, 32, 108, 105, 110, 101, 32]).size + m.Line.size ≤ 4294967296)).bind fun u14 =>
   (chk (((str [84, 104, 101, 32, 100, 101, 112, 97, 114, 116, 117, 114, 101, 32, 111, 102, 32, 108, 105, 110, 101, 32]) ++ m.Line).size + (str [32, 97, 116, 32]).size ≤ 4294967296)).bind fun u15 =>
   (s_l4Text m.From).bind fun r3 =>
   (chk ((((str [84, 104, 101, 32, 100, 101, 112, 97, 114, 116, 117, 114, 101, 32, 111, 102, 32, 108, 105, 110, 101, 32]) ++ m.Line) ++ (str [32, 97, 116, 32])).size + r3.size ≤ 4294967296)).bind fun u16 =>
   (chk (((((str [84, 104, 101, 32, 100, 101, 112, 97, 114, 116, 117, 114, 101, 32, 111, 102, 32, 108, 105, 110, 101, 32]) ++ m.Line) ++ (str [32, 97, 116, 32])) ++ r3).size + (str [32, 105, 115, 32, 99, 97, 110, 99, 101, 108, 108, 101, 100, 46]).size ≤ 4294967296)).bind fun u17 =>
   some (((((str [84, 104, 101, 32, 100, 101, 112, 97, 114, 116, 117, 114, 101, 32, 111, 102, 32, 108, 105, 110, 101, 32]) ++ m.Line) ++ (str [32, 97, 116, 32])) ++ r3) ++ (str [32, 105, 115, 32, 99, 97, 110, 99, 101, 108, 108, 101, 100, 46]))
  else
   if (m.Kind == 3) = true then
    (chk ((str [84, 104, 101, 32, 115, 116, 111, 112, 32]).size + m.Stop.size ≤ 4294967296)).bind fun u24 =>
    (chk (((str [84, 104, 101, 32, 115, 116, 111, 112, 32]) ++ m.Stop).size + (str [32, 105, 115, 32, 99, 108, 111, 115, 101, 100, 32, 102, 114, 111, 109, 32]).size ≤ 4294967296)).bind fun u25 =>
    (s_l4Text m.From).bind fun r6 =>
    (chk ((((str [84, 104, 101, 32, 115, 116, 111, 112, 32]) ++ m.Stop) ++ (str [32, 105, 115, 32, 99, 108, 111, 115, 101, 100, 32, 102, 114, 111, 109, 32])).size + r6.size ≤ 4294967296)).bind fun u26 =>
    (chk (((((str [84, 104, 101, 32, 115, 116, 111, 112, 32]) ++ m.Stop) ++ (str [32, 105, 115, 32, 99, 108, 111, 115, 101, 100, 32, 102, 114, 111, 109, 32])) ++ r6).size + (str [32, 116, 111, 32]).size ≤ 4294967296)).bind fun u27 =>
    (s_l4Text m.To).bind fun r7 =>
    (chk ((((((str [84, 104, 101, 32, 115, 116, 111, 112, 32]) ++ m.Stop) ++ (str [32, 105, 115, 32, 99, 108, 111, 115, 101, 100, 32, 102, 114, 111, 109, 32])) ++ r6) ++ (str [32, 116, 111, 32])).size + r7.size ≤ 4294967296)).bind fun u28 =>
    (chk (((((((str [84, 104, 101, 32, 115, 116, 111, 112, 32]) ++ m.Stop) ++ (str [32, 105, 115, 32, 99, 108, 111, 115, 101, 100, 32, 102, 114, 111, 109, 32])) ++ r6) ++ (str [32, 116, 111, 32])) ++ r7).size + (str [46]).size ≤ 4294967296)).bind fun u29 =>
    some (((((((str [84, 104, 101, 32, 115, 116, 111, 112, 32]) ++ m.Stop) ++ (str [32, 105, 115, 32, 99, 108, 111, 115, 101, 100, 32, 102, 114, 111, 109, 32])) ++ r6) ++ (str [32, 116, 111, 32])) ++ r7) ++ (str [46]))
   else
    if (m.Kind == 4) = true then
     (s_l4Text m.From).bind fun r10 =>
     (chk ((str [70, 114, 111, 109, 32]).size + r10.size ≤ 4294967296)).bind fun u38 =>
     (chk (((str [70, 114, 111, 109, 32]) ++ r10).size + (str [32, 116, 111, 32]).size ≤ 4294967296)).bind fun u39 =>
     (s_l4Text m.To).bind fun r11 =>
     (chk ((((str [70, 114, 111, 109, 32]) ++ r10) ++ (str [32, 116, 111, 32])).size + r11.size ≤ 4294967296)).bind fun u40 =>
     (chk (((((str [70, 114, 111, 109, 32]) ++ r10) ++ (str [32, 116, 111, 32])) ++ r11).size + (str [44, 32, 108, 105, 110, 101, 32]).size ≤ 4294967296)).bind fun u41 =>
     (chk ((((((str [70, 114, 111, 109, 32]) ++ r10) ++ (str [32, 116, 111, 32])) ++ r11) ++ (str [44, 32, 108, 105, 110, 101, 32])).size + m.Line.size ≤ 4294967296)).bind fun u42 =>
     (chk (((((((str [70, 114, 111, 109, 32]) ++ r10) ++ (str [32, 116, 111, 32])) ++ r11) ++ (str [44, 32, 108, 105, 110, 101, 32])) ++ m.Line).size + (str [32, 114, 117, 110, 115, 32, 111, 110, 108, 121, 32, 97, 115, 32, 102, 97, 114, 32, 97, 115, 32]).size ≤ 4294967296)).bind fun u43 =>
     (chk ((((((((str [70, 114, 111, 109, 32]) ++ r10) ++ (str [32, 116, 111, 32])) ++ r11) ++ (str [44, 32, 108, 105, 110, 101, 32])) ++ m.Line) ++ (str [32, 114, 117, 110, 115, 32, 111, 110, 108, 121, 32, 97, 115, 32, 102, 97, 114, 32, 97, 115, 32])).size + m.Stop.size ≤ 4294967296)).bind fun u44 =>
     (chk (((((((((str [70, 114, 111, 109, 32]) ++ r10) ++ (str [32, 116, 111, 32])) ++ r11) ++ (str [44, 32, 108, 105, 110, 101, 32])) ++ m.Line) ++ (str [32, 114, 117, 110, 115, 32, 111, 110, 108, 121, 32, 97, 115, 32, 102, 97, 114, 32, 97, 115, 32])) ++ m.Stop).size + (str [46]).size ≤ 4294967296)).bind fun u45 =>
     some (((((((((str [70, 114, 111, 109, 32]) ++ r10) ++ (str [32, 116, 111, 32])) ++ r11) ++ (str [44, 32, 108, 105, 110, 101, 32])) ++ m.Line) ++ (str [32, 114, 117, 110, 115, 32, 111, 110, 108, 121, 32, 97, 115, 32, 102, 97, 114, 32, 97, 115, 32])) ++ m.Stop) ++ (str [46]))
    else
     (chk ((str [84, 104, 101, 32, 100, 101, 112, 97, 114, 116, 117, 114, 101, 32, 111, 102, 32, 108, 105, 110, 101, 32]).size + m.Line.size ≤ 4294967296)).bind fun u50 =>
     (chk (((str [84, 104, 101, 32, 100, 101, 112, 97, 114, 116, 117, 114, 101, 32, 111, 102, 32, 108, 105, 110, 101, 32]) ++ m.Line).size + (str [32, 97, 116, 32]).size ≤ 4294967296)).bind fun u51 =>
     (s_l4Text m.From).bind fun r13 =>
     (chk ((((str [84, 104, 101, 32, 100, 101, 112, 97, 114, 116, 117, 114, 101, 32, 111, 102, 32, 108, 105, 110, 101, 32]) ++ m.Line) ++ (str [32, 97, 116, 32])).size + r13.size ≤ 4294967296)).bind fun u52 =>
     (chk (((((str [84, 104, 101, 32, 100, 101, 112, 97, 114, 116, 117, 114, 101, 32, 111, 102, 32, 108, 105, 110, 101, 32]) ++ m.Line) ++ (str [32, 97, 116, 32])) ++ r13).size + (str [32, 105, 115, 32, 101, 120, 112, 101, 99, 116, 101, 100, 32, 116, 111, 32, 98, 101, 32, 99, 114, 111, 119, 100, 101, 100, 46]).size ≤ 4294967296)).bind fun u53 =>
     some (((((str [84, 104, 101, 32, 100, 101, 112, 97, 114, 116, 117, 114, 101, 32, 111, 102, 32, 108, 105, 110, 101, 32]) ++ m.Line) ++ (str [32, 97, 116, 32])) ++ r13) ++ (str [32, 105, 115, 32, 101, 120, 112, 101, 99, 116, 101, 100, 32, 116, 111, 32, 98, 101, 32, 99, 114, 111, 119, 100, 101, 100, 46]))
noncomputable def s_MessageText (m : Message) : Option (ByteArray × Bool) :=
 (s_l24Good m).bind fun r =>
 if (!r) = true then
  some ((str []), false)
 else
  (s_l24Text m).bind fun r1 =>
  some (r1, true)
noncomputable def strings_Split (s : ByteArray) (sep : ByteArray) : Option ((List ByteArray)) :=
 splitM s sep
noncomputable def strings_Cut (s : ByteArray) (sep : ByteArray) : Option (ByteArray × ByteArray × Bool) :=
 cutM s sep
noncomputable def strings_CutPrefix (s : ByteArray) (prefix_ : ByteArray) : Option (ByteArray × Bool) :=
 cutPrefixM s prefix_
noncomputable def strings_CutSuffix (s : ByteArray) (suffix : ByteArray) : Option (ByteArray × Bool) :=
 cutSuffixM s suffix
noncomputable def i_fields_L1 (r : (List ByteArray)) (r1 : (List ByteArray)) : Int × (List ByteArray) → Option (Lp (Int × (List ByteArray)) (Fl ((List ByteArray) × Bool) ((List ByteArray))))
 | (v, p) =>
  if (decide (v < (r1.length : Int))) = true then
   flb ((idx r1 v).bind fun e =>
   (strings_Cut e (str [42])).bind fun r2 =>
   (idx r v).bind fun e1 =>
   (if (!r2.2.2) = true then some (!(e1.toList == e.toList)) else some false).bind fun (v1 : Bool) =>
   if v1 = true then
    some (.ret (.dn (.ret (([] : List ByteArray), false))))
   else
    if r2.2.2 = true then
     (strings_CutPrefix e1 r2.1).bind fun r5 =>
     (strings_CutSuffix r5.1 r2.2.1).bind fun r6 =>
     (if (!r5.2) = true then some true else some (!r6.2)).bind fun (v2 : Bool) =>
     if v2 = true then
      some (.ret (.dn (.ret (([] : List ByteArray), false))))
     else
      (chk (p.length + ([r6.1] : List ByteArray).length ≤ 4294967296)).bind fun u =>
      some (.go (p ++ ([r6.1] : List ByteArray)))
    else
     some (.go p)) fun (p1 : List ByteArray) =>
   some (.nx ((w64 (v + 1)), p1))
  else
   some (.dn (.go p))
noncomputable def i_fields (s : ByteArray) (pattern : ByteArray) : Option ((List ByteArray) × Bool) :=
 (strings_Split s (str [32])).bind fun r =>
 (strings_Split pattern (str [32])).bind fun r1 =>
 if ((r.length : Int) != (r1.length : Int)) = true then
  some (([] : List ByteArray), false)
 else
  flb (iter (i_fields_L1 r r1) ((0 : Int), ([] : List ByteArray))) fun (p2 : List ByteArray) =>
  some (p2, true)
noncomputable def i_natural_L1 (s : ByteArray) : Int × Int → Option (Lp (Int × Int) (Fl (Int × ByteArray × Bool) (Int × Int)))
 | (i, v) =>
  (if (decide (v < (s.size : Int))) = true then (chk ((0 : Int) ≤ v ∧ v < (s.size : Int))).bind fun u =>
  if (decide (48 ≤ ((s.data.toList.getD v.toNat 0).toNat : Int))) = true then (chk ((0 : Int) ≤ v ∧ v < (s.size : Int))).bind fun u1 =>
  some (decide (((s.data.toList.getD v.toNat 0).toNat : Int) ≤ 57)) else some false else some false).bind fun (v1 : Bool) =>
  if v1 = true then
   (if (v == 6) = true then some true else if (v == 1) = true then some (i == 0) else some false).bind fun (v2 : Bool) =>
   if v2 = true then
    some (.dn (.ret (0, (str []), false)))
   else
    (chk ((0 : Int) ≤ v ∧ v < (s.size : Int))).bind fun u2 =>
    some (.nx ((w64 ((w64 (i * 10)) + (w64 ((IntKind.u8.wrap (((s.data.toList.getD v.toNat 0).toNat : Int) - 48)))))), (w64 (v + 1))))
  else
   some (.dn (.go (i, v)))
noncomputable def i_natural (s : ByteArray) : Option (Int × ByteArray × Bool) :=
 flb (iter (i_natural_L1 s) ((0 : Int), (0 : Int))) fun ((i1, v3) : Int × Int) =>
 (chk ((0 : Int) ≤ v3 ∧ v3 ≤ (s.size : Int))).bind fun u4 =>
 some (i1, (s.extract v3.toNat s.size), (decide (0 < v3)))
noncomputable def i_ParseInt (s : ByteArray) : Option (Int × Bool) :=
 (strings_CutPrefix s (str [45])).bind fun r =>
 (i_natural r.1).bind fun r1 =>
 (if (!r1.2.2) = true then some true else if (!(r1.2.1.toList == (str []).toList)) = true then some true else if r.2 = true then some (r1.1 == 0) else some false).bind fun (v : Bool) =>
 if v = true then
  some (0, false)
 else
  (if r.2 = true then
   some (w64 (0 - r1.1))
  else
   some r1.1).bind fun (rest : Int) =>
  some (rest, true)
noncomputable def i_ParseTime_L1 (s : ByteArray) : Int → Option (Lp (Int) (Fl (Int × Bool) (Unit)))
 | v1 =>
  if (decide (v1 < 4)) = true then
   (chk ((0 : Int) ≤ v1 ∧ (v1 : Int) < 4)).bind fun u1 =>
   (idx ([0, 1, 3, 4] : List Int) v1).bind fun e =>
   (chk ((0 : Int) ≤ e ∧ e < (s.size : Int))).bind fun u2 =>
   (if (decide (((s.data.toList.getD e.toNat 0).toNat : Int) < 48)) = true then some true else (chk ((0 : Int) ≤ e ∧ e < (s.size : Int))).bind fun u3 =>
   some (decide (57 < ((s.data.toList.getD e.toNat 0).toNat : Int)))).bind fun (v2 : Bool) =>
   if v2 = true then
    some (.dn (.ret (0, false)))
   else
    some (.nx (w64 (v1 + 1)))
  else
   some (.dn (.go ()))
noncomputable def i_ParseTime (s : ByteArray) : Option (Int × Bool) :=
 (if ((s.size : Int) != 5) = true then some true else (chk ((0 : Int) ≤ 2 ∧ 2 < (s.size : Int))).bind fun u =>
 some (((s.data.toList.getD (2 : Int).toNat 0).toNat : Int) != 58)).bind fun (v : Bool) =>
 if v = true then
  some (0, false)
 else
  flb (iter (i_ParseTime_L1 s) (0 : Int)) fun (_ : Unit) =>
  (chk ((0 : Int) ≤ 0 ∧ 0 < (s.size : Int))).bind fun u8 =>
  (chk ((0 : Int) ≤ 1 ∧ 1 < (s.size : Int))).bind fun u9 =>
  (chk ((0 : Int) ≤ 3 ∧ 3 < (s.size : Int))).bind fun u10 =>
  (chk ((0 : Int) ≤ 4 ∧ 4 < (s.size : Int))).bind fun u11 =>
  (chk ((0 : Int) ≤ 3 ∧ 3 < (s.size : Int))).bind fun u12 =>
  (if (decide (53 < ((s.data.toList.getD (3 : Int).toNat 0).toNat : Int))) = true then some true else (i_IsValidTime (w64 ((w64 ((w64 ((w64 ((w64 ((w64 ((IntKind.u8.wrap (((s.data.toList.getD (0 : Int).toNat 0).toNat : Int) - 48)))) * 10)) + (w64 ((IntKind.u8.wrap (((s.data.toList.getD (1 : Int).toNat 0).toNat : Int) - 48)))))) * 60)) + (w64 ((w64 ((IntKind.u8.wrap (((s.data.toList.getD (3 : Int).toNat 0).toNat : Int) - 48)))) * 10)))) + (w64 ((IntKind.u8.wrap (((s.data.toList.getD (4 : Int).toNat 0).toNat : Int) - 48))))))).bind fun r1 =>
  some (!r1)).bind fun (v3 : Bool) =>
  if v3 = true then
   some (0, false)
  else
   some ((w64 ((w64 ((w64 ((w64 ((w64 ((w64 ((IntKind.u8.wrap (((s.data.toList.getD (0 : Int).toNat 0).toNat : Int) - 48)))) * 10)) + (w64 ((IntKind.u8.wrap (((s.data.toList.getD (1 : Int).toNat 0).toNat : Int) - 48)))))) * 60)) + (w64 ((w64 ((IntKind.u8.wrap (((s.data.toList.getD (3 : Int).toNat 0).toNat : Int) - 48)))) * 10)))) + (w64 ((IntKind.u8.wrap (((s.data.toList.getD (4 : Int).toNat 0).toNat : Int) - 48)))))), true)
noncomputable def i_parseMessage (s : ByteArray) : Option (Message) :=
 (i_fields s (str [76, 105, 110, 101, 32, 42, 32, 105, 115, 32, 100, 101, 108, 97, 121, 101, 100, 32, 98, 121, 32, 42, 32, 42, 46])).bind fun r =>
 if r.2 = true then
  (idx r.1 1).bind fun e =>
  (i_ParseInt e).bind fun r1 =>
  (idx r.1 0).bind fun e1 =>
  some (⟨1, e1, ByteArray.empty, 0, 0, r1.1⟩ : Message)
 else
  (i_fields s (str [84, 104, 101, 32, 100, 101, 112, 97, 114, 116, 117, 114, 101, 32, 111, 102, 32, 108, 105, 110, 101, 32, 42, 32, 97, 116, 32, 42, 32, 105, 115, 32, 99, 97, 110, 99, 101, 108, 108, 101, 100, 46])).bind fun r2 =>
  if r2.2 = true then
   (idx r2.1 1).bind fun e2 =>
   (i_ParseTime e2).bind fun r3 =>
   (idx r2.1 0).bind fun e3 =>
   some (⟨2, e3, ByteArray.empty, r3.1, 0, 0⟩ : Message)
  else
   (i_fields s (str [84, 104, 101, 32, 115, 116, 111, 112, 32, 42, 32, 105, 115, 32, 99, 108, 111, 115, 101, 100, 32, 102, 114, 111, 109, 32, 42, 32, 116, 111, 32, 42, 46])).bind fun r4 =>
   if r4.2 = true then
    (idx r4.1 1).bind fun e4 =>
    (i_ParseTime e4).bind fun r5 =>
    (idx r4.1 2).bind fun e5 =>
    (i_ParseTime e5).bind fun r6 =>
    (idx r4.1 0).bind fun e6 =>
    some (⟨3, ByteArray.empty, e6, r5.1, r6.1, 0⟩ : Message)
   else
    (i_fields s (str [70, 114, 111, 109, 32, 42, 32, 116, 111, 32, 42, 44, 32, 108, 105, 110, 101, 32, 42, 32, 114, 117, 110, 115, 32, 111, 110, 108, 121, 32, 97, 115, 32, 102, 97, 114, 32, 97, 115, 32, 42, 46])).bind fun r7 =>
    if r7.2 = true then
     (idx r7.1 0).bind fun e7 =>
     (i_ParseTime e7).bind fun r8 =>
     (idx r7.1 1).bind fun e8 =>
     (i_ParseTime e8).bind fun r9 =>
     (idx r7.1 2).bind fun e11 =>
     (idx r7.1 3).bind fun e12 =>
     some (⟨4, e11, e12, r8.1, r9.1, 0⟩ : Message)
    else
     (i_fields s (str [84, 104, 101, 32, 100, 101, 112, 97, 114, 116, 117, 114, 101, 32, 111, 102, 32, 108, 105, 110, 101, 32, 42, 32, 97, 116, 32, 42, 32, 105, 115, 32, 101, 120, 112, 101, 99, 116, 101, 100, 32, 116, 111, 32, 98, 101, 32, 99, 114, 111, 119, 100, 101, 100, 46])).bind fun r10 =>
     if r10.2 = true then
      (idx r10.1 1).bind fun e13 =>
      (i_ParseTime e13).bind fun r11 =>
      (idx r10.1 0).bind fun e14 =>
      some (⟨5, e14, ByteArray.empty, r11.1, 0, 0⟩ : Message)
     else
      some (⟨0, ByteArray.empty, ByteArray.empty, 0, 0, 0⟩ : Message)
noncomputable def i_ParseMessage (s : ByteArray) : Option (Message × Bool) :=
 (i_parseMessage s).bind fun r =>
 (i_IsValidMessage r).bind fun r1 =>
 (if (!r1) = true then some true else (i_messageText r).bind fun r2 =>
 some (!(r2.toList == s.toList))).bind fun (v : Bool) =>
 if v = true then
  some ((⟨0, ByteArray.empty, ByteArray.empty, 0, 0, 0⟩ : Message), false)
 else
  some (r, true)
noncomputable def s_l1Cur_one (c : l1Cur) (n : Int) : Option (Bool × l1Cur) :=
 (s_l1Cur_pick c n).bind fun r =>
 some ((r.1 == 0), r.2)
noncomputable def s_l1Cur_spoilt (c : l1Cur) (t : ByteArray) (with_ : ByteArray) : Option (ByteArray × l1Cur) :=
 if (t.toList == (str []).toList) = true then
  (chk ((0 : Int) ≤ 0 ∧ (0 : Int) ≤ 1 ∧ 1 ≤ (with_.size : Int))).bind fun u =>
  some ((with_.extract (0 : Int).toNat (1 : Int).toNat), c)
 else
  (s_l1Cur_pick c (t.size : Int)).bind fun r =>
  (s_l1Cur_pick r.2 (with_.size : Int)).bind fun r1 =>
  (chk ((0 : Int) ≤ r1.1 ∧ r1.1 ≤ (with_.size : Int))).bind fun u1 =>
  (chk ((0 : Int) ≤ 0 ∧ (0 : Int) ≤ 1 ∧ 1 ≤ ((with_.extract r1.1.toNat with_.size).size : Int))).bind fun u2 =>
  (s_l1Cur_pick r1.2 3).bind fun r2 =>
  if (r2.1 == 0) = true then
   (chk ((0 : Int) ≤ 0 ∧ (0 : Int) ≤ r.1 ∧ r.1 ≤ (t.size : Int))).bind fun u7 =>
   (chk ((t.extract (0 : Int).toNat r.1.toNat).size + ((with_.extract r1.1.toNat with_.size).extract (0 : Int).toNat (1 : Int).toNat).size ≤ 4294967296)).bind fun u8 =>
   (chk ((0 : Int) ≤ r.1 ∧ r.1 ≤ (t.size : Int))).bind fun u9 =>
   (chk (((t.extract (0 : Int).toNat r.1.toNat) ++ ((with_.extract r1.1.toNat with_.size).extract (0 : Int).toNat (1 : Int).toNat)).size + (t.extract r.1.toNat t.size).size ≤ 4294967296)).bind fun u10 =>
   some ((((t.extract (0 : Int).toNat r.1.toNat) ++ ((with_.extract r1.1.toNat with_.size).extract (0 : Int).toNat (1 : Int).toNat)) ++ (t.extract r.1.toNat t.size)), r2.2)
  else
   if (r2.1 == 1) = true then
    (chk ((0 : Int) ≤ 0 ∧ (0 : Int) ≤ r.1 ∧ r.1 ≤ (t.size : Int))).bind fun u15 =>
    (chk ((t.extract (0 : Int).toNat r.1.toNat).size + ((with_.extract r1.1.toNat with_.size).extract (0 : Int).toNat (1 : Int).toNat).size ≤ 4294967296)).bind fun u16 =>
    (chk ((0 : Int) ≤ (w64 (r.1 + 1)) ∧ (w64 (r.1 + 1)) ≤ (t.size : Int))).bind fun u17 =>
    (chk (((t.extract (0 : Int).toNat r.1.toNat) ++ ((with_.extract r1.1.toNat with_.size).extract (0 : Int).toNat (1 : Int).toNat)).size + (t.extract (w64 (r.1 + 1)).toNat t.size).size ≤ 4294967296)).bind fun u18 =>
    some ((((t.extract (0 : Int).toNat r.1.toNat) ++ ((with_.extract r1.1.toNat with_.size).extract (0 : Int).toNat (1 : Int).toNat)) ++ (t.extract (w64 (r.1 + 1)).toNat t.size)), r2.2)
   else
    (chk ((0 : Int) ≤ 0 ∧ (0 : Int) ≤ r.1 ∧ r.1 ≤ (t.size : Int))).bind fun u22 =>
    (chk ((0 : Int) ≤ (w64 (r.1 + 1)) ∧ (w64 (r.1 + 1)) ≤ (t.size : Int))).bind fun u23 =>
    (chk ((t.extract (0 : Int).toNat r.1.toNat).size + (t.extract (w64 (r.1 + 1)).toNat t.size).size ≤ 4294967296)).bind fun u24 =>
    some (((t.extract (0 : Int).toNat r.1.toNat) ++ (t.extract (w64 (r.1 + 1)).toNat t.size)), r2.2)
noncomputable def s_DrawParseMessage (code : List UInt8) : Option (ByteArray) :=
 (s_l1Cur_message (⟨code, 0, (⟨0⟩ : IK .u64)⟩ : l1Cur)).bind fun r =>
 (s_l24Good r.1).bind fun r1 =>
 if (!r1) = true then
  some (str [76, 105, 110, 101, 32, 97, 32, 105, 115, 32, 100, 101, 108, 97, 121, 101, 100, 32, 98, 121, 32, 49, 32, 109, 105, 110, 117, 116, 101, 115, 46])
 else
  (s_l24Text r.1).bind fun r2 =>
  ((s_l1Cur_one r.2 3).bind fun r3 =>
  if r3.1 = true then
   (s_l1Cur_spoilt r3.2 r2 (str [46, 32, 49, 97, 58])).bind fun r4 =>
   some r4.1
  else
   some r2).bind fun (v : ByteArray) =>
  some v
noncomputable def s_l24Reader_take (r : l24Reader) (s : ByteArray) : Option (Bool × l24Reader) :=
 (if r.bad_ = true then some true else if (decide ((r.s_.size : Int) < (w64 (r.at_ + (s.size : Int))))) = true then some true else (chk ((0 : Int) ≤ r.at_ ∧ (r.at_ : Int) ≤ (w64 (r.at_ + (s.size : Int))) ∧ (w64 (r.at_ + (s.size : Int))) ≤ (r.s_.size : Int))).bind fun u1 =>
 some (!((r.s_.extract r.at_.toNat (w64 (r.at_ + (s.size : Int))).toNat).toList == s.toList))).bind fun (v : Bool) =>
 if v = true then
  some (false, r)
 else
  some (true, (⟨r.s_, (w64 (r.at_ + (s.size : Int))), r.bad_⟩ : l24Reader))
noncomputable def s_l24Reader_word_L1 (r : l24Reader) : Int → Option (Lp (Int) (Int))
 | v =>
  (if (decide (v < (r.s_.size : Int))) = true then (chk ((0 : Int) ≤ v ∧ v < (r.s_.size : Int))).bind fun u6 =>
  if (decide (97 ≤ ((r.s_.data.toList.getD v.toNat 0).toNat : Int))) = true then (chk ((0 : Int) ≤ v ∧ v < (r.s_.size : Int))).bind fun u7 =>
  if (decide (((r.s_.data.toList.getD v.toNat 0).toNat : Int) ≤ 122)) = true then some true else (chk ((0 : Int) ≤ v ∧ v < (r.s_.size : Int))).bind fun u8 =>
  if (decide (48 ≤ ((r.s_.data.toList.getD v.toNat 0).toNat : Int))) = true then (chk ((0 : Int) ≤ v ∧ v < (r.s_.size : Int))).bind fun u9 =>
  some (decide (((r.s_.data.toList.getD v.toNat 0).toNat : Int) ≤ 57)) else some false else (chk ((0 : Int) ≤ v ∧ v < (r.s_.size : Int))).bind fun u10 =>
  if (decide (48 ≤ ((r.s_.data.toList.getD v.toNat 0).toNat : Int))) = true then (chk ((0 : Int) ≤ v ∧ v < (r.s_.size : Int))).bind fun u11 =>
  some (decide (((r.s_.data.toList.getD v.toNat 0).toNat : Int) ≤ 57)) else some false else some false).bind fun (v1 : Bool) =>
  if v1 = true then
   some (.nx (w64 (v + 1)))
  else
   some (.dn v)
noncomputable def s_l24Reader_word (r : l24Reader) : Option (ByteArray × l24Reader) :=
 (iter (s_l24Reader_word_L1 r) r.at_).bind fun (v2 : Int) =>
 (chk ((0 : Int) ≤ r.at_ ∧ (r.at_ : Int) ≤ v2 ∧ v2 ≤ (r.s_.size : Int))).bind fun u13 =>
 some ((r.s_.extract r.at_.toNat v2.toNat), (⟨r.s_, v2, r.bad_⟩ : l24Reader))
noncomputable def s_l24Reader_want (r : l24Reader) (s : ByteArray) : Option (l24Reader) :=
 (s_l24Reader_take r s).bind fun r1 =>
 if (!r1.1) = true then
  some (⟨r1.2.s_, r1.2.at_, true⟩ : l24Reader)
 else
  some r1.2
noncomputable def s_l1Read_L1 (n : ByteArray) : Int × Int → Option (Lp (Int × Int) (Fl (Int × Bool) (Int)))
 | (i, v1) =>
  if (decide (v1 < (n.size : Int))) = true then
   (chk ((0 : Int) ≤ v1 ∧ v1 < (n.size : Int))).bind fun u2 =>
   (if (decide (((n.data.toList.getD v1.toNat 0).toNat : Int) < 48)) = true then some true else (chk ((0 : Int) ≤ v1 ∧ v1 < (n.size : Int))).bind fun u3 =>
   some (decide (57 < ((n.data.toList.getD v1.toNat 0).toNat : Int)))).bind fun (v2 : Bool) =>
   if v2 = true then
    some (.dn (.ret (0, false)))
   else
    (chk ((0 : Int) ≤ v1 ∧ v1 < (n.size : Int))).bind fun u4 =>
    some (.nx ((w64 ((w64 (10 * i)) + (w64 ((IntKind.u8.wrap (((n.data.toList.getD v1.toNat 0).toNat : Int) - 48)))))), (w64 (v1 + 1))))
  else
   some (.dn (.go i))
noncomputable def s_l1Read (s : ByteArray) : Option (Int × Bool) :=
 ((if (decide (1 < (s.size : Int))) = true then (chk ((0 : Int) ≤ 0 ∧ 0 < (s.size : Int))).bind fun u =>
 some (((s.data.toList.getD (0 : Int).toNat 0).toNat : Int) == 45) else some false).bind fun (v : Bool) =>
 if v = true then
  (chk ((0 : Int) ≤ 1 ∧ 1 ≤ (s.size : Int))).bind fun u1 =>
  some (s.extract (1 : Int).toNat s.size)
 else
  some s).bind fun (n : ByteArray) =>
 (s_l1In (n.size : Int) 1 6).bind fun r =>
 if (!r) = true then
  some (0, false)
 else
  flb (iter (s_l1Read_L1 n) ((0 : Int), (0 : Int))) fun (i1 : Int) =>
  (if (decide ((n.size : Int) < (s.size : Int))) = true then
   some (w64 (0 - i1))
  else
   some i1).bind fun (i2 : Int) =>
  (s_l1Num i2).bind fun r2 =>
  if (!(r2.toList == s.toList)) = true then
   some (0, false)
  else
   some (i2, true)
noncomputable def s_l4Parse (s : ByteArray) : Option (Int × Bool) :=
 if ((s.size : Int) != 5) = true then
  some (0, false)
 else
  (chk ((0 : Int) ≤ 0 ∧ 0 < (s.size : Int))).bind fun u4 =>
  (chk ((0 : Int) ≤ 1 ∧ 1 < (s.size : Int))).bind fun u5 =>
  (chk ((0 : Int) ≤ 3 ∧ 3 < (s.size : Int))).bind fun u6 =>
  (chk ((0 : Int) ≤ 4 ∧ 4 < (s.size : Int))).bind fun u7 =>
  (s_l4Time (w64 ((w64 ((w64 ((w64 ((w64 ((w64 ((w64 ((w64 ((w64 (((s.data.toList.getD (0 : Int).toNat 0).toNat : Int))) - 48)) * 10)) + (w64 (((s.data.toList.getD (1 : Int).toNat 0).toNat : Int))))) - 48)) * 60)) + (w64 ((w64 ((w64 (((s.data.toList.getD (3 : Int).toNat 0).toNat : Int))) - 48)) * 10)))) + (w64 (((s.data.toList.getD (4 : Int).toNat 0).toNat : Int))))) - 48))).bind fun r =>
  (if (!r) = true then some true else (s_l4Text (w64 ((w64 ((w64 ((w64 ((w64 ((w64 ((w64 ((w64 ((w64 (((s.data.toList.getD (0 : Int).toNat 0).toNat : Int))) - 48)) * 10)) + (w64 (((s.data.toList.getD (1 : Int).toNat 0).toNat : Int))))) - 48)) * 60)) + (w64 ((w64 ((w64 (((s.data.toList.getD (3 : Int).toNat 0).toNat : Int))) - 48)) * 10)))) + (w64 (((s.data.toList.getD (4 : Int).toNat 0).toNat : Int))))) - 48))).bind fun r1 =>
  some (!(r1.toList == s.toList))).bind fun (v : Bool) =>
  if v = true then
   some (0, false)
  else
   some ((w64 ((w64 ((w64 ((w64 ((w64 ((w64 ((w64 ((w64 ((w64 (((s.data.toList.getD (0 : Int).toNat 0).toNat : Int))) - 48)) * 10)) + (w64 (((s.data.toList.getD (1 : Int).toNat 0).toNat : Int))))) - 48)) * 60)) + (w64 ((w64 ((w64 (((s.data.toList.getD (3 : Int).toNat 0).toNat : Int))) - 48)) * 10)))) + (w64 (((s.data.toList.getD (4 : Int).toNat 0).toNat : Int))))) - 48)), true)
noncomputable def s_l24Reader_time (r : l24Reader) : Option (Int × l24Reader) :=
 (if r.bad_ = true then some true else some (decide ((r.s_.size : Int) < (w64 (r.at_ + 5))))).bind fun (v : Bool) =>
 if v = true then
  some (0, (⟨r.s_, r.at_, true⟩ : l24Reader))
 else
  (chk ((0 : Int) ≤ r.at_ ∧ (r.at_ : Int) ≤ (w64 (r.at_ + 5)) ∧ (w64 (r.at_ + 5)) ≤ (r.s_.size : Int))).bind fun u1 =>
  (s_l4Parse (r.s_.extract r.at_.toNat (w64 (r.at_ + 5)).toNat)).bind fun r2 =>
  some (r2.1, (⟨r.s_, (w64 (r.at_ + 5)), (!r2.2)⟩ : l24Reader))
noncomputable def s_l24Reader_sentence (r : l24Reader) : Option (Message × l24Reader) :=
 ((s_l24Reader_take r (str [76, 105, 110, 101, 32])).bind fun r1 =>
 if r1.1 = true then
  (s_l24Reader_word r1.2).bind fun r2 =>
  (s_l24Reader_want r2.2 (str [32, 105, 115, 32, 100, 101, 108, 97, 121, 101, 100, 32, 98, 121, 32])).bind fun r3 =>
  (s_l24Reader_word r3).bind fun r4 =>
  (s_l1Read r4.1).bind fun r5 =>
  (if r4.2.bad_ = true then some true else some (!r5.2)).bind fun (v9 : Bool) =>
  if (r5.1 == 1) = true then
   (s_l24Reader_want (⟨r4.2.s_, r4.2.at_, v9⟩ : l24Reader) (str [32, 109, 105, 110, 117, 116, 101, 46])).bind fun r6 =>
   some (r6.s_, r6.at_, r6.bad_, (1 : Int), r2.1, ByteArray.empty, (0 : Int), (0 : Int), r5.1)
  else
   (s_l24Reader_want (⟨r4.2.s_, r4.2.at_, v9⟩ : l24Reader) (str [32, 109, 105, 110, 117, 116, 101, 115, 46])).bind fun r7 =>
   some (r7.s_, r7.at_, r7.bad_, (1 : Int), r2.1, ByteArray.empty, (0 : Int), (0 : Int), r5.1)
 else
  (s_l24Reader_take r1.2 (str [84, 104, 101, 32, 115, 116, 111, 112, 32])).bind fun r8 =>
  if r8.1 = true then
   (s_l24Reader_word r8.2).bind fun r9 =>
   (s_l24Reader_want r9.2 (str [32, 105, 115, 32, 99, 108, 111, 115, 101, 100, 32, 102, 114, 111, 109, 32])).bind fun r10 =>
   (s_l24Reader_time r10).bind fun r11 =>
   (s_l24Reader_want r11.2 (str [32, 116, 111, 32])).bind fun r12 =>
   (s_l24Reader_time r12).bind fun r13 =>
   (s_l24Reader_want r13.2 (str [46])).bind fun r14 =>
   some (r14.s_, r14.at_, r14.bad_, (3 : Int), ByteArray.empty, r9.1, r11.1, r13.1, (0 : Int))
  else
   (s_l24Reader_take r8.2 (str [70, 114, 111, 109, 32])).bind fun r15 =>
   if r15.1 = true then
    (s_l24Reader_time r15.2).bind fun r16 =>
    (s_l24Reader_want r16.2 (str [32, 116, 111, 32])).bind fun r17 =>
    (s_l24Reader_time r17).bind fun r18 =>
    (s_l24Reader_want r18.2 (str [44, 32, 108, 105, 110, 101, 32])).bind fun r19 =>
    (s_l24Reader_word r19).bind fun r20 =>
    (s_l24Reader_want r20.2 (str [32, 114, 117, 110, 115, 32, 111, 110, 108, 121, 32, 97, 115, 32, 102, 97, 114, 32, 97, 115, 32])).bind fun r21 =>
    (s_l24Reader_word r21).bind fun r22 =>
    (s_l24Reader_want r22.2 (str [46])).bind fun r23 =>
    some (r23.s_, r23.at_, r23.bad_, (4 : Int), r20.1, r22.1, r16.1, r18.1, (0 : Int))
   else
    (s_l24Reader_want r15.2 (str [84, 104, 101, 32, 100, 101, 112, 97, 114, 116, 117, 114, 101, 32, 111, 102, 32, 108, 105, 110, 101, 32])).bind fun r24 =>
    (s_l24Reader_word r24).bind fun r25 =>
    (s_l24Reader_want r25.2 (str [32, 97, 116, 32])).bind fun r26 =>
    (s_l24Reader_time r26).bind fun r27 =>
    (s_l24Reader_take r27.2 (str [32, 105, 115, 32, 99, 97, 110, 99, 101, 108, 108, 101, 100, 46])).bind fun r28 =>
    if (!r28.1) = true then
     (s_l24Reader_want r28.2 (str [32, 105, 115, 32, 101, 120, 112, 101, 99, 116, 101, 100, 32, 116, 111, 32, 98, 101, 32, 99, 114, 111, 119, 100, 101, 100, 46])).bind fun r29 =>
     some (r29.s_, r29.at_, r29.bad_, (5 : Int), r25.1, ByteArray.empty, r27.1, (0 : Int), (0 : Int))
    else
     some (r28.2.s_, r28.2.at_, r28.2.bad_, (2 : Int), r25.1, ByteArray.empty, r27.1, (0 : Int), (0 : Int))).bind fun ((v, v1, v2, v3, v4, v5, v6, v7, v8) : ByteArray × Int × Bool × Int × ByteArray × ByteArray × Int × Int × Int) =>
 some ((⟨v3, v4, v5, v6, v7, v8⟩ : Message), (⟨v, v1, v2⟩ : l24Reader))
noncomputable def s_ParseMessage (s : ByteArray) : Option (Message × Bool) :=
 (s_l24Reader_sentence (⟨s, 0, false⟩ : l24Reader)).bind fun r =>
 (if r.2.bad_ = true then some true else if (r.2.at_ != (s.size : Int)) = true then some true else (s_l24Good r.1).bind fun r1 =>
 some (!r1)).bind fun (v : Bool) =>
 if v = true then
  some ((⟨0, ByteArray.empty, ByteArray.empty, 0, 0, 0⟩ : Message), false)
 else
  some (r.1, true)
noncomputable def s_l1Cur_notice_L1 : Int × (List UInt8) × Int × Int × (List Message) → Option (Lp (Int × (List UInt8) × Int × Int × (List Message)) ((List UInt8) × Int × Int × (List Message)))
 | (v, v1, v2, v3, n) =>
  if (decide (0 < v)) = true then
   (s_l1Cur_message (⟨v1, v2, (⟨v3⟩ : IK .u64)⟩ : l1Cur)).bind fun r1 =>
   (chk (n.length + ([r1.1] : List Message).length ≤ 4294967296)).bind fun u =>
   some (.nx ((w64 (v - 1)), r1.2.code_, r1.2.at_, r1.2.seed_.v, (n ++ ([r1.1] : List Message))))
  else
   some (.dn (v1, v2, v3, n))
noncomputable def s_l1Cur_notice_L2 : (List UInt8) × Int × Int × (List Message) → Option (Lp ((List UInt8) × Int × Int × (List Message)) ((List UInt8) × Int × Int × (List Message)))
 | (v10, v11, v12, n3) =>
  (s_l1Cur_pick (⟨v10, v11, (⟨v12⟩ : IK .u64)⟩ : l1Cur) 2).bind fun r3 =>
  if (decide ((n3.length : Int) < (w64 (10 + r3.1)))) = true then
   (chk (n3.length + ([(⟨1, (str [122]), ByteArray.empty, 0, 0, (w64 (2 + (n3.length : Int)))⟩ : Message)] : List Message).length ≤ 4294967296)).bind fun u1 =>
   some (.nx (r3.2.code_, r3.2.at_, r3.2.seed_.v, (n3 ++ ([(⟨1, (str [122]), ByteArray.empty, 0, 0, (w64 (2 + (n3.length : Int)))⟩ : Message)] : List Message))))
  else
   some (.dn (r3.2.code_, r3.2.at_, r3.2.seed_.v, n3))
noncomputable def s_l1Cur_notice (c : l1Cur) : Option ((List Message) × l1Cur) :=
 (s_l1Cur_pick c 5).bind fun r =>
 (iter (s_l1Cur_notice_L1) (r.1, r.2.code_, r.2.at_, r.2.seed_.v, ([] : List Message))).bind fun ((v4, v5, v6, n1) : (List UInt8) × Int × Int × (List Message)) =>
 ((s_l1Cur_one (⟨v4, v5, (⟨v6⟩ : IK .u64)⟩ : l1Cur) 40).bind fun r2 =>
 if r2.1 = true then
  (iter (s_l1Cur_notice_L2) (r2.2.code_, r2.2.at_, r2.2.seed_.v, n1)).bind fun ((v13, v14, v15, n4) : (List UInt8) × Int × Int × (List Message)) =>
  some (v13, v14, v15, n4)
 else
  some (r2.2.code_, r2.2.at_, r2.2.seed_.v, n1)).bind fun ((v7, v8, v9, n2) : (List UInt8) × Int × Int × (List Message)) =>
 some (n2, (⟨v7, v8, (⟨v9⟩ : IK .u64)⟩ : l1Cur))
noncomputable def s_DrawNoticeText (code : List UInt8) : Option ((List Message)) :=
 (s_l1Cur_notice (⟨code, 0, (⟨0⟩ : IK .u64)⟩ : l1Cur)).bind fun r =>
 some r.1
noncomputable def i_isNotice_1 (m : Message) : Option (Bool) :=
 (i_IsValidMessage m).bind fun r =>
 some (!r)
noncomputable def slices_IndexFunc_Message_L1 (s : List Message) (f : Message → Option (Bool)) : Int → Option (Lp (Int) (Fl (Int) (Unit)))
 | v =>
  if (decide (v < (s.length : Int))) = true then
   (idx s v).bind fun e =>
   (f e).bind fun r =>
   if r = true then
    some (.dn (.ret v))
   else
    some (.nx (w64 (v + 1)))
  else
   some (.dn (.go ()))
noncomputable def slices_IndexFunc_Message (s : List Message) (f : Message → Option (Bool)) : Option (Int) :=
 flb (iter (slices_IndexFunc_Message_L1 s f) (0 : Int)) fun (_ : Unit) =>
 some (-1)
noncomputable def slices_IndexFunc_Message__i_isNotice_1 (s : List Message) : Option (Int) :=
 slices_IndexFunc_Message s (fun (z0 : Message) => i_isNotice_1 z0)
noncomputable def slices_ContainsFunc_Message (s : List Message) (f : Message → Option (Bool)) : Option (Bool) :=
 (slices_IndexFunc_Message s f).bind fun r =>
 some (decide (0 ≤ r))
noncomputable def slices_ContainsFunc_Message__i_isNotice_1 (s : List Message) : Option (Bool) :=
 slices_ContainsFunc_Message s (fun (z0 : Message) => i_isNotice_1 z0)
noncomputable def i_isNotice (list : List Message) : Option (Bool) :=
 (if (decide ((list.length : Int) ≤ 10)) = true then (slices_ContainsFunc_Message__i_isNotice_1 list).bind fun r =>
 some (!r) else some false).bind fun (v : Bool) =>
 some v
noncomputable def strings_Join (elems : List ByteArray) (sep : ByteArray) : Option (ByteArray) :=
 joinM elems sep
noncomputable def i_NoticeText_L1 (list : List Message) : Int × (List ByteArray) → Option (Lp (Int × (List ByteArray)) ((List ByteArray)))
 | (v, i) =>
  if (decide (v < (list.length : Int))) = true then
   (idx list v).bind fun e =>
   (i_messageText e).bind fun r1 =>
   (idx i v).bind fun e1 =>
   some (.nx ((w64 (v + 1)), (i.set v.toNat r1)))
  else
   some (.dn i)
noncomputable def i_NoticeText (list : List Message) : Option (ByteArray × Bool) :=
 (i_isNotice list).bind fun r =>
 if (!r) = true then
  some ((str []), false)
 else
  (chk ((0 : Int) ≤ (list.length : Int) ∧ ((list.length : Int) : Int) ≤ 4294967296)).bind fun u =>
  (iter (i_NoticeText_L1 list) ((0 : Int), (List.replicate (list.length : Int).toNat (ByteArray.empty : ByteArray)))).bind fun (i1 : List ByteArray) =>
  (strings_Join i1 (str [32])).bind fun r2 =>
  some (r2, true)
noncomputable def s_l24Notice_L1 (list : List Message) : Int → Option (Lp (Int) (Fl (Bool) (Unit)))
 | v =>
  if (decide (v < (list.length : Int))) = true then
   (idx list v).bind fun e =>
   (s_l24Good e).bind fun r =>
   if (!r) = true then
    some (.dn (.ret false))
   else
    some (.nx (w64 (v + 1)))
  else
   some (.dn (.go ()))
noncomputable def s_l24Notice (list : List Message) : Option (Bool) :=
 flb (iter (s_l24Notice_L1 list) (0 : Int)) fun (_ : Unit) =>
 some (decide ((list.length : Int) ≤ 10))
noncomputable def s_NoticeText_L1 (list : List Message) : ByteArray × Int → Option (Lp (ByteArray × Int) (ByteArray))
 | (i, v) =>
  if (decide (v < (list.length : Int))) = true then
   (if (decide (0 < v)) = true then
    (chk (i.size + (str [32]).size ≤ 4294967296)).bind fun u =>
    some (i ++ (str [32]))
   else
    some i).bind fun (i1 : ByteArray) =>
   (idx list v).bind fun e =>
   (s_l24Text e).bind fun r1 =>
   (chk (i1.size + r1.size ≤ 4294967296)).bind fun u1 =>
   some (.nx ((i1 ++ r1), (w64 (v + 1))))
  else
   some (.dn i)
noncomputable def s_NoticeText (list : List Message) : Option (ByteArray × Bool) :=
 (s_l24Notice list).bind fun r =>
 if (!r) = true then
  some ((str []), false)
 else
  (iter (s_NoticeText_L1 list) ((str []), (0 : Int))).bind fun (i2 : ByteArray) =>
  some (i2, true)
noncomputable def strings_genSplit (s : ByteArray) (sep : ByteArray) (sepSave : Int) (n : Int) : Option ((List ByteArray)) :=
 genSplitM s sep sepSave n
noncomputable def strings_SplitAfterN (s : ByteArray) (sep : ByteArray) (n : Int) : Option ((List ByteArray)) :=
 (strings_genSplit s sep (sep.size : Int) n).bind fun r =>
 some r
noncomputable def i_ParseNotice_L1 (r : (List ByteArray)) : Int × (List Message) → Option (Lp (Int × (List Message)) (Fl ((List Message) × Bool) ((List Message))))
 | (v, i) =>
  if (decide (v < (r.length : Int))) = true then
   (idx r v).bind fun e =>
   (if (decide (v < (w64 ((r.length : Int) - 1)))) = true then
    (chk ((0 : Int) ≤ 0 ∧ (0 : Int) ≤ (w64 ((e.size : Int) - 1)) ∧ (w64 ((e.size : Int) - 1)) ≤ (e.size : Int))).bind fun u =>
    some (e.extract (0 : Int).toNat (w64 ((e.size : Int) - 1)).toNat)
   else
    some e).bind fun (m : ByteArray) =>
   (i_ParseMessage m).bind fun r1 =>
   (if (!r1.2) = true then some true else some ((i.length : Int) == 10)).bind fun (v1 : Bool) =>
   if v1 = true then
    some (.dn (.ret (([] : List Message), false)))
   else
    (chk (i.length + ([r1.1] : List Message).length ≤ 4294967296)).bind fun u1 =>
    some (.nx ((w64 (v + 1)), (i ++ ([r1.1] : List Message))))
  else
   some (.dn (.go i))
noncomputable def i_ParseNotice (s : ByteArray) : Option ((List Message) × Bool) :=
 if (s.toList == (str []).toList) = true then
  some (([] : List Message), true)
 else
  (strings_SplitAfterN s (str [46, 32]) 12).bind fun r =>
  flb (iter (i_ParseNotice_L1 r) ((0 : Int), ([] : List Message))) fun (i1 : List Message) =>
  some (i1, true)
noncomputable def v_rMessages_L1 (a : List Message) (b : List Message) : Int → Option (Lp (Int) (Fl (Bool) (Unit)))
 | v =>
  if (decide (v < (a.length : Int))) = true then
   (idx a v).bind fun e2 =>
   (idx b v).bind fun e3 =>
   if (!((e2.Kind == e3.Kind) && ((e2.Line.toList == e3.Line.toList) && ((e2.Stop.toList == e3.Stop.toList) && ((e2.From == e3.From) && ((e2.To == e3.To) && ((e2.Minutes == e3.Minutes) && true))))))) = true then
    some (.dn (.ret false))
   else
    some (.nx (w64 (v + 1)))
  else
   some (.dn (.go ()))
noncomputable def v_rMessages (a : List Message) (b : List Message) : Option (Bool) :=
 if ((a.length : Int) != (b.length : Int)) = true then
  some false
 else
  flb (iter (v_rMessages_L1 a b) (0 : Int)) fun (_ : Unit) =>
  some true
noncomputable def s_DrawParseNotice (code : List UInt8) : Option (ByteArray) :=
 (s_l1Cur_notice (⟨code, 0, (⟨0⟩ : IK .u64)⟩ : l1Cur)).bind fun r =>
 (s_NoticeText r.1).bind fun r1 =>
 ((s_l1Cur_one r.2 3).bind fun r2 =>
 if r2.1 = true then
  (s_l1Cur_spoilt r2.2 r1.1 (str [46, 32, 49, 97, 58])).bind fun r3 =>
  some r3.1
 else
  some r1.1).bind fun (v : ByteArray) =>
 some v
noncomputable def s_ParseNotice_L1 (s : ByteArray) : (List Message) × ByteArray × Int × Bool → Option (Lp ((List Message) × ByteArray × Int × Bool) ((List Message) × ByteArray × Int × Bool))
 | (r, v, v1, v2) =>
  (if (!v2) = true then if (decide (v1 < (s.size : Int))) = true then some (decide ((r.length : Int) ≤ 10)) else some false else some false).bind fun (v3 : Bool) =>
  if v3 = true then
   (if (decide (0 < (r.length : Int))) = true then
    (s_l24Reader_want (⟨v, v1, v2⟩ : l24Reader) (str [32])).bind fun r1 =>
    some (r1.s_, r1.at_, r1.bad_)
   else
    some (v, v1, v2)).bind fun ((v4, v5, v6) : ByteArray × Int × Bool) =>
   (s_l24Reader_sentence (⟨v4, v5, v6⟩ : l24Reader)).bind fun r2 =>
   (chk (r.length + ([r2.1] : List Message).length ≤ 4294967296)).bind fun u =>
   some (.nx ((r ++ ([r2.1] : List Message)), r2.2.s_, r2.2.at_, r2.2.bad_))
  else
   some (.dn (r, v, v1, v2))
noncomputable def s_ParseNotice (s : ByteArray) : Option ((List Message) × Bool) :=
 (iter (s_ParseNotice_L1 s) (([] : List Message), s, (0 : Int), false)).bind fun ((r3, v7, v8, v9) : (List Message) × ByteArray × Int × Bool) =>
 (if v9 = true then some true else if (v8 != (s.size : Int)) = true then some true else (s_l24Notice r3).bind fun r4 =>
 some (!r4)).bind fun (v10 : Bool) =>
 if v10 = true then
  some (([] : List Message), false)
 else
  some (r3, true)
noncomputable def v_FnMessages (code : List UInt8) : Option (Bool) :=
 (v_rBig code).bind fun r =>
 if r = true then
  some true
 else
  (s_DrawMessageText code).bind fun r1 =>
  (i_MessageText r1).bind fun r2 =>
  (s_MessageText r1).bind fun r3 =>
  (if (!(r2.1.toList == r3.1.toList)) = true then some true else if (!(r2.2 == r3.2)) = true then some true else (i_IsValidMessage r1).bind fun r4 =>
  some (!(r2.2 == r4))).bind fun (v : Bool) =>
  if v = true then
   some false
  else
   flb (if r2.2 = true then
    (i_ParseMessage r2.1).bind fun r5 =>
    (if (!r5.2) = true then some true else some (!((r5.1.Kind == r1.Kind) && ((r5.1.Line.toList == r1.Line.toList) && ((r5.1.Stop.toList == r1.Stop.toList) && ((r5.1.From == r1.From) && ((r5.1.To == r1.To) && ((r5.1.Minutes == r1.Minutes) && true)))))))).bind fun (v1 : Bool) =>
    if v1 = true then
     some (.ret false)
    else
     some (.go ())
   else
    some (.go ())) fun (_ : Unit) =>
   (s_DrawParseMessage code).bind fun r7 =>
   (i_ParseMessage r7).bind fun r8 =>
   (s_ParseMessage r7).bind fun r9 =>
   (if (!((r8.1.Kind == r9.1.Kind) && ((r8.1.Line.toList == r9.1.Line.toList) && ((r8.1.Stop.toList == r9.1.Stop.toList) && ((r8.1.From == r9.1.From) && ((r8.1.To == r9.1.To) && ((r8.1.Minutes == r9.1.Minutes) && true))))))) = true then some true else some (!(r8.2 == r9.2))).bind fun (v2 : Bool) =>
   if v2 = true then
    some false
   else
    (s_DrawNoticeText code).bind fun r10 =>
    (i_NoticeText r10).bind fun r11 =>
    (s_NoticeText r10).bind fun r12 =>
    (if (!(r11.1.toList == r12.1.toList)) = true then some true else some (!(r11.2 == r12.2))).bind fun (v3 : Bool) =>
    if v3 = true then
     some false
    else
     flb (if r11.2 = true then
      (i_ParseNotice r11.1).bind fun r13 =>
      (if (!r13.2) = true then some true else (v_rMessages r13.1 r10).bind fun r14 =>
      some (!r14)).bind fun (v4 : Bool) =>
      if v4 = true then
       some (.ret false)
      else
       some (.go ())
     else
      some (.go ())) fun (_ : Unit) =>
     (s_DrawParseNotice code).bind fun r16 =>
     (i_ParseNotice r16).bind fun r17 =>
     (s_ParseNotice r16).bind fun r18 =>
     (if (r17.2 == r18.2) = true then (v_rMessages r17.1 r18.1).bind fun r19 =>
     some r19 else some false).bind fun (m : Bool) =>
     some m
end Go.Proofs.YteieacgaipcnoaaGreatDoor
