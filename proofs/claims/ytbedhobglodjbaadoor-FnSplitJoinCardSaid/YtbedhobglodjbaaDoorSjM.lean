/- Models of the functions that the law reaches: plain Lean; none where the function would panic or not end. Made by program (dec.py). -/
import Derived.Test.YtbedhobglodjbaaDoorAbC0
import Derived.Test.YtbedhobglodjbaaDoorAbStr1
import Derived.Test.YtbedhobglodjbaaDoorAbStr2
namespace Go.Proofs.YtbedhobglodjbaaDoor
open Go Go.Ab
set_option maxRecDepth 100000
set_option maxHeartbeats 4000000
set_option linter.unusedVariables false
set_option linter.unusedSimpArgs false
structure l1Cur where
 code_ : List UInt8
 at_ : Int
 seed_ : IK .u64
instance enc_l1Cur : Enc l1Cur := ⟨3, fun x => .agg [Enc.e x.code_, .sc (.int .i64 x.at_), .sc (.int .u64 x.seed_.v)], fun a b h => by
 simp only [D.agg.injEq, List.cons.injEq, and_true] at h
 obtain ⟨a1, a2, a3⟩ := a
 obtain ⟨b1, b2, b3⟩ := b
 obtain ⟨h1, h2, h3⟩ := h
 have q1 := Enc.inj (α := List UInt8) a1 b1 h1
 have q2 := Enc.inj (α := Int) a2 b2 h2
 have q3 := Enc.inj (α := IK .u64) a3 b3 h3
 subst q1; subst q2; subst q3; rfl⟩
instance : BxE l1Cur := ⟨fun x y h => Enc.inj x y (congrArg D.agg h)⟩
noncomputable def v_vBig (code : List UInt8) : Option (Bool) :=
 some (decide (65536 < (code.length : Int)))
noncomputable def s_l1Cur_next (c : l1Cur) : Option (Int × l1Cur) :=
 (if (decide (c.at_ < (c.code_.length : Int))) = true then
  (idx c.code_ c.at_).bind fun e1 =>
  some (w64 ((e1.toNat : Int)))
 else
  some (0 : Int)).bind fun (v : Int) =>
 if (decide ((w64 (c.at_ + 1)) ≤ (c.code_.length : Int))) = true then
  some (v, (⟨c.code_, (w64 (c.at_ + 1)), (⟨(IntKind.u64.wrap ((IntKind.u64.wrap ((IntKind.u64.wrap (c.seed_.v * 6364136223846793005)) + (IntKind.u64.wrap (v)))) + 900900))⟩ : IK .u64)⟩ : l1Cur))
 else
  (chk ((0 : Int) ≤ 40)).bind fun u =>
  some ((w64 ((IntKind.u64.wrap ((BitVec.ofInt (IntKind.u64).bits ((IntKind.u64.wrap ((IntKind.u64.wrap ((IntKind.u64.wrap (c.seed_.v * 6364136223846793005)) + (IntKind.u64.wrap (v)))) + 900900)).fdiv (2 ^ (min (40 : Int).toNat (IntKind.u64).bits))) &&& BitVec.ofInt (IntKind.u64).bits 255).toNat : Int)))), (⟨c.code_, (w64 (c.at_ + 1)), (⟨(IntKind.u64.wrap ((IntKind.u64.wrap ((IntKind.u64.wrap (c.seed_.v * 6364136223846793005)) + (IntKind.u64.wrap (v)))) + 900900))⟩ : IK .u64)⟩ : l1Cur))
noncomputable def s_l1Cur_pick (c : l1Cur) (n : Int) : Option (Int × l1Cur) :=
 if (decide (n ≤ 1)) = true then
  some (0, c)
 else
  (s_l1Cur_next c).bind fun r =>
  (if (decide (200 < n)) = true then
   (s_l1Cur_next r.2).bind fun r1 =>
   some ((w64 ((w64 (r.1 * 256)) + r1.1)), r1.2.code_, r1.2.at_, r1.2.seed_.v)
  else
   some (r.1, r.2.code_, r.2.at_, r.2.seed_.v)).bind fun ((v, v1, v2, v3) : Int × (List UInt8) × Int × Int) =>
  (chk ((n : Int) ≠ 0)).bind fun u =>
  some ((v.tmod n), (⟨v1, v2, (⟨v3⟩ : IK .u64)⟩ : l1Cur))
noncomputable def s_l1Cur_of (c : l1Cur) (list : List ByteArray) : Option (ByteArray × l1Cur) :=
 (s_l1Cur_pick c (list.length : Int)).bind fun r =>
 (idx list r.1).bind fun e =>
 some (e, r.2)
noncomputable def s_l1Cur_any1 (c : l1Cur) : Option (ByteArray × l1Cur) :=
 (s_l1Cur_of c ([(str []), (str [97]), (str [97, 44, 98]), (str [115, 111, 109, 101, 32, 119, 111, 114, 100, 115]), (str [120, 35, 121]), (str [45, 49, 50]), (str [0, 255]), (str [44, 44]), (str [48])] : List ByteArray)).bind fun r =>
 some (r.1, r.2)
noncomputable def s_DrawSplitString (code : List UInt8) : Option (ByteArray × ByteArray) :=
 (s_l1Cur_any1 (⟨code, 0, (⟨0⟩ : IK .u64)⟩ : l1Cur)).bind fun r =>
 (s_l1Cur_of r.2 ([(str [44]), (str [44]), (str [32]), (str []), (str [44, 44])] : List ByteArray)).bind fun r1 =>
 some (r.1, r1.1)
noncomputable def strings_Split (s : ByteArray) (sep : ByteArray) : Option ((List ByteArray)) :=
 splitM s sep
noncomputable def i_SplitString (s : ByteArray) (sep : ByteArray) : Option ((List ByteArray) × Bool) :=
 (if (decide (4000 < (s.size : Int))) = true then some true else some ((sep.size : Int) != 1)).bind fun (v : Bool) =>
 if v = true then
  some (([] : List ByteArray), false)
 else
  (strings_Split s sep).bind fun r =>
  some (r, true)
noncomputable def s_l1Cur_one (c : l1Cur) (n : Int) : Option (Bool × l1Cur) :=
 (s_l1Cur_pick c n).bind fun r =>
 some ((r.1 == 0), r.2)
noncomputable def s_DrawJoinStrings_L1 (r : Int × l1Cur) : Int × (List UInt8) × Int × Int × (List ByteArray) → Option (Lp (Int × (List UInt8) × Int × Int × (List ByteArray)) ((List UInt8) × Int × Int × (List ByteArray)))
 | (v, v1, v2, v3, n) =>
  if (decide (v < r.1)) = true then
   (s_l1Cur_any1 (⟨v1, v2, (⟨v3⟩ : IK .u64)⟩ : l1Cur)).bind fun r1 =>
   (chk (n.length + ([r1.1] : List ByteArray).length ≤ 4294967296)).bind fun u =>
   some (.nx ((w64 (v + 1)), r1.2.code_, r1.2.at_, r1.2.seed_.v, (n ++ ([r1.1] : List ByteArray))))
  else
   some (.dn (v1, v2, v3, n))
noncomputable def s_DrawJoinStrings (code : List UInt8) : Option ((List ByteArray) × ByteArray) :=
 (s_l1Cur_pick (⟨code, 0, (⟨0⟩ : IK .u64)⟩ : l1Cur) 4).bind fun r =>
 (iter (s_DrawJoinStrings_L1 r) ((0 : Int), r.2.code_, r.2.at_, r.2.seed_.v, ([] : List ByteArray))).bind fun ((v4, v5, v6, n1) : (List UInt8) × Int × Int × (List ByteArray)) =>
 ((s_l1Cur_one (⟨v4, v5, (⟨v6⟩ : IK .u64)⟩ : l1Cur) 20).bind fun r2 =>
 if r2.1 = true then
  (s_l1Cur_pick r2.2 20).bind fun r3 =>
  (chk ((0 : Int) ≤ (w64 (3990 + r3.1)) ∧ ((w64 (3990 + r3.1)) : Int) ≤ 4294967296)).bind fun u1 =>
  (chk (n1.length + ([(bytS (List.replicate (w64 (3990 + r3.1)).toNat (mkU8 0 : UInt8)))] : List ByteArray).length ≤ 4294967296)).bind fun u2 =>
  some (r3.2.code_, r3.2.at_, r3.2.seed_.v, (n1 ++ ([(bytS (List.replicate (w64 (3990 + r3.1)).toNat (mkU8 0 : UInt8)))] : List ByteArray)))
 else
  some (r2.2.code_, r2.2.at_, r2.2.seed_.v, n1)).bind fun ((v7, v8, v9, n2) : (List UInt8) × Int × Int × (List ByteArray)) =>
 (s_l1Cur_of (⟨v7, v8, (⟨v9⟩ : IK .u64)⟩ : l1Cur) ([(str [44]), (str [59]), (str [59]), (str []), (str [97, 98])] : List ByteArray)).bind fun r4 =>
 some (n2, r4.1)
noncomputable def strings_Contains (s : ByteArray) (substr : ByteArray) : Option (Bool) :=
 containsM s substr
noncomputable def strings_Join (elems : List ByteArray) (sep : ByteArray) : Option (ByteArray) :=
 joinM elems sep
noncomputable def i_JoinStrings_L1 (parts : List ByteArray) (sep : ByteArray) : Int × Int → Option (Lp (Int × Int) (Fl (ByteArray × Bool) (Unit)))
 | (p, v1) =>
  if (decide (v1 < (parts.length : Int))) = true then
   (idx parts v1).bind fun e =>
   (if (decide (4000 < (w64 (p + (w64 ((e.size : Int) + 1)))))) = true then some true else (strings_Contains e sep).bind fun r =>
   some r).bind fun (v2 : Bool) =>
   if v2 = true then
    some (.dn (.ret ((str []), false)))
   else
    some (.nx ((w64 (p + (w64 ((e.size : Int) + 1)))), (w64 (v1 + 1))))
  else
   some (.dn (.go ()))
noncomputable def i_JoinStrings (parts : List ByteArray) (sep : ByteArray) : Option (ByteArray × Bool) :=
 (if ((parts.length : Int) == 0) = true then some true else some ((sep.size : Int) != 1)).bind fun (v : Bool) =>
 if v = true then
  some ((str []), false)
 else
  flb (iter (i_JoinStrings_L1 parts sep) (((-1) : Int), (0 : Int))) fun (_ : Unit) =>
  (strings_Join parts sep).bind fun r2 =>
  some (r2, true)
noncomputable def s_l1Stands_L1 (s : ByteArray) (b : UInt8) : Int → Option (Lp (Int) (Fl (Bool) (Unit)))
 | v =>
  if (decide (v < (s.size : Int))) = true then
   (chk ((0 : Int) ≤ v ∧ v < (s.size : Int))).bind fun u =>
   if (((s.data.toList.getD v.toNat 0).toNat : Int) == (b.toNat : Int)) = true then
    some (.dn (.ret true))
   else
    some (.nx (w64 (v + 1)))
  else
   some (.dn (.go ()))
noncomputable def s_l1Stands (s : ByteArray) (b : UInt8) : Option (Bool) :=
 flb (iter (s_l1Stands_L1 s b) (0 : Int)) fun (_ : Unit) =>
 some false
noncomputable def s_JoinStrings_L1 (l : List ByteArray) (sign : ByteArray) : ByteArray × Int → Option (Lp (ByteArray × Int) (Fl (ByteArray × Bool) (ByteArray)))
 | (v1, v2) =>
  if (decide (v2 < (l.length : Int))) = true then
   (idx l v2).bind fun e1 =>
   (chk ((0 : Int) ≤ 0 ∧ 0 < (sign.size : Int))).bind fun u1 =>
   (s_l1Stands e1 (sign.data.toList.getD (0 : Int).toNat 0)).bind fun r1 =>
   if r1 = true then
    some (.dn (.ret ((str []), false)))
   else
    (if (decide (0 < v2)) = true then
     (chk (v1.size + sign.size ≤ 4294967296)).bind fun u2 =>
     some (v1 ++ sign)
    else
     some v1).bind fun (v3 : ByteArray) =>
    (idx l v2).bind fun e3 =>
    (chk (v3.size + e3.size ≤ 4294967296)).bind fun u3 =>
    if (decide (4000 < ((v3 ++ e3).size : Int))) = true then
     some (.dn (.ret ((str []), false)))
    else
     some (.nx ((v3 ++ e3), (w64 (v2 + 1))))
  else
   some (.dn (.go v1))
noncomputable def s_JoinStrings (l : List ByteArray) (sign : ByteArray) : Option (ByteArray × Bool) :=
 (if ((sign.size : Int) != 1) = true then some true else some ((l.length : Int) == 0)).bind fun (v : Bool) =>
 if v = true then
  some ((str []), false)
 else
  flb (iter (s_JoinStrings_L1 l sign) ((str []), (0 : Int))) fun (v4 : ByteArray) =>
  some (v4, true)
noncomputable def s_DrawLessString (code : List UInt8) : Option (ByteArray × ByteArray) :=
 (s_l1Cur_any1 (⟨code, 0, (⟨0⟩ : IK .u64)⟩ : l1Cur)).bind fun r =>
 (s_l1Cur_any1 r.2).bind fun r1 =>
 some (r.1, r1.1)
noncomputable def i_LessString (a : ByteArray) (b : ByteArray) : Option (Bool) :=
 some (Op.bytesLess a.toList b.toList)
noncomputable def s_LessString (a : ByteArray) (b : ByteArray) : Option (Bool) :=
 some (Op.bytesLess a.toList b.toList)
noncomputable def v_FnSplitJoin (code : List UInt8) : Option (Bool) :=
 (v_vBig code).bind fun r =>
 if r = true then
  some true
 else
  (s_DrawSplitString code).bind fun r1 =>
  (i_SplitString r1.1 r1.2).bind fun r2 =>
  (s_DrawJoinStrings code).bind fun r3 =>
  (i_JoinStrings r3.1 r3.2).bind fun r4 =>
  (s_JoinStrings r3.1 r3.2).bind fun r5 =>
  (s_DrawLessString code).bind fun r6 =>
  (if (!(r4.1.toList == r5.1.toList)) = true then some true else if (!(r4.2 == r5.2)) = true then some true else (i_LessString r6.1 r6.2).bind fun r7 =>
  (s_LessString r6.1 r6.2).bind fun r8 =>
  if (!(r7 == r8)) = true then some true else (i_LessString r6.1 r6.2).bind fun r9 =>
  if r9 = true then (i_LessString r6.2 r6.1).bind fun r10 =>
  some r10 else some false).bind fun (v : Bool) =>
  if v = true then
   some false
  else
   if ((r1.2.size : Int) != 1) = true then
    (if (!r2.2) = true then some ((r2.1.length : Int) == 0) else some false).bind fun (s : Bool) =>
    some s
   else
    (i_JoinStrings r2.1 r1.2).bind fun r11 =>
    (if r2.2 = true then if r11.2 = true then some (r11.1.toList == r1.1.toList) else some false else some false).bind fun (s1 : Bool) =>
    some s1
end Go.Proofs.YtbedhobglodjbaaDoor
