/- Models of the functions that the law reaches: plain Lean; none where the function would panic or not end. Made by program (dec.py). -/
import Derived.Test.YtbedhobglodjbaaDoorAbC0
import Derived.Test.YtbedhobglodjbaaDoorAbStr1
import Derived.Test.YtbedhobglodjbaaDoorAbStr2
namespace Go.Proofs.YtbedhobglodjbaaDoor
open Go Go.Ab
set_option maxRecDepth 100000
set_option maxHeartbeats 4000000
set_option linter.unusedVariables false
set_option linter.unusedSimpArgs false
structure l1Cur where
 code_ : List UInt8
 at_ : Int
 seed_ : IK .u64
instance enc_l1Cur : Enc l1Cur := ⟨3, fun x => .agg [Enc.e x.code_, .sc (.int .i64 x.at_), .sc (.int .u64 x.seed_.v)], fun a b h => by
 simp only [D.agg.injEq, List.cons.injEq, and_true] at h
 obtain ⟨a1, a2, a3⟩ := a
 obtain ⟨b1, b2, b3⟩ := b
 obtain ⟨h1, h2, h3⟩ := h
 have q1 := Enc.inj (α := List UInt8) a1 b1 h1
 have q2 := Enc.inj (α := Int) a2 b2 h2
 have q3 := Enc.inj (α := IK .u64) a3 b3 h3
 subst q1; subst q2; subst q3; rfl⟩
instance : BxE l1Cur := ⟨fun x y h => Enc.inj x y (congrArg D.agg h)⟩
noncomputable def v_vBig (code : List UInt8) : Option (Bool) :=
 some (decide (65536 < (code.length : Int)))
noncomputable def s_l1Cur_next (c : l1Cur) : Option (Int × l1Cur) :=
 (if (decide (c.at_ < (c.code_.length : Int))) = true then
  (idx c.code_ c.at_).bind fun e1 =>
  some (w64 ((e1.toNat : Int)))
 else
  some (0 : Int)).bind fun (v : Int) =>
 if (decide ((w64 (c.at_ + 1)) ≤ (c.code_.length : Int))) = true then
  some (v, (⟨c.code_, (w64 (c.at_ + 1)), (⟨(IntKind.u64.wrap ((IntKind.u64.wrap ((IntKind.u64.wrap (c.seed_.v * 6364136223846793005)) + (IntKind.u64.wrap (v)))) + 900900))⟩ : IK .u64)⟩ : l1Cur))
 else
  (chk ((0 : Int) ≤ 40)).bind fun u =>
  some ((w64 ((IntKind.u64.wrap ((BitVec.ofInt (IntKind.u64).bits ((IntKind.u64.wrap ((IntKind.u64.wrap ((IntKind.u64.wrap (c.seed_.v * 6364136223846793005)) + (IntKind.u64.wrap (v)))) + 900900)).fdiv (2 ^ (min (40 : Int).toNat (IntKind.u64).bits))) &&& BitVec.ofInt (IntKind.u64).bits 255).toNat : Int)))), (⟨c.code_, (w64 (c.at_ + 1)), (⟨(IntKind.u64.wrap ((IntKind.u64.wrap ((IntKind.u64.wrap (c.seed_.v * 6364136223846793005)) + (IntKind.u64.wrap (v)))) + 900900))⟩ : IK .u64)⟩ : l1Cur))
noncomputable def s_l1Cur_pick (c : l1Cur) (n : Int) : Option (Int × l1Cur) :=
 if (decide (n ≤ 1)) = true then
  some (0, c)
 else
  (s_l1Cur_next c).bind fun r =>
  (if (decide (200 < n)) = true then
   (s_l1Cur_next r.2).bind fun r1 =>
   some ((w64 ((w64 (r.1 * 256)) + r1.1)), r1.2.code_, r1.2.at_, r1.2.seed_.v)
  else
   some (r.1, r.2.code_, r.2.at_, r.2.seed_.v)).bind fun ((v, v1, v2, v3) : Int × (List UInt8) × Int × Int) =>
  (chk ((n : Int) ≠ 0)).bind fun u =>
  some ((v.tmod n), (⟨v1, v2, (⟨v3⟩ : IK .u64)⟩ : l1Cur))
noncomputable def s_l1Cur_among (c : l1Cur) (list : List Int) : Option (Int × l1Cur) :=
 (s_l1Cur_pick c (list.length : Int)).bind fun r =>
 (idx list r.1).bind fun e =>
 some (e, r.2)
noncomputable def s_DrawFormatInt (code : List UInt8) : Option (Int) :=
 (s_l1Cur_pick (⟨code, 0, (⟨0⟩ : IK .u64)⟩ : l1Cur) 1000).bind fun r =>
 (s_l1Cur_among r.2 ([0, 1, (-1), 10, 999999, (-999999), 1000000, (-1000000), (w64 (r.1 - 500))] : List Int)).bind fun r1 =>
 some r1.1
noncomputable def strconv_Itoa (i : Int) : Option (ByteArray) :=
 itoaM i
noncomputable def i_FormatInt (n : Int) : Option (ByteArray × Bool) :=
 (if (decide (n < (-999999))) = true then some true else some (decide (999999 < n))).bind fun (v : Bool) =>
 if v = true then
  some ((str []), false)
 else
  (strconv_Itoa n).bind fun r =>
  some (r, true)
noncomputable def s_l1In (x : Int) (a : Int) (b : Int) : Option (Bool) :=
 (if (decide (a ≤ x)) = true then some (decide (x ≤ b)) else some false).bind fun (v : Bool) =>
 some v
noncomputable def s_l1Num_F (rec_ : Int → Option (ByteArray)) (n : Int) : Option (ByteArray) :=
 if (decide (n < 0)) = true then
  (rec_ (w64 (0 - n))).bind fun r =>
  (chk ((str [45]).size + r.size ≤ 4294967296)).bind fun u =>
  some ((str [45]) ++ r)
 else
  if (decide (n < 10)) = true then
   (chk ((0 : Int) ≤ n ∧ (n : Int) ≤ (w64 (n + 1)) ∧ (w64 (n + 1)) ≤ ((str [48, 49, 50, 51, 52, 53, 54, 55, 56, 57]).size : Int))).bind fun u1 =>
   some ((str [48, 49, 50, 51, 52, 53, 54, 55, 56, 57]).extract n.toNat (w64 (n + 1)).toNat)
  else
   (chk ((10 : Int) ≠ 0)).bind fun u7 =>
   (rec_ (w64 (n.tdiv 10))).bind fun r2 =>
   (chk ((10 : Int) ≠ 0)).bind fun u8 =>
   (chk ((10 : Int) ≠ 0)).bind fun u9 =>
   (chk ((0 : Int) ≤ (n.tmod 10) ∧ ((n.tmod 10) : Int) ≤ (w64 ((n.tmod 10) + 1)) ∧ (w64 ((n.tmod 10) + 1)) ≤ ((str [48, 49, 50, 51, 52, 53, 54, 55, 56, 57]).size : Int))).bind fun u10 =>
   (chk (r2.size + ((str [48, 49, 50, 51, 52, 53, 54, 55, 56, 57]).extract (n.tmod 10).toNat (w64 ((n.tmod 10) + 1)).toNat).size ≤ 4294967296)).bind fun u11 =>
   some (r2 ++ ((str [48, 49, 50, 51, 52, 53, 54, 55, 56, 57]).extract (n.tmod 10).toNat (w64 ((n.tmod 10) + 1)).toNat))
noncomputable def s_l1Num_k : Nat → Int → Option (ByteArray)
 | 0 => fun _ => none
 | n + 1 => s_l1Num_F (s_l1Num_k n)
noncomputable def s_l1Num (n : Int) : Option (ByteArray) := s_l1Num_k 4294967296 n
noncomputable def s_FormatInt (n : Int) : Option (ByteArray × Bool) :=
 (s_l1In n (-999999) 999999).bind fun r =>
 if (!r) = true then
  some ((str []), false)
 else
  (s_l1Num n).bind fun r1 =>
  some (r1, true)
noncomputable def s_l1Cur_one (c : l1Cur) (n : Int) : Option (Bool × l1Cur) :=
 (s_l1Cur_pick c n).bind fun r =>
 some ((r.1 == 0), r.2)
noncomputable def s_l1Cur_of (c : l1Cur) (list : List ByteArray) : Option (ByteArray × l1Cur) :=
 (s_l1Cur_pick c (list.length : Int)).bind fun r =>
 (idx list r.1).bind fun e =>
 some (e, r.2)
noncomputable def s_DrawParseInt (code : List UInt8) : Option (ByteArray) :=
 (s_l1Cur_one (⟨code, 0, (⟨0⟩ : IK .u64)⟩ : l1Cur) 2).bind fun r =>
 if r.1 = true then
  (s_l1Cur_of r.2 ([(str []), (str [45]), (str [45, 48]), (str [48, 48]), (str [48, 49]), (str [45, 45, 49]), (str [49, 120]), (str [57, 57, 57, 57, 57, 57]), (str [49, 48, 48, 48, 48, 48, 48]), (str [45, 57, 57, 57, 57, 57, 57]), (str [49, 56, 52, 52, 54, 55, 52, 52, 48, 55, 51, 55, 48, 57, 53, 53, 49, 54, 49, 55])] : List ByteArray)).bind fun r1 =>
  some r1.1
 else
  (s_l1Cur_pick r.2 2000).bind fun r2 =>
  (s_l1Num (w64 (r2.1 - 1000))).bind fun r3 =>
  some r3
noncomputable def strings_CutPrefix (s : ByteArray) (prefix_ : ByteArray) : Option (ByteArray × Bool) :=
 cutPrefixM s prefix_
noncomputable def i_natural_L1 (s : ByteArray) : Int × Int → Option (Lp (Int × Int) (Fl (Int × ByteArray × Bool) (Int × Int)))
 | (i, v) =>
  (if (decide (v < (s.size : Int))) = true then (chk ((0 : Int) ≤ v ∧ v < (s.size : Int))).bind fun u =>
  if (decide (48 ≤ ((s.data.toList.getD v.toNat 0).toNat : Int))) = true then (chk ((0 : Int) ≤ v ∧ v < (s.size : Int))).bind fun u1 =>
  some (decide (((s.data.toList.getD v.toNat 0).toNat : Int) ≤ 57)) else some false else some false).bind fun (v1 : Bool) =>
  if v1 = true then
   (if (v == 6) = true then some true else if (v == 1) = true then some (i == 0) else some false).bind fun (v2 : Bool) =>
   if v2 = true then
    some (.dn (.ret (0, (str []), false)))
   else
    (chk ((0 : Int) ≤ v ∧ v < (s.size : Int))).bind fun u2 =>
    some (.nx ((w64 ((w64 (i * 10)) + (w64 ((IntKind.u8.wrap (((s.data.toList.getD v.toNat 0).toNat : Int) - 48)))))), (w64 (v + 1))))
  else
   some (.dn (.go (i, v)))
noncomputable def i_natural (s : ByteArray) : Option (Int × ByteArray × Bool) :=
 flb (iter (i_natural_L1 s) ((0 : Int), (0 : Int))) fun ((i1, v3) : Int × Int) =>
 (chk ((0 : Int) ≤ v3 ∧ v3 ≤ (s.size : Int))).bind fun u4 =>
 some (i1, (s.extract v3.toNat s.size), (decide (0 < v3)))
noncomputable def i_ParseInt (s : ByteArray) : Option (Int × Bool) :=
 (strings_CutPrefix s (str [45])).bind fun r =>
 (i_natural r.1).bind fun r1 =>
 (if (!r1.2.2) = true then some true else if (!(r1.2.1.toList == (str []).toList)) = true then some true else if r.2 = true then some (r1.1 == 0) else some false).bind fun (v : Bool) =>
 if v = true then
  some (0, false)
 else
  (if r.2 = true then
   some (w64 (0 - r1.1))
  else
   some r1.1).bind fun (rest : Int) =>
  some (rest, true)
noncomputable def s_l1Read_L1 (n : ByteArray) : Int × Int → Option (Lp (Int × Int) (Fl (Int × Bool) (Int)))
 | (i, v1) =>
  if (decide (v1 < (n.size : Int))) = true then
   (chk ((0 : Int) ≤ v1 ∧ v1 < (n.size : Int))).bind fun u2 =>
   (if (decide (((n.data.toList.getD v1.toNat 0).toNat : Int) < 48)) = true then some true else (chk ((0 : Int) ≤ v1 ∧ v1 < (n.size : Int))).bind fun u3 =>
   some (decide (57 < ((n.data.toList.getD v1.toNat 0).toNat : Int)))).bind fun (v2 : Bool) =>
   if v2 = true then
    some (.dn (.ret (0, false)))
   else
    (chk ((0 : Int) ≤ v1 ∧ v1 < (n.size : Int))).bind fun u4 =>
    some (.nx ((w64 ((w64 (10 * i)) + (w64 ((IntKind.u8.wrap (((n.data.toList.getD v1.toNat 0).toNat : Int) - 48)))))), (w64 (v1 + 1))))
  else
   some (.dn (.go i))
noncomputable def s_l1Read (s : ByteArray) : Option (Int × Bool) :=
 ((if (decide (1 < (s.size : Int))) = true then (chk ((0 : Int) ≤ 0 ∧ 0 < (s.size : Int))).bind fun u =>
 some (((s.data.toList.getD (0 : Int).toNat 0).toNat : Int) == 45) else some false).bind fun (v : Bool) =>
 if v = true then
  (chk ((0 : Int) ≤ 1 ∧ 1 ≤ (s.size : Int))).bind fun u1 =>
  some (s.extract (1 : Int).toNat s.size)
 else
  some s).bind fun (n : ByteArray) =>
 (s_l1In (n.size : Int) 1 6).bind fun r =>
 if (!r) = true then
  some (0, false)
 else
  flb (iter (s_l1Read_L1 n) ((0 : Int), (0 : Int))) fun (i1 : Int) =>
  (if (decide ((n.size : Int) < (s.size : Int))) = true then
   some (w64 (0 - i1))
  else
   some i1).bind fun (i2 : Int) =>
  (s_l1Num i2).bind fun r2 =>
  if (!(r2.toList == s.toList)) = true then
   some (0, false)
  else
   some (i2, true)
noncomputable def s_ParseInt (s : ByteArray) : Option (Int × Bool) :=
 (s_l1Read s).bind fun r =>
 some (r.1, r.2)
noncomputable def s_l1Cur_any1 (c : l1Cur) : Option (ByteArray × l1Cur) :=
 (s_l1Cur_of c ([(str []), (str [97]), (str [97, 44, 98]), (str [115, 111, 109, 101, 32, 119, 111, 114, 100, 115]), (str [120, 35, 121]), (str [45, 49, 50]), (str [0, 255]), (str [44, 44]), (str [48])] : List ByteArray)).bind fun r =>
 some (r.1, r.2)
noncomputable def s_DrawAppendChecksum (code : List UInt8) : Option (ByteArray) :=
 (s_l1Cur_one (⟨code, 0, (⟨0⟩ : IK .u64)⟩ : l1Cur) 20).bind fun r =>
 if r.1 = true then
  (s_l1Cur_pick r.2 10).bind fun r1 =>
  (chk ((0 : Int) ≤ (w64 (3990 + r1.1)) ∧ ((w64 (3990 + r1.1)) : Int) ≤ 4294967296)).bind fun u =>
  some (bytS (List.replicate (w64 (3990 + r1.1)).toNat (mkU8 0 : UInt8)))
 else
  (s_l1Cur_any1 r.2).bind fun r2 =>
  some r2.1
noncomputable def strings_Contains (s : ByteArray) (substr : ByteArray) : Option (Bool) :=
 containsM s substr
noncomputable def i_checksum_L1 (s : ByteArray) : Int × Int → Option (Lp (Int × Int) (Int))
 | (i, v) =>
  if (decide (v < (s.size : Int))) = true then
   (chk ((0 : Int) ≤ v ∧ v < (s.size : Int))).bind fun u =>
   (chk ((999979 : Int) ≠ 0)).bind fun u1 =>
   some (.nx (((w64 ((w64 ((w64 (41 * i)) + (w64 (((s.data.toList.getD v.toNat 0).toNat : Int))))) + 1)).tmod 999979), (w64 (v + 1))))
  else
   some (.dn i)
noncomputable def i_checksum (s : ByteArray) : Option (Int) :=
 (iter (i_checksum_L1 s) ((7 : Int), (0 : Int))).bind fun (i1 : Int) =>
 some i1
noncomputable def i_AppendChecksum (s : ByteArray) : Option (ByteArray × Bool) :=
 (if (decide (4000 < (s.size : Int))) = true then some true else (strings_Contains s (str [35])).bind fun r =>
 some r).bind fun (v : Bool) =>
 if v = true then
  some ((str []), false)
 else
  (chk (s.size + (str [35]).size ≤ 4294967296)).bind fun u =>
  (i_checksum s).bind fun r1 =>
  (strconv_Itoa r1).bind fun r2 =>
  (chk ((s ++ (str [35])).size + r2.size ≤ 4294967296)).bind fun u1 =>
  if (decide (4000 < (((s ++ (str [35])) ++ r2).size : Int))) = true then
   some ((str []), false)
  else
   some (((s ++ (str [35])) ++ r2), true)
noncomputable def s_l1Stands_L1 (s : ByteArray) (b : UInt8) : Int → Option (Lp (Int) (Fl (Bool) (Unit)))
 | v =>
  if (decide (v < (s.size : Int))) = true then
   (chk ((0 : Int) ≤ v ∧ v < (s.size : Int))).bind fun u =>
   if (((s.data.toList.getD v.toNat 0).toNat : Int) == (b.toNat : Int)) = true then
    some (.dn (.ret true))
   else
    some (.nx (w64 (v + 1)))
  else
   some (.dn (.go ()))
noncomputable def s_l1Stands (s : ByteArray) (b : UInt8) : Option (Bool) :=
 flb (iter (s_l1Stands_L1 s b) (0 : Int)) fun (_ : Unit) =>
 some false
noncomputable def s_l1Sum_L1 (s : ByteArray) : Int × Int → Option (Lp (Int × Int) (Int))
 | (i, v) =>
  if (decide (v < (s.size : Int))) = true then
   (chk ((0 : Int) ≤ v ∧ v < (s.size : Int))).bind fun u =>
   (chk ((999979 : Int) ≠ 0)).bind fun u1 =>
   some (.nx (((w64 ((w64 ((w64 (41 * i)) + (w64 (((s.data.toList.getD v.toNat 0).toNat : Int))))) + 1)).tmod 999979), (w64 (v + 1))))
  else
   some (.dn i)
noncomputable def s_l1Sum (s : ByteArray) : Option (Int) :=
 (iter (s_l1Sum_L1 s) ((7 : Int), (0 : Int))).bind fun (i1 : Int) =>
 some i1
noncomputable def s_l1Seal (s : ByteArray) : Option (ByteArray) :=
 (chk (s.size + (str [35]).size ≤ 4294967296)).bind fun u =>
 (s_l1Sum s).bind fun r =>
 (s_l1Num r).bind fun r1 =>
 (chk ((s ++ (str [35])).size + r1.size ≤ 4294967296)).bind fun u1 =>
 some ((s ++ (str [35])) ++ r1)
noncomputable def s_AppendChecksum (s : ByteArray) : Option (ByteArray × Bool) :=
 (if (decide (4000 < (s.size : Int))) = true then some true else (s_l1Stands s (mkU8 35)).bind fun r =>
 if r = true then some true else (s_l1Seal s).bind fun r1 =>
 some (decide (4000 < (r1.size : Int)))).bind fun (v : Bool) =>
 if v = true then
  some ((str []), false)
 else
  (s_l1Seal s).bind fun r2 =>
  some (r2, true)
noncomputable def strings_Cut (s : ByteArray) (sep : ByteArray) : Option (ByteArray × ByteArray × Bool) :=
 cutM s sep
noncomputable def i_VerifyChecksum (s : ByteArray) : Option (ByteArray × Bool) :=
 (strings_Cut s (str [35])).bind fun r =>
 if (!r.2.2) = true then
  some ((str []), false)
 else
  (i_AppendChecksum r.1).bind fun r1 =>
  (if (!r1.2) = true then some true else some (!(r1.1.toList == s.toList))).bind fun (v : Bool) =>
  if v = true then
   some ((str []), false)
  else
   some (r.1, true)
noncomputable def v_vAt (code : List UInt8) (i : Int) : Option (Int) :=
 if (decide (i < (code.length : Int))) = true then
  (idx code i).bind fun e =>
  some (w64 ((e.toNat : Int)))
 else
  (chk ((256 : Int) ≠ 0)).bind fun u =>
  some ((w64 ((w64 (i * 7)) + (code.length : Int))).tmod 256)
noncomputable def v_FnStrings (code : List UInt8) : Option (Bool) :=
 (v_vBig code).bind fun r =>
 if r = true then
  some true
 else
  (s_DrawFormatInt code).bind fun r1 =>
  (i_FormatInt r1).bind fun r2 =>
  (s_FormatInt r1).bind fun r3 =>
  (s_DrawParseInt code).bind fun r4 =>
  (i_ParseInt r4).bind fun r5 =>
  (s_ParseInt r4).bind fun r6 =>
  (s_DrawAppendChecksum code).bind fun r7 =>
  (i_AppendChecksum r7).bind fun r8 =>
  (s_AppendChecksum r7).bind fun r9 =>
  (if (!(r2.1.toList == r3.1.toList)) = true then some true else if (!(r2.2 == r3.2)) = true then some true else if (r5.1 != r6.1) = true then some true else if (!(r5.2 == r6.2)) = true then some true else if (!(r8.1.toList == r9.1.toList)) = true then some true else some (!(r8.2 == r9.2))).bind fun (v : Bool) =>
  if v = true then
   some false
  else
   (i_ParseInt r2.1).bind fun r10 =>
   (if r2.2 = true then if (!r10.2) = true then some true else some (r10.1 != r1) else some false).bind fun (v1 : Bool) =>
   if v1 = true then
    some false
   else
    if (!r8.2) = true then
     some (r8.1.toList == (str []).toList)
    else
     (i_VerifyChecksum r8.1).bind fun r11 =>
     (chk (r8.1.size ≤ 4294967296)).bind fun u =>
     (v_vAt code 9).bind fun r12 =>
     (chk (((r8.1.data.toList.length : Int) : Int) ≠ 0)).bind fun u1 =>
     (idx r8.1.data.toList (r12.tmod (r8.1.data.toList.length : Int))).bind fun e2 =>
     (v_vAt code 10).bind fun r14 =>
     (chk ((255 : Int) ≠ 0)).bind fun u3 =>
     (idx r8.1.data.toList (r12.tmod (r8.1.data.toList.length : Int))).bind fun e3 =>
     (i_VerifyChecksum (bytS (r8.1.data.toList.set (r12.tmod (r8.1.data.toList.length : Int)).toNat (mkU8 (IntKind.u8.wrap ((BitVec.ofInt (IntKind.u8).bits (e2.toNat : Int) ^^^ BitVec.ofInt (IntKind.u8).bits (IntKind.u8.wrap ((w64 (1 + (r14.tmod 255)))))).toNat : Int)))))).bind fun r15 =>
     (if r11.2 = true then if (r11.1.toList == r7.toList) = true then some (!r15.2) else some false else some false).bind fun (n : Bool) =>
     some n
end Go.Proofs.YtbedhobglodjbaaDoor
