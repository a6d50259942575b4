/- Models of the functions that the law reaches: plain Lean; none where the function would panic or not end. Made by program (dec.py). -/
import Derived.Test.YteieacgaipcnoaaDoorAbC0
import Derived.Test.YteieacgaipcnoaaDoorAbStr1
import Derived.Test.YteieacgaipcnoaaDoorAbStr2
namespace Go.Proofs.YteieacgaipcnoaaDoor
open Go Go.Ab
set_option maxRecDepth 100000
set_option maxHeartbeats 4000000
set_option linter.unusedVariables false
set_option linter.unusedSimpArgs false
structure Message where
 Kind : Int
 Line : ByteArray
 Stop : ByteArray
 From : Int
 To : Int
 Minutes : Int
instance enc_Message : Enc Message := ⟨6, fun x => .agg [.sc (.int .i64 x.Kind), .sc (.string x.Line), .sc (.string x.Stop), .sc (.int .i64 x.From), .sc (.int .i64 x.To), .sc (.int .i64 x.Minutes)], fun a b h => by
 simp only [D.agg.injEq, List.cons.injEq, and_true] at h
 obtain ⟨a1, a2, a3, a4, a5, a6⟩ := a
 obtain ⟨b1, b2, b3, b4, b5, b6⟩ := b
 obtain ⟨h1, h2, h3, h4, h5, h6⟩ := h
 have q1 := Enc.inj (α := Int) a1 b1 h1
 have q2 := Enc.inj (α := ByteArray) a2 b2 h2
 have q3 := Enc.inj (α := ByteArray) a3 b3 h3
 have q4 := Enc.inj (α := Int) a4 b4 h4
 have q5 := Enc.inj (α := Int) a5 b5 h5
 have q6 := Enc.inj (α := Int) a6 b6 h6
 subst q1; subst q2; subst q3; subst q4; subst q5; subst q6; rfl⟩
structure l24Reader where
 s_ : ByteArray
 at_ : Int
 bad_ : Bool
instance enc_l24Reader : Enc l24Reader := ⟨3, fun x => .agg [.sc (.string x.s_), .sc (.int .i64 x.at_), .sc (.bool x.bad_)], fun a b h => by
 simp only [D.agg.injEq, List.cons.injEq, and_true] at h
 obtain ⟨a1, a2, a3⟩ := a
 obtain ⟨b1, b2, b3⟩ := b
 obtain ⟨h1, h2, h3⟩ := h
 have q1 := Enc.inj (α := ByteArray) a1 b1 h1
 have q2 := Enc.inj (α := Int) a2 b2 h2
 have q3 := Enc.inj (α := Bool) a3 b3 h3
 subst q1; subst q2; subst q3; rfl⟩
instance : BxE Message := ⟨fun x y h => Enc.inj x y (congrArg D.agg h)⟩
instance : BxE l24Reader := ⟨fun x y h => Enc.inj x y (congrArg D.agg h)⟩
instance : FlatEnc Message := ⟨fun _ => flatDB_ok rfl⟩
instance : FlatEnc l24Reader := ⟨fun _ => flatDB_ok rfl⟩
noncomputable def s_l24Reader_take (r : l24Reader) (s : ByteArray) : Option (Bool × l24Reader) :=
 (if r.bad_ = true then some true else if (decide ((r.s_.size : Int) < (w64 (r.at_ + (s.size : Int))))) = true then some true else (chk ((0 : Int) ≤ r.at_ ∧ (r.at_ : Int) ≤ (w64 (r.at_ + (s.size : Int))) ∧ (w64 (r.at_ + (s.size : Int))) ≤ (r.s_.size : Int))).bind fun u1 =>
 some (!((r.s_.extract r.at_.toNat (w64 (r.at_ + (s.size : Int))).toNat).toList == s.toList))).bind fun (v : Bool) =>
 if v = true then
  some (false, r)
 else
  some (true, (⟨r.s_, (w64 (r.at_ + (s.size : Int))), r.bad_⟩ : l24Reader))
noncomputable def s_l24Reader_want (r : l24Reader) (s : ByteArray) : Option (l24Reader) :=
 (s_l24Reader_take r s).bind fun r1 =>
 if (!r1.1) = true then
  some (⟨r1.2.s_, r1.2.at_, true⟩ : l24Reader)
 else
  some r1.2
noncomputable def s_l24Reader_word_L1 (r : l24Reader) : Int → Option (Lp (Int) (Int))
 | v =>
  (if (decide (v < (r.s_.size : Int))) = true then (chk ((0 : Int) ≤ v ∧ v < (r.s_.size : Int))).bind fun u6 =>
  if (decide (97 ≤ ((r.s_.data.toList.getD v.toNat 0).toNat : Int))) = true then (chk ((0 : Int) ≤ v ∧ v < (r.s_.size : Int))).bind fun u7 =>
  if (decide (((r.s_.data.toList.getD v.toNat 0).toNat : Int) ≤ 122)) = true then some true else (chk ((0 : Int) ≤ v ∧ v < (r.s_.size : Int))).bind fun u8 =>
  if (decide (48 ≤ ((r.s_.data.toList.getD v.toNat 0).toNat : Int))) = true then (chk ((0 : Int) ≤ v ∧ v < (r.s_.size : Int))).bind fun u9 =>
  some (decide (((r.s_.data.toList.getD v.toNat 0).toNat : Int) ≤ 57)) else some false else (chk ((0 : Int) ≤ v ∧ v < (r.s_.size : Int))).bind fun u10 =>
  if (decide (48 ≤ ((r.s_.data.toList.getD v.toNat 0).toNat : Int))) = true then (chk ((0 : Int) ≤ v ∧ v < (r.s_.size : Int))).bind fun u11 =>
  some (decide (((r.s_.data.toList.getD v.toNat 0).toNat : Int) ≤ 57)) else some false else some false).bind fun (v1 : Bool) =>
  if v1 = true then
   some (.nx (w64 (v + 1)))
  else
   some (.dn v)
noncomputable def s_l24Reader_word (r : l24Reader) : Option (ByteArray × l24Reader) :=
 (iter (s_l24Reader_word_L1 r) r.at_).bind fun (v2 : Int) =>
 (chk ((0 : Int) ≤ r.at_ ∧ (r.at_ : Int) ≤ v2 ∧ v2 ≤ (r.s_.size : Int))).bind fun u13 =>
 some ((r.s_.extract r.at_.toNat v2.toNat), (⟨r.s_, v2, r.bad_⟩ : l24Reader))
noncomputable def s_l1In (x : Int) (a : Int) (b : Int) : Option (Bool) :=
 (if (decide (a ≤ x)) = true then some (decide (x ≤ b)) else some false).bind fun (v : Bool) =>
 some v
noncomputable def s_l1Num_F (rec_ : Int → Option (ByteArray)) (n : Int) : Option (ByteArray) :=
 if (decide (n < 0)) = true then
  (rec_ (w64 (0 - n))).bind fun r =>
  (chk ((str [45]).size + r.size ≤ 4294967296)).bind fun u =>
  some ((str [45]) ++ r)
 else
  if (decide (n < 10)) = true then
   (chk ((0 : Int) ≤ n ∧ (n : Int) ≤ (w64 (n + 1)) ∧ (w64 (n + 1)) ≤ ((str [48, 49, 50, 51, 52, 53, 54, 55, 56, 57]).size : Int))).bind fun u1 =>
   some ((str [48, 49, 50, 51, 52, 53, 54, 55, 56, 57]).extract n.toNat (w64 (n + 1)).toNat)
  else
   (chk ((10 : Int) ≠ 0)).bind fun u7 =>
   (rec_ (w64 (n.tdiv 10))).bind fun r2 =>
   (chk ((10 : Int) ≠ 0)).bind fun u8 =>
   (chk ((10 : Int) ≠ 0)).bind fun u9 =>
   (chk ((0 : Int) ≤ (n.tmod 10) ∧ ((n.tmod 10) : Int) ≤ (w64 ((n.tmod 10) + 1)) ∧ (w64 ((n.tmod 10) + 1)) ≤ ((str [48, 49, 50, 51, 52, 53, 54, 55, 56, 57]).size : Int))).bind fun u10 =>
   (chk (r2.size + ((str [48, 49, 50, 51, 52, 53, 54, 55, 56, 57]).extract (n.tmod 10).toNat (w64 ((n.tmod 10) + 1)).toNat).size ≤ 4294967296)).bind fun u11 =>
   some (r2 ++ ((str [48, 49, 50, 51, 52, 53, 54, 55, 56, 57]).extract (n.tmod 10).toNat (w64 ((n.tmod 10) + 1)).toNat))
noncomputable def s_l1Num_k : Nat → Int → Option (ByteArray)
 | 0 => fun _ => none
 | n + 1 => s_l1Num_F (s_l1Num_k n)
noncomputable def s_l1Num (n : Int) : Option (ByteArray) := s_l1Num_k 4294967296 n
noncomputable def s_l1Read_L1 (n : ByteArray) : Int × Int → Option (Lp (Int × Int) (Fl (Int × Bool) (Int)))
 | (i, v1) =>
  if (decide (v1 < (n.size : Int))) = true then
   (chk ((0 : Int) ≤ v1 ∧ v1 < (n.size : Int))).bind fun u2 =>
   (if (decide (((n.data.toList.getD v1.toNat 0).toNat : Int) < 48)) = true then some true else (chk ((0 : Int) ≤ v1 ∧ v1 < (n.size : Int))).bind fun u3 =>
   some (decide (57 < ((n.data.toList.getD v1.toNat 0).toNat : Int)))).bind fun (v2 : Bool) =>
   if v2 = true then
    some (.dn (.ret (0, false)))
   else
    (chk ((0 : Int) ≤ v1 ∧ v1 < (n.size : Int))).bind fun u4 =>
    some (.nx ((w64 ((w64 (10 * i)) + (w64 ((IntKind.u8.wrap (((n.data.toList.getD v1.toNat 0).toNat : Int) - 48)))))), (w64 (v1 + 1))))
  else
   some (.dn (.go i))
noncomputable def s_l1Read (s : ByteArray) : Option (Int × Bool) :=
 ((if (decide (1 < (s.size : Int))) = true then (chk ((0 : Int) ≤ 0 ∧ 0 < (s.size : Int))).bind fun u =>
 some (((s.data.toList.getD (0 : Int).toNat 0).toNat : Int) == 45) else some false).bind fun (v : Bool) =>
 if v = true then
  (chk ((0 : Int) ≤ 1 ∧ 1 ≤ (s.size : Int))).bind fun u1 =>
  some (s.extract (1 : Int).toNat s.size)
 else
  some s).bind fun (n : ByteArray) =>
 (s_l1In (n.size : Int) 1 6).bind fun r =>
 if (!r) = true then
  some (0, false)
 else
  flb (iter (s_l1Read_L1 n) ((0 : Int), (0 : Int))) fun (i1 : Int) =>
  (if (decide ((n.size : Int) < (s.size : Int))) = true then
   some (w64 (0 - i1))
  else
   some i1).bind fun (i2 : Int) =>
  (s_l1Num i2).bind fun r2 =>
  if (!(r2.toList == s.toList)) = true then
   some (0, false)
  else
   some (i2, true)
noncomputable def s_l4Time (t : Int) : Option (Bool) :=
 (s_l1In t 0 1799).bind fun r =>
 some r
noncomputable def s_l4Two (n : Int) : Option (ByteArray) :=
 (chk ((10 : Int) ≠ 0)).bind fun u7 =>
 (chk ((10 : Int) ≠ 0)).bind fun u8 =>
 (chk ((0 : Int) ≤ (w64 (n.tdiv 10)) ∧ ((w64 (n.tdiv 10)) : Int) ≤ (w64 ((w64 (n.tdiv 10)) + 1)) ∧ (w64 ((w64 (n.tdiv 10)) + 1)) ≤ ((str [48, 49, 50, 51, 52, 53, 54, 55, 56, 57]).size : Int))).bind fun u9 =>
 (chk ((10 : Int) ≠ 0)).bind fun u10 =>
 (chk ((10 : Int) ≠ 0)).bind fun u11 =>
 (chk ((0 : Int) ≤ (n.tmod 10) ∧ ((n.tmod 10) : Int) ≤ (w64 ((n.tmod 10) + 1)) ∧ (w64 ((n.tmod 10) + 1)) ≤ ((str [48, 49, 50, 51, 52, 53, 54, 55, 56, 57]).size : Int))).bind fun u12 =>
 (chk (((str [48, 49, 50, 51, 52, 53, 54, 55, 56, 57]).extract (w64 (n.tdiv 10)).toNat (w64 ((w64 (n.tdiv 10)) + 1)).toNat).size + ((str [48, 49, 50, 51, 52, 53, 54, 55, 56, 57]).extract (n.tmod 10).toNat (w64 ((n.tmod 10) + 1)).toNat).size ≤ 4294967296)).bind fun u13 =>
 some (((str [48, 49, 50, 51, 52, 53, 54, 55, 56, 57]).extract (w64 (n.tdiv 10)).toNat (w64 ((w64 (n.tdiv 10)) + 1)).toNat) ++ ((str [48, 49, 50, 51, 52, 53, 54, 55, 56, 57]).extract (n.tmod 10).toNat (w64 ((n.tmod 10) + 1)).toNat))
noncomputable def s_l4Text (t : Int) : Option (ByteArray) :=
 (chk ((60 : Int) ≠ 0)).bind fun u =>
 (s_l4Two (w64 (t.tdiv 60))).bind fun r =>
 (chk (r.size + (str [58]).size ≤ 4294967296)).bind fun u1 =>
 (chk ((60 : Int) ≠ 0)).bind fun u2 =>
 (s_l4Two (t.tmod 60)).bind fun r1 =>
 (chk ((r ++ (str [58])).size + r1.size ≤ 4294967296)).bind fun u3 =>
 some ((r ++ (str [58])) ++ r1)
noncomputable def s_l4Parse (s : ByteArray) : Option (Int × Bool) :=
 if ((s.size : Int) != 5) = true then
  some (0, false)
 else
  (chk ((0 : Int) ≤ 0 ∧ 0 < (s.size : Int))).bind fun u4 =>
  (chk ((0 : Int) ≤ 1 ∧ 1 < (s.size : Int))).bind fun u5 =>
  (chk ((0 : Int) ≤ 3 ∧ 3 < (s.size : Int))).bind fun u6 =>
  (chk ((0 : Int) ≤ 4 ∧ 4 < (s.size : Int))).bind fun u7 =>
  (s_l4Time (w64 ((w64 ((w64 ((w64 ((w64 ((w64 ((w64 ((w64 ((w64 (((s.data.toList.getD (0 : Int).toNat 0).toNat : Int))) - 48)) * 10)) + (w64 (((s.data.toList.getD (1 : Int).toNat 0).toNat : Int))))) - 48)) * 60)) + (w64 ((w64 ((w64 (((s.data.toList.getD (3 : Int).toNat 0).toNat : Int))) - 48)) * 10)))) + (w64 (((s.data.toList.getD (4 : Int).toNat 0).toNat : Int))))) - 48))).bind fun r =>
  (if (!r) = true then some true else (s_l4Text (w64 ((w64 ((w64 ((w64 ((w64 ((w64 ((w64 ((w64 ((w64 (((s.data.toList.getD (0 : Int).toNat 0).toNat : Int))) - 48)) * 10)) + (w64 (((s.data.toList.getD (1 : Int).toNat 0).toNat : Int))))) - 48)) * 60)) + (w64 ((w64 ((w64 (((s.data.toList.getD (3 : Int).toNat 0).toNat : Int))) - 48)) * 10)))) + (w64 (((s.data.toList.getD (4 : Int).toNat 0).toNat : Int))))) - 48))).bind fun r1 =>
  some (!(r1.toList == s.toList))).bind fun (v : Bool) =>
  if v = true then
   some (0, false)
  else
   some ((w64 ((w64 ((w64 ((w64 ((w64 ((w64 ((w64 ((w64 ((w64 (((s.data.toList.getD (0 : Int).toNat 0).toNat : Int))) - 48)) * 10)) + (w64 (((s.data.toList.getD (1 : Int).toNat 0).toNat : Int))))) - 48)) * 60)) + (w64 ((w64 ((w64 (((s.data.toList.getD (3 : Int).toNat 0).toNat : Int))) - 48)) * 10)))) + (w64 (((s.data.toList.getD (4 : Int).toNat 0).toNat : Int))))) - 48)), true)
noncomputable def s_l24Reader_time (r : l24Reader) : Option (Int × l24Reader) :=
 (if r.bad_ = true then some true else some (decide ((r.s_.size : Int) < (w64 (r.at_ + 5))))).bind fun (v : Bool) =>
 if v = true then
  some (0, (⟨r.s_, r.at_, true⟩ : l24Reader))
 else
  (chk ((0 : Int) ≤ r.at_ ∧ (r.at_ : Int) ≤ (w64 (r.at_ + 5)) ∧ (w64 (r.at_ + 5)) ≤ (r.s_.size : Int))).bind fun u1 =>
  (s_l4Parse (r.s_.extract r.at_.toNat (w64 (r.at_ + 5)).toNat)).bind fun r2 =>
  some (r2.1, (⟨r.s_, (w64 (r.at_ + 5)), (!r2.2)⟩ : l24Reader))
noncomputable def s_l24Reader_sentence (r : l24Reader) : Option (Message × l24Reader) :=
 ((s_l24Reader_take r (str [76, 105, 110, 101, 32])).bind fun r1 =>
 if r1.1 = true then
  (s_l24Reader_word r1.2).bind fun r2 =>
  (s_l24Reader_want r2.2 (str [32, 105, 115, 32, 100, 101, 108, 97, 121, 101, 100, 32, 98, 121, 32])).bind fun r3 =>
  (s_l24Reader_word r3).bind fun r4 =>
  (s_l1Read r4.1).bind fun r5 =>
  (if r4.2.bad_ = true then some true else some (!r5.2)).bind fun (v9 : Bool) =>
  if (r5.1 == 1) = true then
   (s_l24Reader_want (⟨r4.2.s_, r4.2.at_, v9⟩ : l24Reader) (str [32, 109, 105, 110, 117, 116, 101, 46])).bind fun r6 =>
   some (r6.s_, r6.at_, r6.bad_, (1 : Int), r2.1, ByteArray.empty, (0 : Int), (0 : Int), r5.1)
  else
   (s_l24Reader_want (⟨r4.2.s_, r4.2.at_, v9⟩ : l24Reader) (str [32, 109, 105, 110, 117, 116, 101, 115, 46])).bind fun r7 =>
   some (r7.s_, r7.at_, r7.bad_, (1 : Int), r2.1, ByteArray.empty, (0 : Int), (0 : Int), r5.1)
 else
  (s_l24Reader_take r1.2 (str [84, 104, 101, 32, 115, 116, 111, 112, 32])).bind fun r8 =>
  if r8.1 = true then
   (s_l24Reader_word r8.2).bind fun r9 =>
   (s_l24Reader_want r9.2 (str [32, 105, 115, 32, 99, 108, 111, 115, 101, 100, 32, 102, 114, 111, 109, 32])).bind fun r10 =>
   (s_l24Reader_time r10).bind fun r11 =>
   (s_l24Reader_want r11.2 (str [32, 116, 111, 32])).bind fun r12 =>
   (s_l24Reader_time r12).bind fun r13 =>
   (s_l24Reader_want r13.2 (str [46])).bind fun r14 =>
   some (r14.s_, r14.at_, r14.bad_, (3 : Int), ByteArray.empty, r9.1, r11.1, r13.1, (0 : Int))
  else
   (s_l24Reader_take r8.2 (str [70, 114, 111, 109, 32])).bind fun r15 =>
   if r15.1 = true then
    (s_l24Reader_time r15.2).bind fun r16 =>
    (s_l24Reader_want r16.2 (str [32, 116, 111, 32])).bind fun r17 =>
    (s_l24Reader_time r17).bind fun r18 =>
    (s_l24Reader_want r18.2 (str [44, 32, 108, 105, 110, 101, 32])).bind fun r19 =>
    (s_l24Reader_word r19).bind fun r20 =>
    (s_l24Reader_want r20.2 (str [32, 114, 117, 110, 115, 32, 111, 110, 108, 121, 32, 97, 115, 32, 102, 97, 114, 32, 97, 115, 32])).bind fun r21 =>
    (s_l24Reader_word r21).bind fun r22 =>
    (s_l24Reader_want r22.2 (str [46])).bind fun r23 =>
    some (r23.s_, r23.at_, r23.bad_, (4 : Int), r20.1, r22.1, r16.1, r18.1, (0 : Int))
   else
    (s_l24Reader_want r15.2 (str [84, 104, 101, 32, 100, 101, 112, 97, 114, 116, 117, 114, 101, 32, 111, 102, 32, 108, 105, 110, 101, 32])).bind fun r24 =>
    (s_l24Reader_word r24).bind fun r25 =>
    (s_l24Reader_want r25.2 (str [32, 97, 116, 32])).bind fun r26 =>
    (s_l24Reader_time r26).bind fun r27 =>
    (s_l24Reader_take r27.2 (str [32, 105, 115, 32, 99, 97, 110, 99, 101, 108, 108, 101, 100, 46])).bind fun r28 =>
    if (!r28.1) = true then
     (s_l24Reader_want r28.2 (str [32, 105, 115, 32, 101, 120, 112, 101, 99, 116, 101, 100, 32, 116, 111, 32, 98, 101, 32, 99, 114, 111, 119, 100, 101, 100, 46])).bind fun r29 =>
     some (r29.s_, r29.at_, r29.bad_, (5 : Int), r25.1, ByteArray.empty, r27.1, (0 : Int), (0 : Int))
    else
     some (r28.2.s_, r28.2.at_, r28.2.bad_, (2 : Int), r25.1, ByteArray.empty, r27.1, (0 : Int), (0 : Int))).bind fun ((v, v1, v2, v3, v4, v5, v6, v7, v8) : ByteArray × Int × Bool × Int × ByteArray × ByteArray × Int × Int × Int) =>
 some ((⟨v3, v4, v5, v6, v7, v8⟩ : Message), (⟨v, v1, v2⟩ : l24Reader))
noncomputable def s_l2Name_L1 (s : ByteArray) : Int → Option (Lp (Int) (Fl (Bool) (Unit)))
 | v1 =>
  if (decide (v1 < (s.size : Int))) = true then
   (chk ((0 : Int) ≤ v1 ∧ v1 < (s.size : Int))).bind fun u2 =>
   (if (decide (((s.data.toList.getD v1.toNat 0).toNat : Int) < 97)) = true then (chk ((0 : Int) ≤ v1 ∧ v1 < (s.size : Int))).bind fun u3 =>
   if (decide (((s.data.toList.getD v1.toNat 0).toNat : Int) < 48)) = true then some true else (chk ((0 : Int) ≤ v1 ∧ v1 < (s.size : Int))).bind fun u4 =>
   some (decide (57 < ((s.data.toList.getD v1.toNat 0).toNat : Int))) else (chk ((0 : Int) ≤ v1 ∧ v1 < (s.size : Int))).bind fun u5 =>
   if (decide (122 < ((s.data.toList.getD v1.toNat 0).toNat : Int))) = true then (chk ((0 : Int) ≤ v1 ∧ v1 < (s.size : Int))).bind fun u6 =>
   if (decide (((s.data.toList.getD v1.toNat 0).toNat : Int) < 48)) = true then some true else (chk ((0 : Int) ≤ v1 ∧ v1 < (s.size : Int))).bind fun u7 =>
   some (decide (57 < ((s.data.toList.getD v1.toNat 0).toNat : Int))) else some false).bind fun (v2 : Bool) =>
   if v2 = true then
    some (.dn (.ret false))
   else
    some (.nx (w64 (v1 + 1)))
  else
   some (.dn (.go ()))
noncomputable def s_l2Name (s : ByteArray) : Option (Bool) :=
 (s_l1In (s.size : Int) 1 8).bind fun r =>
 (if (!r) = true then some true else (chk ((0 : Int) ≤ 0 ∧ 0 < (s.size : Int))).bind fun u =>
 if (decide (((s.data.toList.getD (0 : Int).toNat 0).toNat : Int) < 97)) = true then some true else (chk ((0 : Int) ≤ 0 ∧ 0 < (s.size : Int))).bind fun u1 =>
 some (decide (122 < ((s.data.toList.getD (0 : Int).toNat 0).toNat : Int)))).bind fun (v : Bool) =>
 if v = true then
  some false
 else
  flb (iter (s_l2Name_L1 s) (0 : Int)) fun (_ : Unit) =>
  some true
noncomputable def s_l24Good (m : Message) : Option (Bool) :=
 if (m.Kind == 1) = true then
  (if ((m.Kind == m.Kind) && ((m.Line.toList == m.Line.toList) && ((m.Stop.toList == ByteArray.empty.toList) && ((m.From == 0) && ((m.To == 0) && ((m.Minutes == m.Minutes) && true)))))) = true then (s_l2Name m.Line).bind fun r =>
  if r = true then (s_l1In m.Minutes 1 600).bind fun r1 =>
  some r1 else some false else some false).bind fun (x : Bool) =>
  some x
 else
  (if (m.Kind == 2) = true then
   some (m.Kind == 2)
  else
   some (m.Kind == 5)).bind fun (v : Bool) =>
  if v = true then
   (if ((m.Kind == m.Kind) && ((m.Line.toList == m.Line.toList) && ((m.Stop.toList == ByteArray.empty.toList) && ((m.From == m.From) && ((m.To == 0) && ((m.Minutes == 0) && true)))))) = true then (s_l2Name m.Line).bind fun r2 =>
   if r2 = true then (s_l4Time m.From).bind fun r3 =>
   some r3 else some false else some false).bind fun (x1 : Bool) =>
   some x1
  else
   if (m.Kind == 3) = true then
    (if (m.Line.toList == (str []).toList) = true then if (m.Minutes == 0) = true then (s_l2Name m.Stop).bind fun r4 =>
    if r4 = true then (s_l4Time m.From).bind fun r5 =>
    if r5 = true then (s_l4Time m.To).bind fun r6 =>
    if r6 = true then some (decide (m.From ≤ m.To)) else some false else some false else some false else some false else some false).bind fun (x2 : Bool) =>
    some x2
   else
    if (m.Kind == 4) = true then
     (if (m.Minutes == 0) = true then (s_l2Name m.Line).bind fun r7 =>
     if r7 = true then (s_l2Name m.Stop).bind fun r8 =>
     if r8 = true then (s_l4Time m.From).bind fun r9 =>
     if r9 = true then (s_l4Time m.To).bind fun r10 =>
     if r10 = true then some (decide (m.From ≤ m.To)) else some false else some false else some false else some false else some false).bind fun (x3 : Bool) =>
     some x3
    else
     some false
noncomputable def s_l24Notice_L1 (list : List Message) : Int → Option (Lp (Int) (Fl (Bool) (Unit)))
 | v =>
  if (decide (v < (list.length : Int))) = true then
   (idx list v).bind fun e =>
   (s_l24Good e).bind fun r =>
   if (!r) = true then
    some (.dn (.ret false))
   else
    some (.nx (w64 (v + 1)))
  else
   some (.dn (.go ()))
noncomputable def s_l24Notice (list : List Message) : Option (Bool) :=
 flb (iter (s_l24Notice_L1 list) (0 : Int)) fun (_ : Unit) =>
 some (decide ((list.length : Int) ≤ 10))
noncomputable def s_ParseNotice_L1 (s : ByteArray) : (List Message) × ByteArray × Int × Bool → Option (Lp ((List Message) × ByteArray × Int × Bool) ((List Message) × ByteArray × Int × Bool))
 | (r, v, v1, v2) =>
  (if (!v2) = true then if (decide (v1 < (s.size : Int))) = true then some (decide ((r.length : Int) ≤ 10)) else some false else some false).bind fun (v3 : Bool) =>
  if v3 = true then
   (if (decide (0 < (r.length : Int))) = true then
    (s_l24Reader_want (⟨v, v1, v2⟩ : l24Reader) (str [32])).bind fun r1 =>
    some (r1.s_, r1.at_, r1.bad_)
   else
    some (v, v1, v2)).bind fun ((v4, v5, v6) : ByteArray × Int × Bool) =>
   (s_l24Reader_sentence (⟨v4, v5, v6⟩ : l24Reader)).bind fun r2 =>
   (chk (r.length + ([r2.1] : List Message).length ≤ 4294967296)).bind fun u =>
   some (.nx ((r ++ ([r2.1] : List Message)), r2.2.s_, r2.2.at_, r2.2.bad_))
  else
   some (.dn (r, v, v1, v2))
noncomputable def s_ParseNotice (s : ByteArray) : Option ((List Message) × Bool) :=
 (iter (s_ParseNotice_L1 s) (([] : List Message), s, (0 : Int), false)).bind fun ((r3, v7, v8, v9) : (List Message) × ByteArray × Int × Bool) =>
 (if v9 = true then some true else if (v8 != (s.size : Int)) = true then some true else (s_l24Notice r3).bind fun r4 =>
 some (!r4)).bind fun (v10 : Bool) =>
 if v10 = true then
  some (([] : List Message), false)
 else
  some (r3, true)
noncomputable def strings_genSplit (s : ByteArray) (sep : ByteArray) (sepSave : Int) (n : Int) : Option ((List ByteArray)) :=
 genSplitM s sep sepSave n
noncomputable def strings_SplitAfterN (s : ByteArray) (sep : ByteArray) (n : Int) : Option ((List ByteArray)) :=
 (strings_genSplit s sep (sep.size : Int) n).bind fun r =>
 some r
noncomputable def strings_Split (s : ByteArray) (sep : ByteArray) : Option ((List ByteArray)) :=
 splitM s sep
noncomputable def strings_Cut (s : ByteArray) (sep : ByteArray) : Option (ByteArray × ByteArray × Bool) :=
 cutM s sep
noncomputable def strings_CutPrefix (s : ByteArray) (prefix_ : ByteArray) : Option (ByteArray × Bool) :=
 cutPrefixM s prefix_
noncomputable def strings_CutSuffix (s : ByteArray) (suffix : ByteArray) : Option (ByteArray × Bool) :=
 cutSuffixM s suffix
noncomputable def i_fields_L1 (r : (List ByteArray)) (r1 : (List ByteArray)) : Int × (List ByteArray) → Option (Lp (Int × (List ByteArray)) (Fl ((List ByteArray) × Bool) ((List ByteArray))))
 | (v, p) =>
  if (decide (v < (r1.length : Int))) = true then
   flb ((idx r1 v).bind fun e =>
   (strings_Cut e (str [42])).bind fun r2 =>
   (idx r v).bind fun e1 =>
   (if (!r2.2.2) = true then some (!(e1.toList == e.toList)) else some false).bind fun (v1 : Bool) =>
   if v1 = true then
    some (.ret (.dn (.ret (([] : List ByteArray), false))))
   else
    if r2.2.2 = true then
     (strings_CutPrefix e1 r2.1).bind fun r5 =>
     (strings_CutSuffix r5.1 r2.2.1).bind fun r6 =>
     (if (!r5.2) = true then some true else some (!r6.2)).bind fun (v2 : Bool) =>
     if v2 = true then
      some (.ret (.dn (.ret (([] : List ByteArray), false))))
     else
      (chk (p.length + ([r6.1] : List ByteArray).length ≤ 4294967296)).bind fun u =>
      some (.go (p ++ ([r6.1] : List ByteArray)))
    else
     some (.go p)) fun (p1 : List ByteArray) =>
   some (.nx ((w64 (v + 1)), p1))
  else
   some (.dn (.go p))
noncomputable def i_fields (s : ByteArray) (pattern : ByteArray) : Option ((List ByteArray) × Bool) :=
 (strings_Split s (str [32])).bind fun r =>
 (strings_Split pattern (str [32])).bind fun r1 =>
 if ((r.length : Int) != (r1.length : Int)) = true then
  some (([] : List ByteArray), false)
 else
  flb (iter (i_fields_L1 r r1) ((0 : Int), ([] : List ByteArray))) fun (p2 : List ByteArray) =>
  some (p2, true)
noncomputable def i_natural_L1 (s : ByteArray) : Int × Int → Option (Lp (Int × Int) (Fl (Int × ByteArray × Bool) (Int × Int)))
 | (i, v) =>
  (if (decide (v < (s.size : Int))) = true then (chk ((0 : Int) ≤ v ∧ v < (s.size : Int))).bind fun u =>
  if (decide (48 ≤ ((s.data.toList.getD v.toNat 0).toNat : Int))) = true then (chk ((0 : Int) ≤ v ∧ v < (s.size : Int))).bind fun u1 =>
  some (decide (((s.data.toList.getD v.toNat 0).toNat : Int) ≤ 57)) else some false else some false).bind fun (v1 : Bool) =>
  if v1 = true then
   (if (v == 6) = true then some true else if (v == 1) = true then some (i == 0) else some false).bind fun (v2 : Bool) =>
   if v2 = true then
    some (.dn (.ret (0, (str []), false)))
   else
    (chk ((0 : Int) ≤ v ∧ v < (s.size : Int))).bind fun u2 =>
    some (.nx ((w64 ((w64 (i * 10)) + (w64 ((IntKind.u8.wrap (((s.data.toList.getD v.toNat 0).toNat : Int) - 48)))))), (w64 (v + 1))))
  else
   some (.dn (.go (i, v)))
noncomputable def i_natural (s : ByteArray) : Option (Int × ByteArray × Bool) :=
 flb (iter (i_natural_L1 s) ((0 : Int), (0 : Int))) fun ((i1, v3) : Int × Int) =>
 (chk ((0 : Int) ≤ v3 ∧ v3 ≤ (s.size : Int))).bind fun u4 =>
 some (i1, (s.extract v3.toNat s.size), (decide (0 < v3)))
noncomputable def i_ParseInt (s : ByteArray) : Option (Int × Bool) :=
 (strings_CutPrefix s (str [45])).bind fun r =>
 (i_natural r.1).bind fun r1 =>
 (if (!r1.2.2) = true then some true else if (!(r1.2.1.toList == (str []).toList)) = true then some true else if r.2 = true then some (r1.1 == 0) else some false).bind fun (v : Bool) =>
 if v = true then
  some (0, false)
 else
  (if r.2 = true then
   some (w64 (0 - r1.1))
  else
   some r1.1).bind fun (rest : Int) =>
  some (rest, true)
noncomputable def i_within (n : Int) (lo : Int) (hi : Int) : Option (Bool) :=
 (if (decide (lo ≤ n)) = true then some (decide (n ≤ hi)) else some false).bind fun (v : Bool) =>
 some v
noncomputable def i_IsValidTime (t : Int) : Option (Bool) :=
 (i_within t 0 1799).bind fun r =>
 some r
noncomputable def i_ParseTime_L1 (s : ByteArray) : Int → Option (Lp (Int) (Fl (Int × Bool) (Unit)))
 | v1 =>
  if (decide (v1 < 4)) = true then
   (chk ((0 : Int) ≤ v1 ∧ (v1 : Int) < 4)).bind fun u1 =>
   (idx ([0, 1, 3, 4] : List Int) v1).bind fun e =>
   (chk ((0 : Int) ≤ e ∧ e < (s.size : Int))).bind fun u2 =>
   (if (decide (((s.data.toList.getD e.toNat 0).toNat : Int) < 48)) = true then some true else (chk ((0 : Int) ≤ e ∧ e < (s.size : Int))).bind fun u3 =>
   some (decide (57 < ((s.data.toList.getD e.toNat 0).toNat : Int)))).bind fun (v2 : Bool) =>
   if v2 = true then
    some (.dn (.ret (0, false)))
   else
    some (.nx (w64 (v1 + 1)))
  else
   some (.dn (.go ()))
noncomputable def i_ParseTime (s : ByteArray) : Option (Int × Bool) :=
 (if ((s.size : Int) != 5) = true then some true else (chk ((0 : Int) ≤ 2 ∧ 2 < (s.size : Int))).bind fun u =>
 some (((s.data.toList.getD (2 : Int).toNat 0).toNat : Int) != 58)).bind fun (v : Bool) =>
 if v = true then
  some (0, false)
 else
  flb (iter (i_ParseTime_L1 s) (0 : Int)) fun (_ : Unit) =>
  (chk ((0 : Int) ≤ 0 ∧ 0 < (s.size : Int))).bind fun u8 =>
  (chk ((0 : Int) ≤ 1 ∧ 1 < (s.size : Int))).bind fun u9 =>
  (chk ((0 : Int) ≤ 3 ∧ 3 < (s.size : Int))).bind fun u10 =>
  (chk ((0 : Int) ≤ 4 ∧ 4 < (s.size : Int))).bind fun u11 =>
  (chk ((0 : Int) ≤ 3 ∧ 3 < (s.size : Int))).bind fun u12 =>
  (if (decide (53 < ((s.data.toList.getD (3 : Int).toNat 0).toNat : Int))) = true then some true else (i_IsValidTime (w64 ((w64 ((w64 ((w64 ((w64 ((w64 ((IntKind.u8.wrap (((s.data.toList.getD (0 : Int).toNat 0).toNat : Int) - 48)))) * 10)) + (w64 ((IntKind.u8.wrap (((s.data.toList.getD (1 : Int).toNat 0).toNat : Int) - 48)))))) * 60)) + (w64 ((w64 ((IntKind.u8.wrap (((s.data.toList.getD (3 : Int).toNat 0).toNat : Int) - 48)))) * 10)))) + (w64 ((IntKind.u8.wrap (((s.data.toList.getD (4 : Int).toNat 0).toNat : Int) - 48))))))).bind fun r1 =>
  some (!r1)).bind fun (v3 : Bool) =>
  if v3 = true then
   some (0, false)
  else
   some ((w64 ((w64 ((w64 ((w64 ((w64 ((w64 ((IntKind.u8.wrap (((s.data.toList.getD (0 : Int).toNat 0).toNat : Int) - 48)))) * 10)) + (w64 ((IntKind.u8.wrap (((s.data.toList.getD (1 : Int).toNat 0).toNat : Int) - 48)))))) * 60)) + (w64 ((w64 ((IntKind.u8.wrap (((s.data.toList.getD (3 : Int).toNat 0).toNat : Int) - 48)))) * 10)))) + (w64 ((IntKind.u8.wrap (((s.data.toList.getD (4 : Int).toNat 0).toNat : Int) - 48)))))), true)
noncomputable def i_parseMessage (s : ByteArray) : Option (Message) :=
 (i_fields s (str [76, 105, 110, 101, 32, 42, 32, 105, 115, 32, 100, 101, 108, 97, 121, 101, 100, 32, 98, 121, 32, 42, 32, 42, 46])).bind fun r =>
 if r.2 = true then
  (idx r.1 1).bind fun e =>
  (i_ParseInt e).bind fun r1 =>
  (idx r.1 0).bind fun e1 =>
  some (⟨1, e1, ByteArray.empty, 0, 0, r1.1⟩ : Message)
 else
  (i_fields s (str [84, 104, 101, 32, 100, 101, 112, 97, 114, 116, 117, 114, 101, 32, 111, 102, 32, 108, 105, 110, 101, 32, 42, 32, 97, 116, 32, 42, 32, 105, 115, 32, 99, 97, 110, 99, 101, 108, 108, 101, 100, 46])).bind fun r2 =>
  if r2.2 = true then
   (idx r2.1 1).bind fun e2 =>
   (i_ParseTime e2).bind fun r3 =>
   (idx r2.1 0).bind fun e3 =>
   some (⟨2, e3, ByteArray.empty, r3.1, 0, 0⟩ : Message)
  else
   (i_fields s (str [84, 104, 101, 32, 115, 116, 111, 112, 32, 42, 32, 105, 115, 32, 99, 108, 111, 115, 101, 100, 32, 102, 114, 111, 109, 32, 42, 32, 116, 111, 32, 42, 46])).bind fun r4 =>
   if r4.2 = true then
    (idx r4.1 1).bind fun e4 =>
    (i_ParseTime e4).bind fun r5 =>
    (idx r4.1 2).bind fun e5 =>
    (i_ParseTime e5).bind fun r6 =>
    (idx r4.1 0).bind fun e6 =>
    some (⟨3, ByteArray.empty, e6, r5.1, r6.1, 0⟩ : Message)
   else
    (i_fields s (str [70, 114, 111, 109, 32, 42, 32, 116, 111, 32, 42, 44, 32, 108, 105, 110, 101, 32, 42, 32, 114, 117, 110, 115, 32, 111, 110, 108, 121, 32, 97, 115, 32, 102, 97, 114, 32, 97, 115, 32, 42, 46])).bind fun r7 =>
    if r7.2 = true then
     (idx r7.1 0).bind fun e7 =>
     (i_ParseTime e7).bind fun r8 =>
     (idx r7.1 1).bind fun e8 =>
     (i_ParseTime e8).bind fun r9 =>
     (idx r7.1 2).bind fun e11 =>
     (idx r7.1 3).bind fun e12 =>
     some (⟨4, e11, e12, r8.1, r9.1, 0⟩ : Message)
    else
     (i_fields s (str [84, 104, 101, 32, 100, 101, 112, 97, 114, 116, 117, 114, 101, 32, 111, 102, 32, 108, 105, 110, 101, 32, 42, 32, 97, 116, 32, 42, 32, 105, 115, 32, 101, 120, 112, 101, 99, 116, 101, 100, 32, 116, 111, 32, 98, 101, 32, 99, 114, 111, 119, 100, 101, 100, 46])).bind fun r10 =>
     if r10.2 = true then
      (idx r10.1 1).bind fun e13 =>
      (i_ParseTime e13).bind fun r11 =>
      (idx r10.1 0).bind fun e14 =>
      some (⟨5, e14, ByteArray.empty, r11.1, 0, 0⟩ : Message)
     else
      some (⟨0, ByteArray.empty, ByteArray.empty, 0, 0, 0⟩ : Message)
noncomputable def i_isName_L1 (s : ByteArray) : Int → Option (Lp (Int) (Fl (Bool) (Unit)))
 | v1 =>
  if (decide (v1 < (s.size : Int))) = true then
   (chk ((0 : Int) ≤ v1 ∧ v1 < (s.size : Int))).bind fun u =>
   (if (decide (97 ≤ ((s.data.toList.getD v1.toNat 0).toNat : Int))) = true then (chk ((0 : Int) ≤ v1 ∧ v1 < (s.size : Int))).bind fun u1 =>
   some (decide (((s.data.toList.getD v1.toNat 0).toNat : Int) ≤ 122)) else some false).bind fun (v2 : Bool) =>
   (if (!v2) = true then if (v1 == 0) = true then some true else (chk ((0 : Int) ≤ v1 ∧ v1 < (s.size : Int))).bind fun u2 =>
   if (decide (((s.data.toList.getD v1.toNat 0).toNat : Int) < 48)) = true then some true else (chk ((0 : Int) ≤ v1 ∧ v1 < (s.size : Int))).bind fun u3 =>
   some (decide (57 < ((s.data.toList.getD v1.toNat 0).toNat : Int))) else some false).bind fun (v3 : Bool) =>
   if v3 = true then
    some (.dn (.ret false))
   else
    some (.nx (w64 (v1 + 1)))
  else
   some (.dn (.go ()))
noncomputable def i_isName (s : ByteArray) : Option (Bool) :=
 (if (decide ((s.size : Int) < 1)) = true then some true else some (decide (8 < (s.size : Int)))).bind fun (v : Bool) =>
 if v = true then
  some false
 else
  flb (iter (i_isName_L1 s) (0 : Int)) fun (_ : Unit) =>
  some true
noncomputable def i_isPeriod (m : Message) : Option (Bool) :=
 (i_IsValidTime m.From).bind fun r =>
 (if r = true then (i_IsValidTime m.To).bind fun r1 =>
 if r1 = true then some (decide (m.From ≤ m.To)) else some false else some false).bind fun (v : Bool) =>
 some v
noncomputable def i_IsValidMessage (m : Message) : Option (Bool) :=
 flb (if (m.Kind == 1) = true then
  (i_isName m.Line).bind fun r =>
  (if (!r) = true then some true else (i_within m.Minutes 1 600).bind fun r1 =>
  some (!r1)).bind fun (v5 : Bool) =>
  if v5 = true then
   some (.ret false)
  else
   some (.go ((str []), m.Stop, m.From, m.To, (0 : Int)))
 else
  (if (m.Kind == 2) = true then
   some (m.Kind == 2)
  else
   some (m.Kind == 5)).bind fun (v6 : Bool) =>
  if v6 = true then
   (i_isName m.Line).bind fun r3 =>
   (if (!r3) = true then some true else (i_IsValidTime m.From).bind fun r4 =>
   some (!r4)).bind fun (v7 : Bool) =>
   if v7 = true then
    some (.ret false)
   else
    some (.go ((str []), m.Stop, (0 : Int), m.To, m.Minutes))
  else
   if (m.Kind == 3) = true then
    (i_isName m.Stop).bind fun r6 =>
    (if (!r6) = true then some true else (i_isPeriod m).bind fun r7 =>
    some (!r7)).bind fun (v8 : Bool) =>
    if v8 = true then
     some (.ret false)
    else
     some (.go (m.Line, (str []), (0 : Int), (0 : Int), m.Minutes))
   else
    if (m.Kind == 4) = true then
     (i_isName m.Line).bind fun r9 =>
     (if (!r9) = true then some true else (i_isName m.Stop).bind fun r10 =>
     if (!r10) = true then some true else (i_isPeriod m).bind fun r11 =>
     some (!r11)).bind fun (v9 : Bool) =>
     if v9 = true then
      some (.ret false)
     else
      some (.go ((str []), (str []), (0 : Int), (0 : Int), m.Minutes))
    else
     some (.ret false)) fun ((v, v1, v2, v3, v4) : ByteArray × ByteArray × Int × Int × Int) =>
 some ((m.Kind == m.Kind) && ((v.toList == ByteArray.empty.toList) && ((v1.toList == ByteArray.empty.toList) && ((v2 == 0) && ((v3 == 0) && ((v4 == 0) && true))))))
noncomputable def strconv_Itoa (i : Int) : Option (ByteArray) :=
 itoaM i
noncomputable def i_clockText_1 (n : Int) : Option (ByteArray) :=
 (chk ((10 : Int) ≠ 0)).bind fun u =>
 (chk ((10 : Int) ≠ 0)).bind fun u1 =>
 some (bytS ([(mkU8 (IntKind.u8.wrap ((w64 (48 + (w64 (n.tdiv 10))))))), (mkU8 (IntKind.u8.wrap ((w64 (48 + (n.tmod 10))))))] : List UInt8))
noncomputable def i_clockText (t : Int) : Option (ByteArray) :=
 (chk ((60 : Int) ≠ 0)).bind fun u =>
 (i_clockText_1 (w64 (t.tdiv 60))).bind fun r =>
 (chk (r.size + (str [58]).size ≤ 4294967296)).bind fun u1 =>
 (chk ((60 : Int) ≠ 0)).bind fun u2 =>
 (i_clockText_1 (t.tmod 60)).bind fun r1 =>
 (chk ((r ++ (str [58])).size + r1.size ≤ 4294967296)).bind fun u3 =>
 some ((r ++ (str [58])) ++ r1)
noncomputable def i_messageText (m : Message) : Option (ByteArray) :=
 if (m.Kind == 1) = true then
  (if (m.Minutes == 1) = true then
   some (str [32, 109, 105, 110, 117, 116, 101, 46])
  else
   some (str [32, 109, 105, 110, 117, 116, 101, 115, 46])).bind fun (v : ByteArray) =>
  (chk ((str [76, 105, 110, 101, 32]).size + m.Line.size ≤ 4294967296)).bind fun u4 =>
  (chk (((str [76, 105, 110, 101, 32]) ++ m.Line).size + (str [32, 105, 115, 32, 100, 101, 108, 97, 121, 101, 100, 32, 98, 121, 32]).size ≤ 4294967296)).bind fun u5 =>
  (strconv_Itoa m.Minutes).bind fun r1 =>
  (chk ((((str [76, 105, 110, 101, 32]) ++ m.Line) ++ (str [32, 105, 115, 32, 100, 101, 108, 97, 121, 101, 100, 32, 98, 121, 32])).size + r1.size ≤ 4294967296)).bind fun u6 =>
  (chk (((((str [76, 105, 110, 101, 32]) ++ m.Line) ++ (str [32, 105, 115, 32, 100, 101, 108, 97, 121, 101, 100, 32, 98, 121, 32])) ++ r1).size + v.size ≤ 4294967296)).bind fun u7 =>
  some (((((str [76, 105, 110, 101, 32]) ++ m.Line) ++ (str [32, 105, 115, 32, 100, 101, 108, 97, 121, 101, 100, 32, 98, 121, 32])) ++ r1) ++ v)
 else
  if (m.Kind == 2) = true then
   (chk ((str [84, 104, 101, 32, 100, 101, 112, 97, 114, 116, 117, 114, 101, 32, 111, 102, 32, 108, 105, 110, 101, 32]).size + m.Line.size ≤ 4294967296)).bind fun u12 =>
   (chk (((str [84, 104, 101, 32, 100, 101, 112, 97, 114, 116, 117, 114, 101, 32, 111, 102, 32, 108, 105, 110, 101, 32]) ++ m.Line).size + (str [32, 97, 116, 32]).size ≤ 4294967296)).bind fun u13 =>
   (i_clockText m.From).bind fun r3 =>
   (chk ((((str [84, 104, 101, 32, 100, 101, 112, 97, 114, 116, 117, 114, 101, 32, 111, 102, 32, 108, 105, 110, 101, 32]) ++ m.Line) ++ (str [32, 97, 116, 32])).size + r3.size ≤ 4294967296)).bind fun u14 =>
   (chk (((((str [84, 104, 101, 32, 100, 101, 112, 97, 114, 116, 117, 114, 101, 32, 111, 102, 32, 108, 105, 110, 101, 32]) ++ m.Line) ++ (str [32, 97, 116, 32])) ++ r3).size + (str [32, 105, 115, 32, 99, 97, 110, 99, 101, 108, 108, 101, 100, 46]).size ≤ 4294967296)).bind fun u15 =>
   some (((((str [84, 104, 101, 32, 100, 101, 112, 97, 114, 116, 117, 114, 101, 32, 111, 102, 32, 108, 105, 110, 101, 32]) ++ m.Line) ++ (str [32, 97, 116, 32])) ++ r3) ++ (str [32, 105, 115, 32, 99, 97, 110, 99, 101, 108, 108, 101, 100, 46]))
  else
   if (m.Kind == 3) = true then
    (chk ((str [84, 104, 101, 32, 115, 116, 111, 112, 32]).size + m.Stop.size ≤ 4294967296)).bind fun u22 =>
    (chk (((str [84, 104, 101, 32, 115, 116, 111, 112, 32]) ++ m.Stop).size + (str [32, 105, 115, 32, 99, 108, 111, 115, 101, 100, 32, 102, 114, 111, 109, 32]).size ≤ 4294967296)).bind fun u23 =>
    (i_clockText m.From).bind fun r6 =>
    (chk ((((str [84, 104, 101, 32, 115, 116, 111, 112, 32]) ++ m.Stop) ++ (str [32, 105, 115, 32, 99, 108, 111, 115, 101, 100, 32, 102, 114, 111, 109, 32])).size + r6.size ≤ 4294967296)).bind fun u24 =>
    (chk (((((str [84, 104, 101, 32, 115, 116, 111, 112, 32]) ++ m.Stop) ++ (str [32, 105, 115, 32, 99, 108, 111, 115, 101, 100, 32, 102, 114, 111, 109, 32])) ++ r6).size + (str [32, 116, 111, 32]).size ≤ 4294967296)).bind fun u25 =>
    (i_clockText m.To).bind fun r7 =>
    (chk ((((((str [84, 104, 101, 32, 115, 116, 111, 112, 32]) ++ m.Stop) ++ (str [32, 105, 115, 32, 99, 108, 111, 115, 101, 100, 32, 102, 114, 111, 109, 32])) ++ r6) ++ (str [32, 116, 111, 32])).size + r7.size ≤ 4294967296)).bind fun u26 =>
    (chk (((((((str [84, 104, 101, 32, 115, 116, 111, 112, 32]) ++ m.Stop) ++ (str [32, 105, 115, 32, 99, 108, 111, 115, 101, 100, 32, 102, 114, 111, 109, 32])) ++ r6) ++ (str [32, 116, 111, 32])) ++ r7).size + (str [46]).size ≤ 4294967296)).bind fun u27 =>
    some (((((((str [84, 104, 101, 32, 115, 116, 111, 112, 32]) ++ m.Stop) ++ (str [32, 105, 115, 32, 99, 108, 111, 115, 101, 100, 32, 102, 114, 111, 109, 32])) ++ r6) ++ (str [32, 116, 111, 32])) ++ r7) ++ (str [46]))
   else
    if (m.Kind == 4) = true then
     (i_clockText m.From).bind fun r10 =>
     (chk ((str [70, 114, 111, 109, 32]).size + r10.size ≤ 4294967296)).bind fun u36 =>
     (chk (((str [70, 114, 111, 109, 32]) ++ r10).size + (str [32, 116, 111, 32]).size ≤ 4294967296)).bind fun u37 =>
     (i_clockText m.To).bind fun r11 =>
     (chk ((((str [70, 114, 111, 109, 32]) ++ r10) ++ (str [32, 116, 111, 32])).size + r11.size ≤ 4294967296)).bind fun u38 =>
     (chk (((((str [70, 114, 111, 109, 32]) ++ r10) ++ (str [32, 116, 111, 32])) ++ r11).size + (str [44, 32, 108, 105, 110, 101, 32]).size ≤ 4294967296)).bind fun u39 =>
     (chk ((((((str [70, 114, 111, 109, 32]) ++ r10) ++ (str [32, 116, 111, 32])) ++ r11) ++ (str [44, 32, 108, 105, 110, 101, 32])).size + m.Line.size ≤ 4294967296)).bind fun u40 =>
     (chk (((((((str [70, 114, 111, 109, 32]) ++ r10) ++ (str [32, 116, 111, 32])) ++ r11) ++ (str [44, 32, 108, 105, 110, 101, 32])) ++ m.Line).size + (str [32, 114, 117, 110, 115, 32, 111, 110, 108, 121, 32, 97, 115, 32, 102, 97, 114, 32, 97, 115, 32]).size ≤ 4294967296)).bind fun u41 =>
     (chk ((((((((str [70, 114, 111, 109, 32]) ++ r10) ++ (str [32, 116, 111, 32])) ++ r11) ++ (str [44, 32, 108, 105, 110, 101, 32])) ++ m.Line) ++ (str [32, 114, 117, 110, 115, 32, 111, 110, 108, 121, 32, 97, 115, 32, 102, 97, 114, 32, 97, 115, 32])).size + m.Stop.size ≤ 4294967296)).bind fun u42 =>
     (chk (((((((((str [70, 114, 111, 109, 32]) ++ r10) ++ (str [32, 116, 111, 32])) ++ r11) ++ (str [44, 32, 108, 105, 110, 101, 32])) ++ m.Line) ++ (str [32, 114, 117, 110, 115, 32, 111, 110, 108, 121, 32, 97, 115, 32, 102, 97, 114, 32, 97, 115, 32])) ++ m.Stop).size + (str [46]).size ≤ 4294967296)).bind fun u43 =>
     some (((((((((str [70, 114, 111, 109, 32]) ++ r10) ++ (str [32, 116, 111, 32])) ++ r11) ++ (str [44, 32, 108, 105, 110, 101, 32])) ++ m.Line) ++ (str [32, 114, 117, 110, 115, 32, 111, 110, 108, 121, 32, 97, 115, 32, 102, 97, 114, 32, 97, 115, 32])) ++ m.Stop) ++ (str [46]))
    else
     (chk ((str [84, 104, 101, 32, 100, 101, 112, 97, 114, 116, 117, 114, 101, 32, 111, 102, 32, 108, 105, 110, 101, 32]).size + m.Line.size ≤ 4294967296)).bind fun u48 =>
     (chk (((str [84, 104, 101, 32, 100, 101, 112, 97, 114, 116, 117, 114, 101, 32, 111, 102, 32, 108, 105, 110, 101, 32]) ++ m.Line).size + (str [32, 97, 116, 32]).size ≤ 4294967296)).bind fun u49 =>
     (i_clockText m.From).bind fun r13 =>
     (chk ((((str [84, 104, 101, 32, 100, 101, 112, 97, 114, 116, 117, 114, 101, 32, 111, 102, 32, 108, 105, 110, 101, 32]) ++ m.Line) ++ (str [32, 97, 116, 32])).size + r13.size ≤ 4294967296)).bind fun u50 =>
     (chk (((((str [84, 104, 101, 32, 100, 101, 112, 97, 114, 116, 117, 114, 101, 32, 111, 102, 32, 108, 105, 110, 101, 32]) ++ m.Line) ++ (str [32, 97, 116, 32])) ++ r13).size + (str [32, 105, 115, 32, 101, 120, 112, 101, 99, 116, 101, 100, 32, 116, 111, 32, 98, 101, 32, 99, 114, 111, 119, 100, 101, 100, 46]).size ≤ 4294967296)).bind fun u51 =>
     some (((((str [84, 104, 101, 32, 100, 101, 112, 97, 114, 116, 117, 114, 101, 32, 111, 102, 32, 108, 105, 110, 101, 32]) ++ m.Line) ++ (str [32, 97, 116, 32])) ++ r13) ++ (str [32, 105, 115, 32, 101, 120, 112, 101, 99, 116, 101, 100, 32, 116, 111, 32, 98, 101, 32, 99, 114, 111, 119, 100, 101, 100, 46]))
noncomputable def i_ParseMessage (s : ByteArray) : Option (Message × Bool) :=
 (i_parseMessage s).bind fun r =>
 (i_IsValidMessage r).bind fun r1 =>
 (if (!r1) = true then some true else (i_messageText r).bind fun r2 =>
 some (!(r2.toList == s.toList))).bind fun (v : Bool) =>
 if v = true then
  some ((⟨0, ByteArray.empty, ByteArray.empty, 0, 0, 0⟩ : Message), false)
 else
  some (r, true)
noncomputable def i_ParseNotice_L1 (r : (List ByteArray)) : Int × (List Message) → Option (Lp (Int × (List Message)) (Fl ((List Message) × Bool) ((List Message))))
 | (v, i) =>
  if (decide (v < (r.length : Int))) = true then
   (idx r v).bind fun e =>
   (if (decide (v < (w64 ((r.length : Int) - 1)))) = true then
    (chk ((0 : Int) ≤ 0 ∧ (0 : Int) ≤ (w64 ((e.size : Int) - 1)) ∧ (w64 ((e.size : Int) - 1)) ≤ (e.size : Int))).bind fun u =>
    some (e.extract (0 : Int).toNat (w64 ((e.size : Int) - 1)).toNat)
   else
    some e).bind fun (m : ByteArray) =>
   (i_ParseMessage m).bind fun r1 =>
   (if (!r1.2) = true then some true else some ((i.length : Int) == 10)).bind fun (v1 : Bool) =>
   if v1 = true then
    some (.dn (.ret (([] : List Message), false)))
   else
    (chk (i.length + ([r1.1] : List Message).length ≤ 4294967296)).bind fun u1 =>
    some (.nx ((w64 (v + 1)), (i ++ ([r1.1] : List Message))))
  else
   some (.dn (.go i))
noncomputable def i_ParseNotice (s : ByteArray) : Option ((List Message) × Bool) :=
 if (s.toList == (str []).toList) = true then
  some (([] : List Message), true)
 else
  (strings_SplitAfterN s (str [46, 32]) 12).bind fun r =>
  flb (iter (i_ParseNotice_L1 r) ((0 : Int), ([] : List Message))) fun (i1 : List Message) =>
  some (i1, true)
noncomputable def v_eqMessage (a : Message) (b : Message) : Option (Bool) :=
 if (a.Kind != b.Kind) = true then
  some false
 else
  if (!(a.Line.toList == b.Line.toList)) = true then
   some false
  else
   if (!(a.Stop.toList == b.Stop.toList)) = true then
    some false
   else
    if (a.From != b.From) = true then
     some false
    else
     if (a.To != b.To) = true then
      some false
     else
      if (a.Minutes != b.Minutes) = true then
       some false
      else
       some true
noncomputable def v_eqMessageS_L1 (a : List Message) (b : List Message) : Int → Option (Lp (Int) (Fl (Bool) (Unit)))
 | v =>
  if (decide (v < (a.length : Int))) = true then
   (idx a v).bind fun e2 =>
   (idx b v).bind fun e3 =>
   (v_eqMessage e2 e3).bind fun r1 =>
   if (!r1) = true then
    some (.dn (.ret false))
   else
    some (.nx (w64 (v + 1)))
  else
   some (.dn (.go ()))
noncomputable def v_eqMessageS (a : List Message) (b : List Message) : Option (Bool) :=
 if ((a.length : Int) != (b.length : Int)) = true then
  some false
 else
  flb (iter (v_eqMessageS_L1 a b) (0 : Int)) fun (_ : Unit) =>
  some true
noncomputable def v_markText_L1 : Int × ByteArray → Option (Lp (Int × ByteArray) (ByteArray))
 | (k1, v) =>
  if (decide (0 < k1)) = true then
   (chk ((10 : Int) ≠ 0)).bind fun u =>
   (chk ((bytS ([(mkU8 (IntKind.u8.wrap ((w64 (48 + (k1.tmod 10))))))] : List UInt8)).size + v.size ≤ 4294967296)).bind fun u1 =>
   (chk ((10 : Int) ≠ 0)).bind fun u2 =>
   some (.nx ((w64 (k1.tdiv 10)), ((bytS ([(mkU8 (IntKind.u8.wrap ((w64 (48 + (k1.tmod 10))))))] : List UInt8)) ++ v)))
  else
   some (.dn v)
noncomputable def v_markText (k : Int) : Option (ByteArray) :=
 if (decide (k ≤ 0)) = true then
  some (str [109, 48])
 else
  (iter (v_markText_L1) (k, (str []))).bind fun (v1 : ByteArray) =>
  (chk ((str [109]).size + v1.size ≤ 4294967296)).bind fun u3 =>
  some ((str [109]) ++ v1)
noncomputable def v_markMessageS_w_L1 : Int × Int × (List Message) → Option (Lp (Int × Int × (List Message)) (Int × (List Message)))
 | (k1, v, a1) =>
  if (decide (v < (a1.length : Int))) = true then
   (idx a1 v).bind fun e =>
   (v_markText (w64 (k1 + 1))).bind fun r =>
   (idx (a1.set v.toNat (⟨k1, e.Line, e.Stop, e.From, e.To, e.Minutes⟩ : Message)) v).bind fun e1 =>
   (v_markText (w64 ((w64 (k1 + 1)) + 1))).bind fun r1 =>
   (idx ((a1.set v.toNat (⟨k1, e.Line, e.Stop, e.From, e.To, e.Minutes⟩ : Message)).set v.toNat (⟨e1.Kind, r, e1.Stop, e1.From, e1.To, e1.Minutes⟩ : Message)) v).bind fun e2 =>
   (idx (((a1.set v.toNat (⟨k1, e.Line, e.Stop, e.From, e.To, e.Minutes⟩ : Message)).set v.toNat (⟨e1.Kind, r, e1.Stop, e1.From, e1.To, e1.Minutes⟩ : Message)).set v.toNat (⟨e2.Kind, e2.Line, r1, e2.From, e2.To, e2.Minutes⟩ : Message)) v).bind fun e3 =>
   (idx ((((a1.set v.toNat (⟨k1, e.Line, e.Stop, e.From, e.To, e.Minutes⟩ : Message)).set v.toNat (⟨e1.Kind, r, e1.Stop, e1.From, e1.To, e1.Minutes⟩ : Message)).set v.toNat (⟨e2.Kind, e2.Line, r1, e2.From, e2.To, e2.Minutes⟩ : Message)).set v.toNat (⟨e3.Kind, e3.Line, e3.Stop, (w64 ((w64 ((w64 (k1 + 1)) + 1)) + 1)), e3.To, e3.Minutes⟩ : Message)) v).bind fun e4 =>
   (idx (((((a1.set v.toNat (⟨k1, e.Line, e.Stop, e.From, e.To, e.Minutes⟩ : Message)).set v.toNat (⟨e1.Kind, r, e1.Stop, e1.From, e1.To, e1.Minutes⟩ : Message)).set v.toNat (⟨e2.Kind, e2.Line, r1, e2.From, e2.To, e2.Minutes⟩ : Message)).set v.toNat (⟨e3.Kind, e3.Line, e3.Stop, (w64 ((w64 ((w64 (k1 + 1)) + 1)) + 1)), e3.To, e3.Minutes⟩ : Message)).set v.toNat (⟨e4.Kind, e4.Line, e4.Stop, e4.From, (w64 ((w64 ((w64 ((w64 (k1 + 1)) + 1)) + 1)) + 1)), e4.Minutes⟩ : Message)) v).bind fun e5 =>
   some (.nx ((w64 ((w64 ((w64 ((w64 ((w64 ((w64 (k1 + 1)) + 1)) + 1)) + 1)) + 1)) + 1)), (w64 (v + 1)), ((((((a1.set v.toNat (⟨k1, e.Line, e.Stop, e.From, e.To, e.Minutes⟩ : Message)).set v.toNat (⟨e1.Kind, r, e1.Stop, e1.From, e1.To, e1.Minutes⟩ : Message)).set v.toNat (⟨e2.Kind, e2.Line, r1, e2.From, e2.To, e2.Minutes⟩ : Message)).set v.toNat (⟨e3.Kind, e3.Line, e3.Stop, (w64 ((w64 ((w64 (k1 + 1)) + 1)) + 1)), e3.To, e3.Minutes⟩ : Message)).set v.toNat (⟨e4.Kind, e4.Line, e4.Stop, e4.From, (w64 ((w64 ((w64 ((w64 (k1 + 1)) + 1)) + 1)) + 1)), e4.Minutes⟩ : Message)).set v.toNat (⟨e5.Kind, e5.Line, e5.Stop, e5.From, e5.To, (w64 ((w64 ((w64 ((w64 ((w64 (k1 + 1)) + 1)) + 1)) + 1)) + 1))⟩ : Message))))
  else
   some (.dn (k1, a1))
noncomputable def v_markMessageS_w (a : List Message) (k : Int) : Option (Int × (List Message)) :=
 (iter (v_markMessageS_w_L1) (k, (0 : Int), a)).bind fun ((k2, a2) : Int × (List Message)) =>
 some (k2, a2)
noncomputable def v_heldMessageS_L1 (a : List Message) : Int × Int → Option (Lp (Int × Int) (Fl (Int) (Int)))
 | (k1, v) =>
  if (decide (v < (a.length : Int))) = true then
   (idx a v).bind fun e =>
   if (e.Kind != k1) = true then
    some (.dn (.ret (-1)))
   else
    (idx a v).bind fun e3 =>
    (v_markText (w64 (k1 + 1))).bind fun r2 =>
    if (!(e3.Line.toList == r2.toList)) = true then
     some (.dn (.ret (-1)))
    else
     (idx a v).bind fun e6 =>
     (v_markText (w64 ((w64 (k1 + 1)) + 1))).bind fun r5 =>
     if (!(e6.Stop.toList == r5.toList)) = true then
      some (.dn (.ret (-1)))
     else
      (idx a v).bind fun e8 =>
      if (e8.From != (w64 ((w64 ((w64 (k1 + 1)) + 1)) + 1))) = true then
       some (.dn (.ret (-1)))
      else
       (idx a v).bind fun e10 =>
       if (e10.To != (w64 ((w64 ((w64 ((w64 (k1 + 1)) + 1)) + 1)) + 1))) = true then
        some (.dn (.ret (-1)))
       else
        (idx a v).bind fun e12 =>
        if (e12.Minutes != (w64 ((w64 ((w64 ((w64 ((w64 (k1 + 1)) + 1)) + 1)) + 1)) + 1))) = true then
         some (.dn (.ret (-1)))
        else
         some (.nx ((w64 ((w64 ((w64 ((w64 ((w64 ((w64 (k1 + 1)) + 1)) + 1)) + 1)) + 1)) + 1)), (w64 (v + 1))))
  else
   some (.dn (.go k1))
noncomputable def v_heldMessageS (a : List Message) (k : Int) : Option (Int) :=
 flb (iter (v_heldMessageS_L1 a) (k, (0 : Int))) fun (k2 : Int) =>
 some k2
noncomputable def v_FnExactParseNotice (aS : ByteArray) : Option (Bool) :=
 if (decide (1048576 < (aS.size : Int))) = true then
  some true
 else
  (s_ParseNotice aS).bind fun r =>
  (i_ParseNotice aS).bind fun r1 =>
  (v_eqMessageS r1.1 r.1).bind fun r2 =>
  (if (!r2) = true then some true else some (!(r1.2 == r.2))).bind fun (v : Bool) =>
  if v = true then
   some false
  else
   (v_markMessageS_w r1.1 1).bind fun r3 =>
   (v_heldMessageS r3.2 1).bind fun r4 =>
   if (decide (r4 < 0)) = true then
    some false
   else
    if (r4 != r3.1) = true then
     some false
    else
     (i_ParseNotice aS).bind fun r5 =>
     (v_eqMessageS r5.1 r.1).bind fun r6 =>
     (if (!r6) = true then some true else some (!(r5.2 == r.2))).bind fun (v1 : Bool) =>
     if v1 = true then
      some false
     else
      (v_heldMessageS r3.2 1).bind fun r7 =>
      if (decide (r7 < 0)) = true then
       some false
      else
       if (r7 != r3.1) = true then
        some false
       else
        some true
end Go.Proofs.YteieacgaipcnoaaDoor
