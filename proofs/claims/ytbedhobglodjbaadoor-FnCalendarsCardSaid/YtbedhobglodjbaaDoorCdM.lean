/- Models of the functions that the law reaches: plain Lean; none where the function would panic or not end. Made by program (dec.py). -/
import Derived.Test.YtbedhobglodjbaaDoorAbC0
import Derived.Test.YtbedhobglodjbaaDoorAbIns
import Derived.Test.YtbedhobglodjbaaDoorAbDel
import Derived.Test.YtbedhobglodjbaaDoorAbStr1
import Derived.Test.YtbedhobglodjbaaDoorAbStr2
import Derived.Test.YtbedhobglodjbaaDoorAbBld
namespace Go.Proofs.YtbedhobglodjbaaDoor
open Go Go.Ab
set_option maxRecDepth 100000
set_option maxHeartbeats 4000000
set_option linter.unusedVariables false
set_option linter.unusedSimpArgs false
structure l1Cur where
 code_ : List UInt8
 at_ : Int
 seed_ : IK .u64
instance enc_l1Cur : Enc l1Cur := ⟨3, fun x => .agg [Enc.e x.code_, .sc (.int .i64 x.at_), .sc (.int .u64 x.seed_.v)], fun a b h => by
 simp only [D.agg.injEq, List.cons.injEq, and_true] at h
 obtain ⟨a1, a2, a3⟩ := a
 obtain ⟨b1, b2, b3⟩ := b
 obtain ⟨h1, h2, h3⟩ := h
 have q1 := Enc.inj (α := List UInt8) a1 b1 h1
 have q2 := Enc.inj (α := Int) a2 b2 h2
 have q3 := Enc.inj (α := IK .u64) a3 b3 h3
 subst q1; subst q2; subst q3; rfl⟩
structure Calendar where
 From : Int
 To : Int
 Weekdays : Int
 Added : List Int
 Removed : List Int
instance enc_Calendar : Enc Calendar := ⟨5, fun x => .agg [.sc (.int .i64 x.From), .sc (.int .i64 x.To), .sc (.int .i64 x.Weekdays), Enc.e x.Added, Enc.e x.Removed], fun a b h => by
 simp only [D.agg.injEq, List.cons.injEq, and_true] at h
 obtain ⟨a1, a2, a3, a4, a5⟩ := a
 obtain ⟨b1, b2, b3, b4, b5⟩ := b
 obtain ⟨h1, h2, h3, h4, h5⟩ := h
 have q1 := Enc.inj (α := Int) a1 b1 h1
 have q2 := Enc.inj (α := Int) a2 b2 h2
 have q3 := Enc.inj (α := Int) a3 b3 h3
 have q4 := Enc.inj (α := List Int) a4 b4 h4
 have q5 := Enc.inj (α := List Int) a5 b5 h5
 subst q1; subst q2; subst q3; subst q4; subst q5; rfl⟩
instance : BxE l1Cur := ⟨fun x y h => Enc.inj x y (congrArg D.agg h)⟩
instance : BxE Calendar := ⟨fun x y h => Enc.inj x y (congrArg D.agg h)⟩
noncomputable def v_rBig (code : List UInt8) : Option (Bool) :=
 some (decide (65536 < (code.length : Int)))
noncomputable def s_l1Cur_next (c : l1Cur) : Option (Int × l1Cur) :=
 (if (decide (c.at_ < (c.code_.length : Int))) = true then
  (idx c.code_ c.at_).bind fun e1 =>
  some (w64 ((e1.toNat : Int)))
 else
  some (0 : Int)).bind fun (v : Int) =>
 if (decide ((w64 (c.at_ + 1)) ≤ (c.code_.length : Int))) = true then
  some (v, (⟨c.code_, (w64 (c.at_ + 1)), (⟨(IntKind.u64.wrap ((IntKind.u64.wrap ((IntKind.u64.wrap (c.seed_.v * 6364136223846793005)) + (IntKind.u64.wrap (v)))) + 900900))⟩ : IK .u64)⟩ : l1Cur))
 else
  (chk ((0 : Int) ≤ 40)).bind fun u =>
  some ((w64 ((IntKind.u64.wrap ((BitVec.ofInt (IntKind.u64).bits ((IntKind.u64.wrap ((IntKind.u64.wrap ((IntKind.u64.wrap (c.seed_.v * 6364136223846793005)) + (IntKind.u64.wrap (v)))) + 900900)).fdiv (2 ^ (min (40 : Int).toNat (IntKind.u64).bits))) &&& BitVec.ofInt (IntKind.u64).bits 255).toNat : Int)))), (⟨c.code_, (w64 (c.at_ + 1)), (⟨(IntKind.u64.wrap ((IntKind.u64.wrap ((IntKind.u64.wrap (c.seed_.v * 6364136223846793005)) + (IntKind.u64.wrap (v)))) + 900900))⟩ : IK .u64)⟩ : l1Cur))
noncomputable def s_l1Cur_pick (c : l1Cur) (n : Int) : Option (Int × l1Cur) :=
 if (decide (n ≤ 1)) = true then
  some (0, c)
 else
  (s_l1Cur_next c).bind fun r =>
  (if (decide (200 < n)) = true then
   (s_l1Cur_next r.2).bind fun r1 =>
   some ((w64 ((w64 (r.1 * 256)) + r1.1)), r1.2.code_, r1.2.at_, r1.2.seed_.v)
  else
   some (r.1, r.2.code_, r.2.at_, r.2.seed_.v)).bind fun ((v, v1, v2, v3) : Int × (List UInt8) × Int × Int) =>
  (chk ((n : Int) ≠ 0)).bind fun u =>
  some ((v.tmod n), (⟨v1, v2, (⟨v3⟩ : IK .u64)⟩ : l1Cur))
noncomputable def s_l1Cur_among (c : l1Cur) (list : List Int) : Option (Int × l1Cur) :=
 (s_l1Cur_pick c (list.length : Int)).bind fun r =>
 (idx list r.1).bind fun e =>
 some (e, r.2)
noncomputable def s_l1Cur_one (c : l1Cur) (n : Int) : Option (Bool × l1Cur) :=
 (s_l1Cur_pick c n).bind fun r =>
 some ((r.1 == 0), r.2)
noncomputable def s_l1In (x : Int) (a : Int) (b : Int) : Option (Bool) :=
 (if (decide (a ≤ x)) = true then some (decide (x ≤ b)) else some false).bind fun (v : Bool) =>
 some v
noncomputable def s_l3Regular (c : Calendar) (day : Int) : Option (Bool) :=
 (s_l1In day c.From c.To).bind fun r =>
 (if r = true then (chk ((7 : Int) ≠ 0)).bind fun u =>
 (chk ((0 : Int) ≤ (IntKind.u64.wrap ((day.tmod 7))))).bind fun u1 =>
 some ((IntKind.i64.wrap ((BitVec.ofInt (IntKind.i64).bits (c.Weekdays.fdiv (2 ^ (min ((IntKind.u64.wrap ((day.tmod 7))) : Int).toNat (IntKind.i64).bits))) &&& BitVec.ofInt (IntKind.i64).bits 1).toNat : Int)) == 1) else some false).bind fun (v : Bool) =>
 some v
noncomputable def s_l1Cur_calendar_L1 (r : Int × l1Cur) (r1 : Int × l1Cur) (r2 : Int × l1Cur) : Int × (List UInt8) × Int × Int × (List Int) × (List Int) → Option (Lp (Int × (List UInt8) × Int × Int × (List Int) × (List Int)) ((List UInt8) × Int × Int × (List Int) × (List Int)))
 | (v, v1, v2, v3, v4, v5) =>
  (if (decide (v ≤ (w64 (r.1 + r1.1)))) = true then some (decide ((w64 ((v4.length : Int) + (v5.length : Int))) < 5)) else some false).bind fun (v6 : Bool) =>
  if v6 = true then
   ((s_l1Cur_one (⟨v1, v2, (⟨v3⟩ : IK .u64)⟩ : l1Cur) 6).bind fun r3 =>
   if (!r3.1) = true then
    some (r3.2.code_, r3.2.at_, r3.2.seed_.v, v4, v5)
   else
    (s_l3Regular (⟨r.1, (w64 (r.1 + r1.1)), r2.1, v4, v5⟩ : Calendar) v).bind fun r4 =>
    if r4 = true then
     (chk (v5.length + ([v] : List Int).length ≤ 4294967296)).bind fun u =>
     some (r3.2.code_, r3.2.at_, r3.2.seed_.v, v4, (v5 ++ ([v] : List Int)))
    else
     (chk (v4.length + ([v] : List Int).length ≤ 4294967296)).bind fun u1 =>
     some (r3.2.code_, r3.2.at_, r3.2.seed_.v, (v4 ++ ([v] : List Int)), v5)).bind fun ((v7, v8, v9, v10, v11) : (List UInt8) × Int × Int × (List Int) × (List Int)) =>
   some (.nx ((w64 (v + 1)), v7, v8, v9, v10, v11))
  else
   some (.dn (v1, v2, v3, v4, v5))
noncomputable def s_l1Cur_calendar (c : l1Cur) : Option (Calendar × l1Cur) :=
 (s_l1Cur_among c ([0, 3, 100, 3600] : List Int)).bind fun r =>
 (s_l1Cur_among r.2 ([0, 6, 13, 20, 40] : List Int)).bind fun r1 =>
 (s_l1Cur_among r1.2 ([31, 96, 127, 0, 65, 21] : List Int)).bind fun r2 =>
 (iter (s_l1Cur_calendar_L1 r r1 r2) (r.1, r2.2.code_, r2.2.at_, r2.2.seed_.v, ([] : List Int), ([] : List Int))).bind fun ((v12, v13, v14, v15, v16) : (List UInt8) × Int × Int × (List Int) × (List Int)) =>
 ((s_l1Cur_pick (⟨v12, v13, (⟨v14⟩ : IK .u64)⟩ : l1Cur) 40).bind fun r5 =>
 if (r5.1 == 0) = true then
  (s_l1Cur_among r5.2 ([(-1), 3650, 3651] : List Int)).bind fun r6 =>
  some (r6.2.code_, r6.2.at_, r6.2.seed_.v, r6.1, r2.1, v15, v16)
 else
  if (r5.1 == 1) = true then
   (s_l1Cur_among r5.2 ([(-1), 128] : List Int)).bind fun r7 =>
   some (r7.2.code_, r7.2.at_, r7.2.seed_.v, (w64 (r.1 + r1.1)), r7.1, v15, v16)
  else
   if (r5.1 == 2) = true then
    (chk (v15.length + ([r.1] : List Int).length ≤ 4294967296)).bind fun u2 =>
    some (r5.2.code_, r5.2.at_, r5.2.seed_.v, (w64 (r.1 + r1.1)), r2.1, (v15 ++ ([r.1] : List Int)), v16)
   else
    if (r5.1 == 3) = true then
     (chk (v16.length + ([(w64 ((w64 (r.1 + r1.1)) + 1))] : List Int).length ≤ 4294967296)).bind fun u3 =>
     some (r5.2.code_, r5.2.at_, r5.2.seed_.v, (w64 (r.1 + r1.1)), r2.1, v15, (v16 ++ ([(w64 ((w64 (r.1 + r1.1)) + 1))] : List Int)))
    else
     some (r5.2.code_, r5.2.at_, r5.2.seed_.v, (w64 (r.1 + r1.1)), r2.1, v15, v16)).bind fun ((v17, v18, v19, v20, v21, v22, v23) : (List UInt8) × Int × Int × Int × Int × (List Int) × (List Int)) =>
 some ((⟨r.1, v20, v21, v22, v23⟩ : Calendar), (⟨v17, v18, (⟨v19⟩ : IK .u64)⟩ : l1Cur))
noncomputable def s_l1Cur_among_w (c : l1Cur) (list : List Int) : Option (Int × l1Cur) :=
 (s_l1Cur_pick c (list.length : Int)).bind fun r =>
 (idx list r.1).bind fun e =>
 some (e, r.2)
noncomputable def s_l1Cur_dayNear (c : l1Cur) (x : Calendar) : Option (Int × l1Cur) :=
 (s_l1Cur_pick c 41).bind fun r2 =>
 (s_l1Cur_among_w r2.2 ([x.From, x.To, (w64 (x.From + r2.1)), (w64 (x.From - 1)), (w64 (x.To + 1)), 3651] : List Int)).bind fun r3 =>
 some (r3.1, r3.2)
noncomputable def s_DrawExceptDay (code : List UInt8) : Option (Calendar × Int × Bool) :=
 (s_l1Cur_calendar (⟨code, 0, (⟨0⟩ : IK .u64)⟩ : l1Cur)).bind fun r =>
 (s_l1Cur_dayNear r.2 r.1).bind fun r3 =>
 (s_l1Cur_one r3.2 2).bind fun r4 =>
 some (r.1, r3.1, r4.1)
noncomputable def i_within (n : Int) (lo : Int) (hi : Int) : Option (Bool) :=
 (if (decide (lo ≤ n)) = true then some (decide (n ≤ hi)) else some false).bind fun (v : Bool) =>
 some v
noncomputable def i_isDay (day : Int) : Option (Bool) :=
 (i_within day 0 3650).bind fun r =>
 some r
noncomputable def i_areDays_L1 (days : List Int) (to_ : Int) : Int × Int → Option (Lp (Int × Int) (Fl (Bool) (Unit)))
 | (v, v1) =>
  if (decide (v1 < (days.length : Int))) = true then
   (idx days v1).bind fun e =>
   (if (decide (e ≤ v)) = true then some true else some (decide (to_ < e))).bind fun (v2 : Bool) =>
   if v2 = true then
    some (.dn (.ret false))
   else
    some (.nx (e, (w64 (v1 + 1))))
  else
   some (.dn (.go ()))
noncomputable def i_areDays (days : List Int) (from_ : Int) (to_ : Int) : Option (Bool) :=
 flb (iter (i_areDays_L1 days to_) ((w64 (from_ - 1)), (0 : Int))) fun (_ : Unit) =>
 some true
noncomputable def i_byWeekday (set : Int) (day : Int) : Option (Bool) :=
 (chk ((7 : Int) ≠ 0)).bind fun u =>
 (chk ((0 : Int) ≤ (day.tmod 7))).bind fun u1 =>
 some ((IntKind.i64.wrap ((BitVec.ofInt (IntKind.i64).bits (set.fdiv (2 ^ (min ((day.tmod 7) : Int).toNat (IntKind.i64).bits))) &&& BitVec.ofInt (IntKind.i64).bits 1).toNat : Int)) == 1)
noncomputable def i_IsValidCalendar_L1 (c : Calendar) : Int → Option (Lp (Int) (Fl (Bool) (Unit)))
 | v2 =>
  if (decide (v2 < (c.Added.length : Int))) = true then
   (idx c.Added v2).bind fun e =>
   (i_byWeekday c.Weekdays e).bind fun r5 =>
   if r5 = true then
    some (.dn (.ret false))
   else
    some (.nx (w64 (v2 + 1)))
  else
   some (.dn (.go ()))
noncomputable def i_IsValidCalendar_L2 (c : Calendar) : Int → Option (Lp (Int) (Fl (Bool) (Unit)))
 | v3 =>
  if (decide (v3 < (c.Removed.length : Int))) = true then
   (idx c.Removed v3).bind fun e2 =>
   (i_byWeekday c.Weekdays e2).bind fun r7 =>
   if (!r7) = true then
    some (.dn (.ret false))
   else
    some (.nx (w64 (v3 + 1)))
  else
   some (.dn (.go ()))
noncomputable def i_IsValidCalendar (c : Calendar) : Option (Bool) :=
 (i_isDay c.From).bind fun r =>
 (if (!r) = true then some true else (i_isDay c.To).bind fun r1 =>
 if (!r1) = true then some true else if (decide (c.To < c.From)) = true then some true else (i_within c.Weekdays 0 127).bind fun r2 =>
 some (!r2)).bind fun (v : Bool) =>
 if v = true then
  some false
 else
  (if (decide (8 < (c.Added.length : Int))) = true then some true else if (decide (8 < (c.Removed.length : Int))) = true then some true else (i_areDays c.Added c.From c.To).bind fun r3 =>
  if (!r3) = true then some true else (i_areDays c.Removed c.From c.To).bind fun r4 =>
  some (!r4)).bind fun (v1 : Bool) =>
  if v1 = true then
   some false
  else
   flb (iter (i_IsValidCalendar_L1 c) (0 : Int)) fun (_ : Unit) =>
   flb (iter (i_IsValidCalendar_L2 c) (0 : Int)) fun (_ : Unit) =>
   some true
noncomputable def strconv_Itoa (i : Int) : Option (ByteArray) :=
 itoaM i
noncomputable def strings_Builder_WriteString (b : List UInt8) (s : ByteArray) : Option (Int × NilErr × (List UInt8)) :=
 writeStringM b s
noncomputable def strings_Builder_WriteByte (b : List UInt8) (c : UInt8) : Option (NilErr × (List UInt8)) :=
 writeByteM b c
noncomputable def strings_Builder_String (b : List UInt8) : Option (ByteArray) :=
 bldStringM b
noncomputable def i_formatCalendar_L1 (c : Calendar) : Int × (List UInt8) → Option (Lp (Int × (List UInt8)) ((List UInt8)))
 | (v, v1) =>
  if (decide (v < 7)) = true then
   ((chk ((0 : Int) ≤ v)).bind fun u6 =>
   if ((IntKind.i64.wrap ((BitVec.ofInt (IntKind.i64).bits (c.Weekdays.fdiv (2 ^ (min (v : Int).toNat (IntKind.i64).bits))) &&& BitVec.ofInt (IntKind.i64).bits 1).toNat : Int)) == 1) = true then
    (chk ((0 : Int) ≤ v ∧ v < ((str [109, 116, 119, 116, 102, 115, 115]).size : Int))).bind fun u7 =>
    (strings_Builder_WriteByte v1 ((str [109, 116, 119, 116, 102, 115, 115]).data.toList.getD v.toNat 0)).bind fun r6 =>
    some r6.2
   else
    (strings_Builder_WriteByte v1 (mkU8 46)).bind fun r7 =>
    some r7.2).bind fun (v2 : List UInt8) =>
   some (.nx ((w64 (v + 1)), v2))
  else
   some (.dn v1)
noncomputable def i_formatCalendar_L2 (c : Calendar) : Int × (List UInt8) → Option (Lp (Int × (List UInt8)) ((List UInt8)))
 | (v4, v5) =>
  if (decide (v4 < (c.Added.length : Int))) = true then
   (idx c.Added v4).bind fun e =>
   (strconv_Itoa e).bind fun r8 =>
   (chk ((str [32, 43]).size + r8.size ≤ 4294967296)).bind fun u8 =>
   (strings_Builder_WriteString v5 ((str [32, 43]) ++ r8)).bind fun r9 =>
   some (.nx ((w64 (v4 + 1)), r9.2.2))
  else
   some (.dn v5)
noncomputable def i_formatCalendar_L3 (c : Calendar) : Int × (List UInt8) → Option (Lp (Int × (List UInt8)) ((List UInt8)))
 | (v7, v8) =>
  if (decide (v7 < (c.Removed.length : Int))) = true then
   (idx c.Removed v7).bind fun e1 =>
   (strconv_Itoa e1).bind fun r10 =>
   (chk ((str [32, 45]).size + r10.size ≤ 4294967296)).bind fun u9 =>
   (strings_Builder_WriteString v8 ((str [32, 45]) ++ r10)).bind fun r11 =>
   some (.nx ((w64 (v7 + 1)), r11.2.2))
  else
   some (.dn v8)
noncomputable def i_formatCalendar (c : Calendar) : Option (ByteArray) :=
 (strconv_Itoa c.From).bind fun r3 =>
 (chk (r3.size + (str [45]).size ≤ 4294967296)).bind fun u3 =>
 (strconv_Itoa c.To).bind fun r4 =>
 (chk ((r3 ++ (str [45])).size + r4.size ≤ 4294967296)).bind fun u4 =>
 (chk (((r3 ++ (str [45])) ++ r4).size + (str [32]).size ≤ 4294967296)).bind fun u5 =>
 (strings_Builder_WriteString ([] : List UInt8) (((r3 ++ (str [45])) ++ r4) ++ (str [32]))).bind fun r5 =>
 (iter (i_formatCalendar_L1 c) ((0 : Int), r5.2.2)).bind fun (v3 : List UInt8) =>
 (iter (i_formatCalendar_L2 c) ((0 : Int), v3)).bind fun (v6 : List UInt8) =>
 (iter (i_formatCalendar_L3 c) ((0 : Int), v6)).bind fun (v9 : List UInt8) =>
 (strings_Builder_String v9).bind fun r12 =>
 some r12
noncomputable def i_FormatCalendar (c : Calendar) : Option (ByteArray × Bool) :=
 (i_IsValidCalendar c).bind fun r =>
 if (!r) = true then
  some ((str []), false)
 else
  (i_formatCalendar c).bind fun r1 =>
  some (r1, true)
noncomputable def s_l1Rising_L1 (l : List Int) (lo : Int) (hi : Int) : Int → Option (Lp (Int) (Fl (Bool) (Unit)))
 | v =>
  if (decide (v < (l.length : Int))) = true then
   (idx l v).bind fun e3 =>
   (s_l1In e3 lo hi).bind fun r1 =>
   (if (!r1) = true then some true else if (decide (0 < v)) = true then (idx l (w64 (v - 1))).bind fun e4 =>
   (idx l v).bind fun e5 =>
   some (decide (e5 ≤ e4)) else some false).bind fun (v1 : Bool) =>
   if v1 = true then
    some (.dn (.ret false))
   else
    some (.nx (w64 (v + 1)))
  else
   some (.dn (.go ()))
noncomputable def s_l1Rising (l : List Int) (lo : Int) (hi : Int) : Option (Bool) :=
 flb (iter (s_l1Rising_L1 l lo hi) (0 : Int)) fun (_ : Unit) =>
 some true
noncomputable def s_l3Good_L1 (c : Calendar) : Int → Option (Lp (Int) (Fl (Bool) (Unit)))
 | i =>
  if (decide (i < (c.Added.length : Int))) = true then
   (idx c.Added i).bind fun e1 =>
   (s_l3Regular c e1).bind fun r5 =>
   if r5 = true then
    some (.dn (.ret false))
   else
    some (.nx (w64 (i + 1)))
  else
   some (.dn (.go ()))
noncomputable def s_l3Good_L2 (c : Calendar) : Int → Option (Lp (Int) (Fl (Bool) (Unit)))
 | v2 =>
  if (decide (v2 < (c.Removed.length : Int))) = true then
   (idx c.Removed v2).bind fun e4 =>
   (s_l3Regular c e4).bind fun r8 =>
   if (!r8) = true then
    some (.dn (.ret false))
   else
    some (.nx (w64 (v2 + 1)))
  else
   some (.dn (.go ()))
noncomputable def s_l3Good (c : Calendar) : Option (Bool) :=
 (s_l1In c.From 0 c.To).bind fun r =>
 (if (!r) = true then some true else if (decide (3650 < c.To)) = true then some true else (s_l1In c.Weekdays 0 127).bind fun r1 =>
 if (!r1) = true then some true else if (decide (8 < (c.Added.length : Int))) = true then some true else some (decide (8 < (c.Removed.length : Int)))).bind fun (v : Bool) =>
 if v = true then
  some false
 else
  (s_l1Rising c.Added c.From c.To).bind fun r2 =>
  (if (!r2) = true then some true else (s_l1Rising c.Removed c.From c.To).bind fun r3 =>
  some (!r3)).bind fun (v1 : Bool) =>
  if v1 = true then
   some false
  else
   flb (iter (s_l3Good_L1 c) (0 : Int)) fun (_ : Unit) =>
   flb (iter (s_l3Good_L2 c) (0 : Int)) fun (_ : Unit) =>
   some true
noncomputable def s_l1Num_F (rec_ : Int → Option (ByteArray)) (n : Int) : Option (ByteArray) :=
 if (decide (n < 0)) = true then
  (rec_ (w64 (0 - n))).bind fun r =>
  (chk ((str [45]).size + r.size ≤ 4294967296)).bind fun u =>
  some ((str [45]) ++ r)
 else
  if (decide (n < 10)) = true then
   (chk ((0 : Int) ≤ n ∧ (n : Int) ≤ (w64 (n + 1)) ∧ (w64 (n + 1)) ≤ ((str [48, 49, 50, 51, 52, 53, 54, 55, 56, 57]).size : Int))).bind fun u1 =>
   some ((str [48, 49, 50, 51, 52, 53, 54, 55, 56, 57]).extract n.toNat (w64 (n + 1)).toNat)
  else
   (chk ((10 : Int) ≠ 0)).bind fun u7 =>
   (rec_ (w64 (n.tdiv 10))).bind fun r2 =>
   (chk ((10 : Int) ≠ 0)).bind fun u8 =>
   (chk ((10 : Int) ≠ 0)).bind fun u9 =>
   (chk ((0 : Int) ≤ (n.tmod 10) ∧ ((n.tmod 10) : Int) ≤ (w64 ((n.tmod 10) + 1)) ∧ (w64 ((n.tmod 10) + 1)) ≤ ((str [48, 49, 50, 51, 52, 53, 54, 55, 56, 57]).size : Int))).bind fun u10 =>
   (chk (r2.size + ((str [48, 49, 50, 51, 52, 53, 54, 55, 56, 57]).extract (n.tmod 10).toNat (w64 ((n.tmod 10) + 1)).toNat).size ≤ 4294967296)).bind fun u11 =>
   some (r2 ++ ((str [48, 49, 50, 51, 52, 53, 54, 55, 56, 57]).extract (n.tmod 10).toNat (w64 ((n.tmod 10) + 1)).toNat))
noncomputable def s_l1Num_k : Nat → Int → Option (ByteArray)
 | 0 => fun _ => none
 | n + 1 => s_l1Num_F (s_l1Num_k n)
noncomputable def s_l1Num (n : Int) : Option (ByteArray) := s_l1Num_k 4294967296 n
noncomputable def s_l3Text_L1 (c : Calendar) : ByteArray × Int → Option (Lp (ByteArray × Int) (ByteArray))
 | (w, i) =>
  if (decide (i < 7)) = true then
   ((chk ((0 : Int) ≤ (IntKind.u64.wrap (i)))).bind fun u6 =>
   if ((IntKind.i64.wrap ((BitVec.ofInt (IntKind.i64).bits (c.Weekdays.fdiv (2 ^ (min ((IntKind.u64.wrap (i)) : Int).toNat (IntKind.i64).bits))) &&& BitVec.ofInt (IntKind.i64).bits 1).toNat : Int)) == 1) = true then
    (chk ((0 : Int) ≤ i ∧ (i : Int) ≤ (w64 (i + 1)) ∧ (w64 (i + 1)) ≤ ((str [109, 116, 119, 116, 102, 115, 115]).size : Int))).bind fun u7 =>
    (chk (w.size + ((str [109, 116, 119, 116, 102, 115, 115]).extract i.toNat (w64 (i + 1)).toNat).size ≤ 4294967296)).bind fun u8 =>
    some (w ++ ((str [109, 116, 119, 116, 102, 115, 115]).extract i.toNat (w64 (i + 1)).toNat))
   else
    (chk (w.size + (str [46]).size ≤ 4294967296)).bind fun u9 =>
    some (w ++ (str [46]))).bind fun (w1 : ByteArray) =>
   some (.nx (w1, (w64 (i + 1))))
  else
   some (.dn w)
noncomputable def s_l3Text_L2 (c : Calendar) : ByteArray × Int → Option (Lp (ByteArray × Int) (ByteArray))
 | (w3, i1) =>
  if (decide (i1 < (c.Added.length : Int))) = true then
   (chk (w3.size + (str [32, 43]).size ≤ 4294967296)).bind fun u10 =>
   (idx c.Added i1).bind fun e =>
   (s_l1Num e).bind fun r4 =>
   (chk ((w3 ++ (str [32, 43])).size + r4.size ≤ 4294967296)).bind fun u11 =>
   some (.nx (((w3 ++ (str [32, 43])) ++ r4), (w64 (i1 + 1))))
  else
   some (.dn w3)
noncomputable def s_l3Text_L3 (c : Calendar) : ByteArray × Int → Option (Lp (ByteArray × Int) (ByteArray))
 | (w5, v) =>
  if (decide (v < (c.Removed.length : Int))) = true then
   (chk (w5.size + (str [32, 45]).size ≤ 4294967296)).bind fun u12 =>
   (idx c.Removed v).bind fun e1 =>
   (s_l1Num e1).bind fun r5 =>
   (chk ((w5 ++ (str [32, 45])).size + r5.size ≤ 4294967296)).bind fun u13 =>
   some (.nx (((w5 ++ (str [32, 45])) ++ r5), (w64 (v + 1))))
  else
   some (.dn w5)
noncomputable def s_l3Text (c : Calendar) : Option (ByteArray) :=
 (s_l1Num c.From).bind fun r2 =>
 (chk (r2.size + (str [45]).size ≤ 4294967296)).bind fun u3 =>
 (s_l1Num c.To).bind fun r3 =>
 (chk ((r2 ++ (str [45])).size + r3.size ≤ 4294967296)).bind fun u4 =>
 (chk (((r2 ++ (str [45])) ++ r3).size + (str [32]).size ≤ 4294967296)).bind fun u5 =>
 (iter (s_l3Text_L1 c) ((((r2 ++ (str [45])) ++ r3) ++ (str [32])), (0 : Int))).bind fun (w2 : ByteArray) =>
 (iter (s_l3Text_L2 c) (w2, (0 : Int))).bind fun (w4 : ByteArray) =>
 (iter (s_l3Text_L3 c) (w4, (0 : Int))).bind fun (w6 : ByteArray) =>
 some w6
noncomputable def s_FormatCalendar (c : Calendar) : Option (ByteArray × Bool) :=
 (s_l3Good c).bind fun r =>
 if (!r) = true then
  some ((str []), false)
 else
  (s_l3Text c).bind fun r1 =>
  some (r1, true)
noncomputable def i_natural_L1 (s : ByteArray) : Int × Int → Option (Lp (Int × Int) (Fl (Int × ByteArray × Bool) (Int × Int)))
 | (i, v) =>
  (if (decide (v < (s.size : Int))) = true then (chk ((0 : Int) ≤ v ∧ v < (s.size : Int))).bind fun u =>
  if (decide (48 ≤ ((s.data.toList.getD v.toNat 0).toNat : Int))) = true then (chk ((0 : Int) ≤ v ∧ v < (s.size : Int))).bind fun u1 =>
  some (decide (((s.data.toList.getD v.toNat 0).toNat : Int) ≤ 57)) else some false else some false).bind fun (v1 : Bool) =>
  if v1 = true then
   (if (v == 6) = true then some true else if (v == 1) = true then some (i == 0) else some false).bind fun (v2 : Bool) =>
   if v2 = true then
    some (.dn (.ret (0, (str []), false)))
   else
    (chk ((0 : Int) ≤ v ∧ v < (s.size : Int))).bind fun u2 =>
    some (.nx ((w64 ((w64 (i * 10)) + (w64 ((IntKind.u8.wrap (((s.data.toList.getD v.toNat 0).toNat : Int) - 48)))))), (w64 (v + 1))))
  else
   some (.dn (.go (i, v)))
noncomputable def i_natural (s : ByteArray) : Option (Int × ByteArray × Bool) :=
 flb (iter (i_natural_L1 s) ((0 : Int), (0 : Int))) fun ((i1, v3) : Int × Int) =>
 (chk ((0 : Int) ≤ v3 ∧ v3 ≤ (s.size : Int))).bind fun u4 =>
 some (i1, (s.extract v3.toNat s.size), (decide (0 < v3)))
noncomputable def strings_HasPrefix (s : ByteArray) (prefix_ : ByteArray) : Option (Bool) :=
 hasPrefixM s prefix_
noncomputable def i_ParseCalendar_L1 (r2 : Int × ByteArray × Bool) : Int × Int → Option (Lp (Int × Int) (Fl (Calendar × Bool) (Int)))
 | (v2, v3) =>
  if (decide (v2 < 7)) = true then
   flb ((chk ((0 : Int) ≤ (w64 (1 + v2)) ∧ (w64 (1 + v2)) < (r2.2.1.size : Int))).bind fun u2 =>
   (chk ((0 : Int) ≤ v2 ∧ v2 < ((str [109, 116, 119, 116, 102, 115, 115]).size : Int))).bind fun u3 =>
   if (((r2.2.1.data.toList.getD (w64 (1 + v2)).toNat 0).toNat : Int) == (((str [109, 116, 119, 116, 102, 115, 115]).data.toList.getD v2.toNat 0).toNat : Int)) = true then
    (chk ((0 : Int) ≤ v2)).bind fun u5 =>
    some (.go (IntKind.i64.wrap ((BitVec.ofInt (IntKind.i64).bits v3 ||| BitVec.ofInt (IntKind.i64).bits (w64 (1 * 2 ^ (min (v2 : Int).toNat (IntKind.i64).bits)))).toNat : Int)))
   else
    if (((r2.2.1.data.toList.getD (w64 (1 + v2)).toNat 0).toNat : Int) == 46) = true then
     some (.go v3)
    else
     some (.ret (.dn (.ret ((⟨0, 0, 0, ([] : List Int), ([] : List Int)⟩ : Calendar), false))))) fun (v4 : Int) =>
   some (.nx ((w64 (v2 + 1)), v4))
  else
   some (.dn (.go v3))
noncomputable def i_ParseCalendar_L2 : ByteArray × (List Int) × (List Int) → Option (Lp (ByteArray × (List Int) × (List Int)) (Fl (Calendar × Bool) ((List Int) × (List Int))))
 | (s2, v7, v8) =>
  if (!(s2.toList == (str []).toList)) = true then
   (if (decide ((s2.size : Int) < 3)) = true then some true else (chk ((0 : Int) ≤ 0 ∧ 0 < (s2.size : Int))).bind fun u7 =>
   some (((s2.data.toList.getD (0 : Int).toNat 0).toNat : Int) != 32)).bind fun (v9 : Bool) =>
   if v9 = true then
    some (.dn (.ret ((⟨0, 0, 0, ([] : List Int), ([] : List Int)⟩ : Calendar), false)))
   else
    (chk ((0 : Int) ≤ 1 ∧ 1 < (s2.size : Int))).bind fun u8 =>
    (chk ((0 : Int) ≤ 2 ∧ 2 ≤ (s2.size : Int))).bind fun u9 =>
    (i_natural (s2.extract (2 : Int).toNat s2.size)).bind fun r6 =>
    if (!r6.2.2) = true then
     some (.dn (.ret ((⟨0, 0, 0, ([] : List Int), ([] : List Int)⟩ : Calendar), false)))
    else
     (if (((s2.data.toList.getD (1 : Int).toNat 0).toNat : Int) == 43) = true then some ((v8.length : Int) == 0) else some false).bind fun (v10 : Bool) =>
     if v10 = true then
      (chk (v7.length + ([r6.1] : List Int).length ≤ 4294967296)).bind fun u10 =>
      some (.nx (r6.2.1, (v7 ++ ([r6.1] : List Int)), v8))
     else
      if (((s2.data.toList.getD (1 : Int).toNat 0).toNat : Int) == 45) = true then
       (chk (v8.length + ([r6.1] : List Int).length ≤ 4294967296)).bind fun u11 =>
       some (.nx (r6.2.1, v7, (v8 ++ ([r6.1] : List Int))))
      else
       some (.dn (.ret ((⟨0, 0, 0, ([] : List Int), ([] : List Int)⟩ : Calendar), false)))
  else
   some (.dn (.go (v7, v8)))
noncomputable def i_ParseCalendar (s : ByteArray) : Option (Calendar × Bool) :=
 (i_natural s).bind fun r =>
 (if (!r.2.2) = true then some true else (strings_HasPrefix r.2.1 (str [45])).bind fun r1 =>
 some (!r1)).bind fun (v : Bool) =>
 if v = true then
  some ((⟨0, 0, 0, ([] : List Int), ([] : List Int)⟩ : Calendar), false)
 else
  (chk ((0 : Int) ≤ 1 ∧ 1 ≤ (r.2.1.size : Int))).bind fun u =>
  (i_natural (r.2.1.extract (1 : Int).toNat r.2.1.size)).bind fun r2 =>
  (if (!r2.2.2) = true then some true else if (decide ((r2.2.1.size : Int) < 8)) = true then some true else (chk ((0 : Int) ≤ 0 ∧ 0 < (r2.2.1.size : Int))).bind fun u1 =>
  some (((r2.2.1.data.toList.getD (0 : Int).toNat 0).toNat : Int) != 32)).bind fun (v1 : Bool) =>
  if v1 = true then
   some ((⟨0, 0, 0, ([] : List Int), ([] : List Int)⟩ : Calendar), false)
  else
   flb (iter (i_ParseCalendar_L1 r2) ((0 : Int), (0 : Int))) fun (v6 : Int) =>
   (chk ((0 : Int) ≤ 8 ∧ 8 ≤ (r2.2.1.size : Int))).bind fun u6 =>
   flb (iter (i_ParseCalendar_L2) ((r2.2.1.extract (8 : Int).toNat r2.2.1.size), ([] : List Int), ([] : List Int))) fun ((v11, v12) : (List Int) × (List Int)) =>
   (i_IsValidCalendar (⟨r.1, r2.1, v6, v11, v12⟩ : Calendar)).bind fun r9 =>
   if (!r9) = true then
    some ((⟨0, 0, 0, ([] : List Int), ([] : List Int)⟩ : Calendar), false)
   else
    some ((⟨r.1, r2.1, v6, v11, v12⟩ : Calendar), true)
noncomputable def v_rInts_L1 (a : List Int) (b : List Int) : Int → Option (Lp (Int) (Fl (Bool) (Unit)))
 | v =>
  if (decide (v < (a.length : Int))) = true then
   (idx a v).bind fun e2 =>
   (idx b v).bind fun e3 =>
   if (e2 != e3) = true then
    some (.dn (.ret false))
   else
    some (.nx (w64 (v + 1)))
  else
   some (.dn (.go ()))
noncomputable def v_rInts (a : List Int) (b : List Int) : Option (Bool) :=
 if ((a.length : Int) != (b.length : Int)) = true then
  some false
 else
  flb (iter (v_rInts_L1 a b) (0 : Int)) fun (_ : Unit) =>
  some true
noncomputable def v_rCalendars (a : Calendar) (b : Calendar) : Option (Bool) :=
 (if (a.From == b.From) = true then if (a.To == b.To) = true then if (a.Weekdays == b.Weekdays) = true then (v_rInts a.Added b.Added).bind fun r =>
 if r = true then (v_rInts a.Removed b.Removed).bind fun r1 =>
 some r1 else some false else some false else some false else some false).bind fun (v : Bool) =>
 some v
noncomputable def cmp_isNaN_int (x : Int) : Option (Bool) :=
 some (x != x)
noncomputable def cmp_Less_int (x : Int) (y_ : Int) : Option (Bool) :=
 (cmp_isNaN_int x).bind fun r =>
 (if r = true then (cmp_isNaN_int y_).bind fun r1 =>
 if (!r1) = true then some true else some (decide (x < y_)) else some (decide (x < y_))).bind fun (v : Bool) =>
 some v
noncomputable def slices_isNaN_int (x : Int) : Option (Bool) :=
 some (x != x)
noncomputable def slices_BinarySearch_int_L1 (x : List Int) (target : Int) : Int × Int → Option (Lp (Int × Int) (Int))
 | (h, v) =>
  if (decide (h < v)) = true then
   (chk ((0 : Int) ≤ 1)).bind fun u =>
   (idx x (w64 (((IntKind.u64.wrap ((w64 (h + v)))).fdiv (2 ^ (min (1 : Int).toNat (IntKind.u64).bits)))))).bind fun e =>
   (cmp_Less_int e target).bind fun r =>
   if r = true then
    some (.nx ((w64 ((w64 (((IntKind.u64.wrap ((w64 (h + v)))).fdiv (2 ^ (min (1 : Int).toNat (IntKind.u64).bits))))) + 1)), v))
   else
    some (.nx (h, (w64 (((IntKind.u64.wrap ((w64 (h + v)))).fdiv (2 ^ (min (1 : Int).toNat (IntKind.u64).bits)))))))
  else
   some (.dn h)
noncomputable def slices_BinarySearch_int (x : List Int) (target : Int) : Option (Int × Bool) :=
 (iter (slices_BinarySearch_int_L1 x target) ((0 : Int), (x.length : Int))).bind fun (h4 : Int) =>
 (if (decide (h4 < (x.length : Int))) = true then (idx x h4).bind fun e1 =>
 if (e1 == target) = true then some true else (idx x h4).bind fun e2 =>
 (slices_isNaN_int e2).bind fun r1 =>
 if r1 = true then (slices_isNaN_int target).bind fun r2 =>
 some r2 else some false else some false).bind fun (i : Bool) =>
 some (h4, i)
noncomputable def slices_Clone_int (s : List Int) : Option ((List Int)) :=
 (chk (([] : List Int).length + s.length ≤ 4294967296)).bind fun u =>
 some s
noncomputable def slices_Insert_int_m (s : List Int) (i : Int) (v : List Int) : Option ((List Int)) :=
 insM s i v
noncomputable def slices_Delete_int_m (s : List Int) (i : Int) (j : Int) : Option ((List Int)) :=
 delM s i j
noncomputable def i_withDay (days : List Int) (day : Int) (in_ : Bool) : Option ((List Int)) :=
 (slices_BinarySearch_int days day).bind fun r =>
 (slices_Clone_int days).bind fun r1 =>
 ((if in_ = true then some (!r.2) else some false).bind fun (v1 : Bool) =>
 if v1 = true then
  (slices_Insert_int_m r1 r.1 ([day] : List Int)).bind fun r2 =>
  some r2
 else
  (if (!in_) = true then some r.2 else some false).bind fun (v2 : Bool) =>
  if v2 = true then
   (slices_Delete_int_m r1 r.1 (w64 (r.1 + 1))).bind fun r3 =>
   some r3
  else
   some r1).bind fun (v : List Int) =>
 some v
noncomputable def i_ExceptDay (c : Calendar) (day : Int) (runs : Bool) : Option (Calendar × Bool) :=
 (i_IsValidCalendar c).bind fun r =>
 (if (!r) = true then some true else if (decide (day < c.From)) = true then some true else some (decide (c.To < day))).bind fun (v : Bool) =>
 if v = true then
  some ((⟨0, 0, 0, ([] : List Int), ([] : List Int)⟩ : Calendar), false)
 else
  (i_byWeekday c.Weekdays day).bind fun r1 =>
  (if runs = true then (i_withDay c.Added day (!r1)).bind fun r2 =>
  some r2 else (i_withDay c.Added day false).bind fun r3 =>
  some r3).bind fun (v1 : List Int) =>
  (if (!runs) = true then (i_withDay c.Removed day r1).bind fun r4 =>
  some r4 else (i_withDay c.Removed day false).bind fun r5 =>
  some r5).bind fun (v2 : List Int) =>
  (i_IsValidCalendar (⟨c.From, c.To, c.Weekdays, v1, v2⟩ : Calendar)).bind fun r6 =>
  if (!r6) = true then
   some ((⟨0, 0, 0, ([] : List Int), ([] : List Int)⟩ : Calendar), false)
  else
   some ((⟨c.From, c.To, c.Weekdays, v1, v2⟩ : Calendar), true)
noncomputable def s_l3Without_L1 (list : List Int) (x : Int) : Int × (List Int) → Option (Lp (Int × (List Int)) ((List Int)))
 | (v, v1) =>
  if (decide (v < (list.length : Int))) = true then
   ((idx list v).bind fun e =>
   if (e != x) = true then
    (idx list v).bind fun e1 =>
    (chk (v1.length + ([e1] : List Int).length ≤ 4294967296)).bind fun u =>
    some (v1 ++ ([e1] : List Int))
   else
    some v1).bind fun (v2 : List Int) =>
   some (.nx ((w64 (v + 1)), v2))
  else
   some (.dn v1)
noncomputable def s_l3Without (list : List Int) (x : Int) : Option ((List Int)) :=
 (iter (s_l3Without_L1 list x) ((0 : Int), ([] : List Int))).bind fun (v3 : List Int) =>
 some v3
noncomputable def s_l1Put_L1 (l : List Int) (n : Int) : Int → Option (Lp (Int) (Int))
 | v =>
  (if (decide (v < (l.length : Int))) = true then (idx l v).bind fun e =>
  some (decide (e < n)) else some false).bind fun (v1 : Bool) =>
  if v1 = true then
   some (.nx (w64 (v + 1)))
  else
   some (.dn v)
noncomputable def s_l1Put (l : List Int) (n : Int) : Option ((List Int)) :=
 (iter (s_l1Put_L1 l n) (0 : Int)).bind fun (v2 : Int) =>
 (if (decide (v2 < (l.length : Int))) = true then (idx l v2).bind fun e1 =>
 some (e1 == n) else some false).bind fun (v3 : Bool) =>
 if v3 = true then
  some l
 else
  (chk ((0 : Int) ≤ 0 ∧ (0 : Int) ≤ v2 ∧ v2 ≤ (l.length : Int))).bind fun u5 =>
  (chk (([] : List Int).length + ((l.take v2.toNat).drop (0 : Int).toNat).length ≤ 4294967296)).bind fun u6 =>
  (chk ((([] : List Int) ++ ((l.take v2.toNat).drop (0 : Int).toNat)).length + ([n] : List Int).length ≤ 4294967296)).bind fun u7 =>
  (chk ((0 : Int) ≤ v2 ∧ v2 ≤ (l.length : Int))).bind fun u8 =>
  (chk (((([] : List Int) ++ ((l.take v2.toNat).drop (0 : Int).toNat)) ++ ([n] : List Int)).length + (l.drop v2.toNat).length ≤ 4294967296)).bind fun u9 =>
  some (((([] : List Int) ++ ((l.take v2.toNat).drop (0 : Int).toNat)) ++ ([n] : List Int)) ++ (l.drop v2.toNat))
noncomputable def s_ExceptDay (c : Calendar) (day : Int) (runs : Bool) : Option (Calendar × Bool) :=
 (s_l3Good c).bind fun r =>
 (if (!r) = true then some true else (s_l1In day c.From c.To).bind fun r1 =>
 some (!r1)).bind fun (v : Bool) =>
 if v = true then
  some ((⟨0, 0, 0, ([] : List Int), ([] : List Int)⟩ : Calendar), false)
 else
  (s_l3Without c.Added day).bind fun r2 =>
  (s_l3Without c.Removed day).bind fun r3 =>
  ((if runs = true then (s_l3Regular c day).bind fun r4 =>
  some (!r4) else some false).bind fun (v3 : Bool) =>
  if v3 = true then
   (s_l1Put r2 day).bind fun r5 =>
   some (r5, r3)
  else
   (if (!runs) = true then (s_l3Regular c day).bind fun r6 =>
   some r6 else some false).bind fun (v4 : Bool) =>
   if v4 = true then
    (s_l1Put r3 day).bind fun r7 =>
    some (r2, r7)
   else
    some (r2, r3)).bind fun ((v1, v2) : (List Int) × (List Int)) =>
  (s_l3Good (⟨c.From, c.To, c.Weekdays, v1, v2⟩ : Calendar)).bind fun r8 =>
  if (!r8) = true then
   some ((⟨0, 0, 0, ([] : List Int), ([] : List Int)⟩ : Calendar), false)
  else
   some ((⟨c.From, c.To, c.Weekdays, v1, v2⟩ : Calendar), true)
noncomputable def slices_Index_int_L1 (s : List Int) (v : Int) : Int → Option (Lp (Int) (Fl (Int) (Unit)))
 | v1 =>
  if (decide (v1 < (s.length : Int))) = true then
   (idx s v1).bind fun e =>
   if (v == e) = true then
    some (.dn (.ret v1))
   else
    some (.nx (w64 (v1 + 1)))
  else
   some (.dn (.go ()))
noncomputable def slices_Index_int (s : List Int) (v : Int) : Option (Int) :=
 flb (iter (slices_Index_int_L1 s v) (0 : Int)) fun (_ : Unit) =>
 some (-1)
noncomputable def slices_Contains_int (s : List Int) (v : Int) : Option (Bool) :=
 (slices_Index_int s v).bind fun r =>
 some (decide (0 ≤ r))
noncomputable def i_runsOn (c : Calendar) (day : Int) : Option (Bool) :=
 (if (decide (day < c.From)) = true then some true else some (decide (c.To < day))).bind fun (v : Bool) =>
 if v = true then
  some false
 else
  (i_byWeekday c.Weekdays day).bind fun r =>
  (if r = true then (slices_Contains_int c.Removed day).bind fun r1 =>
  if (!r1) = true then some true else (slices_Contains_int c.Added day).bind fun r2 =>
  some r2 else (slices_Contains_int c.Added day).bind fun r3 =>
  some r3).bind fun (v1 : Bool) =>
  some v1
noncomputable def i_RunsOn (c : Calendar) (day : Int) : Option (Bool × Bool) :=
 (i_IsValidCalendar c).bind fun r =>
 (if (!r) = true then some true else (i_isDay day).bind fun r1 =>
 some (!r1)).bind fun (v : Bool) =>
 if v = true then
  some (false, false)
 else
  (i_runsOn c day).bind fun r2 =>
  some (r2, true)
noncomputable def s_l1Cur_spoilt (c : l1Cur) (t : ByteArray) (with_ : ByteArray) : Option (ByteArray × l1Cur) :=
 if (t.toList == (str []).toList) = true then
  (chk ((0 : Int) ≤ 0 ∧ (0 : Int) ≤ 1 ∧ 1 ≤ (with_.size : Int))).bind fun u =>
  some ((with_.extract (0 : Int).toNat (1 : Int).toNat), c)
 else
  (s_l1Cur_pick c (t.size : Int)).bind fun r =>
  (s_l1Cur_pick r.2 (with_.size : Int)).bind fun r1 =>
  (chk ((0 : Int) ≤ r1.1 ∧ r1.1 ≤ (with_.size : Int))).bind fun u1 =>
  (chk ((0 : Int) ≤ 0 ∧ (0 : Int) ≤ 1 ∧ 1 ≤ ((with_.extract r1.1.toNat with_.size).size : Int))).bind fun u2 =>
  (s_l1Cur_pick r1.2 3).bind fun r2 =>
  if (r2.1 == 0) = true then
   (chk ((0 : Int) ≤ 0 ∧ (0 : Int) ≤ r.1 ∧ r.1 ≤ (t.size : Int))).bind fun u7 =>
   (chk ((t.extract (0 : Int).toNat r.1.toNat).size + ((with_.extract r1.1.toNat with_.size).extract (0 : Int).toNat (1 : Int).toNat).size ≤ 4294967296)).bind fun u8 =>
   (chk ((0 : Int) ≤ r.1 ∧ r.1 ≤ (t.size : Int))).bind fun u9 =>
   (chk (((t.extract (0 : Int).toNat r.1.toNat) ++ ((with_.extract r1.1.toNat with_.size).extract (0 : Int).toNat (1 : Int).toNat)).size + (t.extract r.1.toNat t.size).size ≤ 4294967296)).bind fun u10 =>
   some ((((t.extract (0 : Int).toNat r.1.toNat) ++ ((with_.extract r1.1.toNat with_.size).extract (0 : Int).toNat (1 : Int).toNat)) ++ (t.extract r.1.toNat t.size)), r2.2)
  else
   if (r2.1 == 1) = true then
    (chk ((0 : Int) ≤ 0 ∧ (0 : Int) ≤ r.1 ∧ r.1 ≤ (t.size : Int))).bind fun u15 =>
    (chk ((t.extract (0 : Int).toNat r.1.toNat).size + ((with_.extract r1.1.toNat with_.size).extract (0 : Int).toNat (1 : Int).toNat).size ≤ 4294967296)).bind fun u16 =>
    (chk ((0 : Int) ≤ (w64 (r.1 + 1)) ∧ (w64 (r.1 + 1)) ≤ (t.size : Int))).bind fun u17 =>
    (chk (((t.extract (0 : Int).toNat r.1.toNat) ++ ((with_.extract r1.1.toNat with_.size).extract (0 : Int).toNat (1 : Int).toNat)).size + (t.extract (w64 (r.1 + 1)).toNat t.size).size ≤ 4294967296)).bind fun u18 =>
    some ((((t.extract (0 : Int).toNat r.1.toNat) ++ ((with_.extract r1.1.toNat with_.size).extract (0 : Int).toNat (1 : Int).toNat)) ++ (t.extract (w64 (r.1 + 1)).toNat t.size)), r2.2)
   else
    (chk ((0 : Int) ≤ 0 ∧ (0 : Int) ≤ r.1 ∧ r.1 ≤ (t.size : Int))).bind fun u22 =>
    (chk ((0 : Int) ≤ (w64 (r.1 + 1)) ∧ (w64 (r.1 + 1)) ≤ (t.size : Int))).bind fun u23 =>
    (chk ((t.extract (0 : Int).toNat r.1.toNat).size + (t.extract (w64 (r.1 + 1)).toNat t.size).size ≤ 4294967296)).bind fun u24 =>
    some (((t.extract (0 : Int).toNat r.1.toNat) ++ (t.extract (w64 (r.1 + 1)).toNat t.size)), r2.2)
noncomputable def s_DrawParseCalendar (code : List UInt8) : Option (ByteArray) :=
 (s_l1Cur_calendar (⟨code, 0, (⟨0⟩ : IK .u64)⟩ : l1Cur)).bind fun r =>
 (s_l3Text (⟨r.1.From, r.1.To, r.1.Weekdays, r.1.Added, r.1.Removed⟩ : Calendar)).bind fun r1 =>
 ((s_l1Cur_one r.2 3).bind fun r2 =>
 if r2.1 = true then
  (s_l1Cur_spoilt r2.2 r1 (str [43, 45, 46, 32, 109, 48])).bind fun r3 =>
  some r3.1
 else
  some r1).bind fun (v : ByteArray) =>
 some v
noncomputable def s_l1Split_L1 (s : ByteArray) (b : UInt8) : Int × Int × (List ByteArray) → Option (Lp (Int × Int × (List ByteArray)) (Int × (List ByteArray)))
 | (v, v1, i) =>
  if (decide (v1 < (s.size : Int))) = true then
   ((chk ((0 : Int) ≤ v1 ∧ v1 < (s.size : Int))).bind fun u =>
   if (((s.data.toList.getD v1.toNat 0).toNat : Int) == (b.toNat : Int)) = true then
    (chk ((0 : Int) ≤ v ∧ (v : Int) ≤ v1 ∧ v1 ≤ (s.size : Int))).bind fun u1 =>
    (chk (i.length + ([(s.extract v.toNat v1.toNat)] : List ByteArray).length ≤ 4294967296)).bind fun u2 =>
    some ((w64 (v1 + 1)), (i ++ ([(s.extract v.toNat v1.toNat)] : List ByteArray)))
   else
    some (v, i)).bind fun ((v2, i1) : Int × (List ByteArray)) =>
   some (.nx (v2, (w64 (v1 + 1)), i1))
  else
   some (.dn (v, i))
noncomputable def s_l1Split (s : ByteArray) (b : UInt8) : Option ((List ByteArray)) :=
 (iter (s_l1Split_L1 s b) ((0 : Int), (0 : Int), ([] : List ByteArray))).bind fun ((v3, i2) : Int × (List ByteArray)) =>
 (chk ((0 : Int) ≤ v3 ∧ v3 ≤ (s.size : Int))).bind fun u3 =>
 (chk (i2.length + ([(s.extract v3.toNat s.size)] : List ByteArray).length ≤ 4294967296)).bind fun u4 =>
 some (i2 ++ ([(s.extract v3.toNat s.size)] : List ByteArray))
noncomputable def s_l1Read_L1 (n : ByteArray) : Int × Int → Option (Lp (Int × Int) (Fl (Int × Bool) (Int)))
 | (i, v1) =>
  if (decide (v1 < (n.size : Int))) = true then
   (chk ((0 : Int) ≤ v1 ∧ v1 < (n.size : Int))).bind fun u2 =>
   (if (decide (((n.data.toList.getD v1.toNat 0).toNat : Int) < 48)) = true then some true else (chk ((0 : Int) ≤ v1 ∧ v1 < (n.size : Int))).bind fun u3 =>
   some (decide (57 < ((n.data.toList.getD v1.toNat 0).toNat : Int)))).bind fun (v2 : Bool) =>
   if v2 = true then
    some (.dn (.ret (0, false)))
   else
    (chk ((0 : Int) ≤ v1 ∧ v1 < (n.size : Int))).bind fun u4 =>
    some (.nx ((w64 ((w64 (10 * i)) + (w64 ((IntKind.u8.wrap (((n.data.toList.getD v1.toNat 0).toNat : Int) - 48)))))), (w64 (v1 + 1))))
  else
   some (.dn (.go i))
noncomputable def s_l1Read (s : ByteArray) : Option (Int × Bool) :=
 ((if (decide (1 < (s.size : Int))) = true then (chk ((0 : Int) ≤ 0 ∧ 0 < (s.size : Int))).bind fun u =>
 some (((s.data.toList.getD (0 : Int).toNat 0).toNat : Int) == 45) else some false).bind fun (v : Bool) =>
 if v = true then
  (chk ((0 : Int) ≤ 1 ∧ 1 ≤ (s.size : Int))).bind fun u1 =>
  some (s.extract (1 : Int).toNat s.size)
 else
  some s).bind fun (n : ByteArray) =>
 (s_l1In (n.size : Int) 1 6).bind fun r =>
 if (!r) = true then
  some (0, false)
 else
  flb (iter (s_l1Read_L1 n) ((0 : Int), (0 : Int))) fun (i1 : Int) =>
  (if (decide ((n.size : Int) < (s.size : Int))) = true then
   some (w64 (0 - i1))
  else
   some i1).bind fun (i2 : Int) =>
  (s_l1Num i2).bind fun r2 =>
  if (!(r2.toList == s.toList)) = true then
   some (0, false)
  else
   some (i2, true)
noncomputable def s_ParseCalendar_L1 (r : (List ByteArray)) : Int × Int → Option (Lp (Int × Int) (Int))
 | (i, v2) =>
  if (decide (i < 7)) = true then
   ((idx r 1).bind fun e4 =>
   (chk ((0 : Int) ≤ i ∧ i < (e4.size : Int))).bind fun u =>
   if (((e4.data.toList.getD i.toNat 0).toNat : Int) != 46) = true then
    (chk ((0 : Int) ≤ (IntKind.u64.wrap (i)))).bind fun u1 =>
    some (IntKind.i64.wrap ((BitVec.ofInt (IntKind.i64).bits v2 ||| BitVec.ofInt (IntKind.i64).bits (w64 (1 * 2 ^ (min ((IntKind.u64.wrap (i)) : Int).toNat (IntKind.i64).bits)))).toNat : Int))
   else
    some v2).bind fun (v3 : Int) =>
   some (.nx ((w64 (i + 1)), v3))
  else
   some (.dn v2)
noncomputable def s_ParseCalendar_L2 (r : (List ByteArray)) : Int × (List Int) × (List Int) → Option (Lp (Int × (List Int) × (List Int)) (Fl (Calendar × Bool) ((List Int) × (List Int))))
 | (day, v5, v6) =>
  if (decide (day < (r.length : Int))) = true then
   flb ((idx r day).bind fun e5 =>
   if (e5.toList == (str []).toList) = true then
    some (.ret (.dn (.ret ((⟨0, 0, 0, ([] : List Int), ([] : List Int)⟩ : Calendar), false))))
   else
    (idx r day).bind fun e8 =>
    (chk ((0 : Int) ≤ 1 ∧ 1 ≤ (e8.size : Int))).bind fun u2 =>
    (s_l1Read (e8.extract (1 : Int).toNat e8.size)).bind fun r6 =>
    if (!r6.2) = true then
     some (.ret (.dn (.ret ((⟨0, 0, 0, ([] : List Int), ([] : List Int)⟩ : Calendar), false))))
    else
     (idx r day).bind fun e11 =>
     (chk ((0 : Int) ≤ 0 ∧ 0 < (e11.size : Int))).bind fun u3 =>
     if (((e11.data.toList.getD (0 : Int).toNat 0).toNat : Int) == 43) = true then
      (chk (v5.length + ([r6.1] : List Int).length ≤ 4294967296)).bind fun u4 =>
      some (.go ((v5 ++ ([r6.1] : List Int)), v6))
     else
      (chk (v6.length + ([r6.1] : List Int).length ≤ 4294967296)).bind fun u5 =>
      some (.go (v5, (v6 ++ ([r6.1] : List Int))))) fun ((v7, v8) : (List Int) × (List Int)) =>
   some (.nx ((w64 (day + 1)), v7, v8))
  else
   some (.dn (.go (v5, v6)))
noncomputable def s_ParseCalendar (s : ByteArray) : Option (Calendar × Bool) :=
 (s_l1Split s (mkU8 32)).bind fun r =>
 (if (decide (150 < (s.size : Int))) = true then some true else if (decide ((r.length : Int) < 2)) = true then some true else (idx r 1).bind fun e =>
 some ((e.size : Int) != 7)).bind fun (v : Bool) =>
 if v = true then
  some ((⟨0, 0, 0, ([] : List Int), ([] : List Int)⟩ : Calendar), false)
 else
  (idx r 0).bind fun e1 =>
  (s_l1Split e1 (mkU8 45)).bind fun r1 =>
  if ((r1.length : Int) != 2) = true then
   some ((⟨0, 0, 0, ([] : List Int), ([] : List Int)⟩ : Calendar), false)
  else
   (idx r1 0).bind fun e2 =>
   (s_l1Read e2).bind fun r2 =>
   (idx r1 1).bind fun e3 =>
   (s_l1Read e3).bind fun r3 =>
   (if (!r2.2) = true then some true else some (!r3.2)).bind fun (v1 : Bool) =>
   if v1 = true then
    some ((⟨0, 0, 0, ([] : List Int), ([] : List Int)⟩ : Calendar), false)
   else
    (iter (s_ParseCalendar_L1 r) ((0 : Int), (0 : Int))).bind fun (v4 : Int) =>
    flb (iter (s_ParseCalendar_L2 r) ((2 : Int), ([] : List Int), ([] : List Int))) fun ((v10, v11) : (List Int) × (List Int)) =>
    (s_l3Good (⟨r2.1, r3.1, v4, v10, v11⟩ : Calendar)).bind fun r9 =>
    (if (!r9) = true then some true else (s_l3Text (⟨r2.1, r3.1, v4, v10, v11⟩ : Calendar)).bind fun r10 =>
    some (!(r10.toList == s.toList))).bind fun (v12 : Bool) =>
    if v12 = true then
     some ((⟨0, 0, 0, ([] : List Int), ([] : List Int)⟩ : Calendar), false)
    else
     some ((⟨r2.1, r3.1, v4, v10, v11⟩ : Calendar), true)
noncomputable def v_FnCalendars_L1 (r1 : Calendar × Int × Bool) (r8 : Calendar × Bool) : Int → Option (Lp (Int) (Fl (Bool) (Unit)))
 | a =>
  (if (decide (a ≤ r1.1.To)) = true then if r8.2 = true then some (decide (a ≤ (w64 (r1.1.From + 60)))) else some false else some false).bind fun (v3 : Bool) =>
  if v3 = true then
   (i_RunsOn r1.1 a).bind fun r11 =>
   (i_RunsOn r8.1 a).bind fun r12 =>
   (if (!r11.2) = true then some true else if (!r12.2) = true then some true else if (a == r1.2.1) = true then if (!(r12.1 == r1.2.2)) = true then some true else if (a != r1.2.1) = true then some (!(r11.1 == r12.1)) else some false else if (a != r1.2.1) = true then some (!(r11.1 == r12.1)) else some false).bind fun (v4 : Bool) =>
   if v4 = true then
    some (.dn (.ret false))
   else
    some (.nx (w64 (a + 1)))
  else
   some (.dn (.go ()))
noncomputable def v_FnCalendars (code : List UInt8) : Option (Bool) :=
 (v_rBig code).bind fun r =>
 if r = true then
  some true
 else
  (s_DrawExceptDay code).bind fun r1 =>
  (i_FormatCalendar r1.1).bind fun r2 =>
  (s_FormatCalendar r1.1).bind fun r3 =>
  (if (!(r2.1.toList == r3.1.toList)) = true then some true else if (!(r2.2 == r3.2)) = true then some true else (i_IsValidCalendar r1.1).bind fun r4 =>
  some (!(r2.2 == r4))).bind fun (v : Bool) =>
  if v = true then
   some false
  else
   flb (if r2.2 = true then
    (i_ParseCalendar r2.1).bind fun r5 =>
    (if (!r5.2) = true then some true else (v_rCalendars r5.1 r1.1).bind fun r6 =>
    some (!r6)).bind fun (v1 : Bool) =>
    if v1 = true then
     some (.ret false)
    else
     some (.go ())
   else
    some (.go ())) fun (_ : Unit) =>
   (i_ExceptDay r1.1 r1.2.1 r1.2.2).bind fun r8 =>
   (s_ExceptDay r1.1 r1.2.1 r1.2.2).bind fun r9 =>
   (if (!(r8.2 == r9.2)) = true then some true else (v_rCalendars r8.1 r9.1).bind fun r10 =>
   some (!r10)).bind fun (v2 : Bool) =>
   if v2 = true then
    some false
   else
    flb (iter (v_FnCalendars_L1 r1 r8) r1.1.From) fun (_ : Unit) =>
    (s_DrawParseCalendar code).bind fun r14 =>
    (i_ParseCalendar r14).bind fun r15 =>
    (s_ParseCalendar r14).bind fun r16 =>
    (if (r15.2 == r16.2) = true then (v_rCalendars r15.1 r16.1).bind fun r17 =>
    some r17 else some false).bind fun (c : Bool) =>
    some c
end Go.Proofs.YtbedhobglodjbaaDoor
