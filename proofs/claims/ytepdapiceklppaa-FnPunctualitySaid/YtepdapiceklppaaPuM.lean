/- Models of the functions that the law reaches: plain Lean; none where the function would panic or not end. Made by program (dec.py). -/
import Derived.Test.YtepdapiceklppaaAbEx5
namespace Go.Proofs.Ytepdapiceklppaa
open Go Go.Ab
set_option maxRecDepth 100000
set_option maxHeartbeats 4000000
set_option linter.unusedVariables false
set_option linter.unusedSimpArgs false
structure l1Cur where
  code_ : List UInt8
  at_ : Int
  seed_ : IK .u64
instance enc_l1Cur : Enc l1Cur := ⟨3, fun x => .agg [Enc.e x.code_, .sc (.int .i64 x.at_), .sc (.int .u64 x.seed_.v)], fun a b h => by
  simp only [D.agg.injEq, List.cons.injEq, and_true] at h
  obtain ⟨a1, a2, a3⟩ := a
  obtain ⟨b1, b2, b3⟩ := b
  obtain ⟨h1, h2, h3⟩ := h
  have q1 := Enc.inj (α := List UInt8) a1 b1 h1
  have q2 := Enc.inj (α := Int) a2 b2 h2
  have q3 := Enc.inj (α := IK .u64) a3 b3 h3
  subst q1; subst q2; subst q3; rfl⟩
structure Visit where
  Stop : Int
  Planned : Int
  Actual : Int
  Persons : Int
instance enc_Visit : Enc Visit := ⟨4, fun x => .agg [.sc (.int .i64 x.Stop), .sc (.int .i64 x.Planned), .sc (.int .i64 x.Actual), .sc (.int .i64 x.Persons)], fun a b h => by
  simp only [D.agg.injEq, List.cons.injEq, and_true] at h
  obtain ⟨a1, a2, a3, a4⟩ := a
  obtain ⟨b1, b2, b3, b4⟩ := b
  obtain ⟨h1, h2, h3, h4⟩ := h
  have q1 := Enc.inj (α := Int) a1 b1 h1
  have q2 := Enc.inj (α := Int) a2 b2 h2
  have q3 := Enc.inj (α := Int) a3 b3 h3
  have q4 := Enc.inj (α := Int) a4 b4 h4
  subst q1; subst q2; subst q3; subst q4; rfl⟩
instance : FlatEnc Visit := ⟨fun _ => flatDB_ok rfl⟩
noncomputable def v_rBig (code : List UInt8) : Option (Bool) :=
  some (decide (65536 < (code.length : Int)))
noncomputable def s_l1Cur_next (c : l1Cur) : Option (Int × l1Cur) :=
  (if (decide (c.at_ < (c.code_.length : Int))) = true then
    (idx c.code_ c.at_).bind fun e1 =>
    some (w64 ((e1.toNat : Int)))
  else
    some (0 : Int)).bind fun (v : Int) =>
  if (decide ((w64 (c.at_ + 1)) ≤ (c.code_.length : Int))) = true then
    some (v, (⟨c.code_, (w64 (c.at_ + 1)), (⟨(IntKind.u64.wrap ((IntKind.u64.wrap ((IntKind.u64.wrap (c.seed_.v * 6364136223846793005)) + (IntKind.u64.wrap (v)))) + 900900))⟩ : IK .u64)⟩ : l1Cur))
  else
    (chk ((0 : Int) ≤ 40)).bind fun u =>
    some ((w64 ((IntKind.u64.wrap ((BitVec.ofInt (IntKind.u64).bits ((IntKind.u64.wrap ((IntKind.u64.wrap ((IntKind.u64.wrap (c.seed_.v * 6364136223846793005)) + (IntKind.u64.wrap (v)))) + 900900)).fdiv (2 ^ (min (40 : Int).toNat (IntKind.u64).bits))) &&& BitVec.ofInt (IntKind.u64).bits 255).toNat : Int)))), (⟨c.code_, (w64 (c.at_ + 1)), (⟨(IntKind.u64.wrap ((IntKind.u64.wrap ((IntKind.u64.wrap (c.seed_.v * 6364136223846793005)) + (IntKind.u64.wrap (v)))) + 900900))⟩ : IK .u64)⟩ : l1Cur))
noncomputable def s_l1Cur_pick (c : l1Cur) (n : Int) : Option (Int × l1Cur) :=
  if (decide (n ≤ 1)) = true then
    some (0, c)
  else
    (s_l1Cur_next c).bind fun r =>
    (if (decide (200 < n)) = true then
      (s_l1Cur_next r.2).bind fun r1 =>
      some ((w64 ((w64 (r.1 * 256)) + r1.1)), r1.2.code_, r1.2.at_, r1.2.seed_.v)
    else
      some (r.1, r.2.code_, r.2.at_, r.2.seed_.v)).bind fun ((v, v1, v2, v3) : Int × (List UInt8) × Int × Int) =>
    (chk ((n : Int) ≠ 0)).bind fun u =>
    some ((v.tmod n), (⟨v1, v2, (⟨v3⟩ : IK .u64)⟩ : l1Cur))
noncomputable def s_l1Cur_among (c : l1Cur) (list : List Int) : Option (Int × l1Cur) :=
  (s_l1Cur_pick c (list.length : Int)).bind fun r =>
  (idx list r.1).bind fun e =>
  some (e, r.2)
noncomputable def s_l1Least (a : Int) (b : Int) : Option (Int) :=
  if (decide (a < b)) = true then
    some a
  else
    some b
noncomputable def s_l1Cur_among_w (c : l1Cur) (list : List Int) : Option (Int × l1Cur) :=
  (s_l1Cur_pick c (list.length : Int)).bind fun r =>
  (idx list r.1).bind fun e =>
  some (e, r.2)
noncomputable def s_l1Cur_visits_L1 : Int × Int × (List UInt8) × Int × Int × (List Visit) → Option (Lp (Int × Int × (List UInt8) × Int × Int × (List Visit)) ((List UInt8) × Int × Int × (List Visit)))
  | (n, x, v, v1, v2, t) =>
    if (decide (0 < x)) = true then
      (s_l1Cur_pick (⟨v, v1, (⟨v2⟩ : IK .u64)⟩ : l1Cur) 3).bind fun r2 =>
      (s_l1Least n 1799).bind fun r3 =>
      (s_l1Cur_among_w r2.2 ([0, 1, 10, 40] : List Int)).bind fun r4 =>
      (s_l1Cur_among_w r4.2 ([0, 0, 1, 2, 3, 5, 12, (-1), (-3)] : List Int)).bind fun r6 =>
      (chk (t.length + ([(⟨r2.1, r3, (w64 (r3 + r6.1)), r4.1⟩ : Visit)] : List Visit).length ≤ 4294967296)).bind fun u =>
      (s_l1Cur_among_w r6.2 ([0, 5, 10, 10, 15] : List Int)).bind fun r7 =>
      some (.nx ((w64 (n + r7.1)), (w64 (x - 1)), r7.2.code_, r7.2.at_, r7.2.seed_.v, (t ++ ([(⟨r2.1, r3, (w64 (r3 + r6.1)), r4.1⟩ : Visit)] : List Visit))))
    else
      some (.dn (v, v1, v2, t))
noncomputable def s_l1Cur_visits_L2 (e : Visit) : (List UInt8) × Int × Int × (List Visit) → Option (Lp ((List UInt8) × Int × Int × (List Visit)) ((List UInt8) × Int × Int × (List Visit)))
  | (v12, v13, v14, t3) =>
    (s_l1Cur_pick (⟨v12, v13, (⟨v14⟩ : IK .u64)⟩ : l1Cur) 2).bind fun r14 =>
    if (decide ((t3.length : Int) < (w64 (30 + r14.1)))) = true then
      (chk (t3.length + ([e] : List Visit).length ≤ 4294967296)).bind fun u1 =>
      some (.nx (r14.2.code_, r14.2.at_, r14.2.seed_.v, (t3 ++ ([e] : List Visit))))
    else
      some (.dn (r14.2.code_, r14.2.at_, r14.2.seed_.v, t3))
noncomputable def s_l1Cur_visits (c : l1Cur) : Option ((List Visit) × l1Cur) :=
  (s_l1Cur_among_w c ([300, 420, 0, 1700] : List Int)).bind fun r =>
  (s_l1Cur_pick r.2 9).bind fun r1 =>
  (iter (s_l1Cur_visits_L1) (r.1, r1.1, r1.2.code_, r1.2.at_, r1.2.seed_.v, ([] : List Visit))).bind fun ((v3, v4, v5, t1) : (List UInt8) × Int × Int × (List Visit)) =>
  if ((t1.length : Int) == 0) = true then
    some (t1, (⟨v3, v4, (⟨v5⟩ : IK .u64)⟩ : l1Cur))
  else
    (s_l1Cur_pick (⟨v3, v4, (⟨v5⟩ : IK .u64)⟩ : l1Cur) (t1.length : Int)).bind fun r8 =>
    (idx t1 r8.1).bind fun e =>
    ((s_l1Cur_pick r8.2 40).bind fun r9 =>
    if (r9.1 == 0) = true then
      (s_l1Cur_among_w r9.2 ([(-60), (-61), 600, 601] : List Int)).bind fun r11 =>
      some (r11.2.code_, r11.2.at_, r11.2.seed_.v, t1, e.Stop, (w64 (e.Planned + r11.1)), e.Persons)
    else
      if (r9.1 == 1) = true then
        (s_l1Cur_among_w r9.2 ([(-1), 7, 8] : List Int)).bind fun r12 =>
        some (r12.2.code_, r12.2.at_, r12.2.seed_.v, t1, r12.1, e.Actual, e.Persons)
      else
        if (r9.1 == 2) = true then
          (s_l1Cur_among_w r9.2 ([(-1), 1000, 1001] : List Int)).bind fun r13 =>
          some (r13.2.code_, r13.2.at_, r13.2.seed_.v, t1, e.Stop, e.Actual, r13.1)
        else
          if (r9.1 == 3) = true then
            (iter (s_l1Cur_visits_L2 e) (r9.2.code_, r9.2.at_, r9.2.seed_.v, t1)).bind fun ((v15, v16, v17, t4) : (List UInt8) × Int × Int × (List Visit)) =>
            some (v15, v16, v17, t4, e.Stop, e.Actual, e.Persons)
          else
            some (r9.2.code_, r9.2.at_, r9.2.seed_.v, t1, e.Stop, e.Actual, e.Persons)).bind fun ((v6, v7, v8, t2, v9, v10, v11) : (List UInt8) × Int × Int × (List Visit) × Int × Int × Int) =>
    (idx t2 r8.1).bind fun e1 =>
    some ((t2.set r8.1.toNat (⟨v9, e.Planned, v10, v11⟩ : Visit)), (⟨v6, v7, (⟨v8⟩ : IK .u64)⟩ : l1Cur))
noncomputable def s_DrawShiftVisits (code : List UInt8) : Option ((List Visit) × Int) :=
  (s_l1Cur_visits (⟨code, 0, (⟨0⟩ : IK .u64)⟩ : l1Cur)).bind fun r =>
  (s_l1Cur_among r.2 ([0, 1, (-1), 5, 60, (-300), 90] : List Int)).bind fun r1 =>
  some (r.1, r1.1)
noncomputable def i_within (n : Int) (lo : Int) (hi : Int) : Option (Bool) :=
  (if (decide (lo ≤ n)) = true then some (decide (n ≤ hi)) else some false).bind fun (v : Bool) =>
  some v
noncomputable def i_IsValidTime (t : Int) : Option (Bool) :=
  (i_within t 0 1799).bind fun r =>
  some r
noncomputable def i_IsValidVisits_L1 (list : List Visit) : Int → Option (Lp (Int) (Fl (Bool) (Unit)))
  | v =>
    if (decide (v < (list.length : Int))) = true then
      (idx list v).bind fun e =>
      (i_within e.Stop 0 7).bind fun r =>
      (if (!r) = true then some true else (i_IsValidTime e.Planned).bind fun r1 =>
      if (!r1) = true then some true else (i_within e.Persons 0 1000).bind fun r2 =>
      some (!r2)).bind fun (v1 : Bool) =>
      if v1 = true then
        some (.dn (.ret false))
      else
        (i_within e.Actual (w64 (e.Planned - 60)) (w64 (e.Planned + 600))).bind fun r4 =>
        if (!r4) = true then
          some (.dn (.ret false))
        else
          some (.nx (w64 (v + 1)))
    else
      some (.dn (.go ()))
noncomputable def i_IsValidVisits (list : List Visit) : Option (Bool) :=
  if (decide (30 < (list.length : Int))) = true then
    some false
  else
    flb (iter (i_IsValidVisits_L1 list) (0 : Int)) fun (_ : Unit) =>
    some true
noncomputable def slices_Clone_Visit (s : List Visit) : Option ((List Visit)) :=
  (chk (([] : List Visit).length + s.length ≤ 4294967296)).bind fun u =>
  some s
noncomputable def i_shiftVisits_L1 (minutes : Int) (r : (List Visit)) : Int × (List Visit) → Option (Lp (Int × (List Visit)) ((List Visit)))
  | (v, v1) =>
    if (decide (v < (r.length : Int))) = true then
      (idx v1 v).bind fun e =>
      (idx v1 v).bind fun e1 =>
      some (.nx ((w64 (v + 1)), (v1.set v.toNat (⟨e1.Stop, (w64 (e.Planned + minutes)), e1.Actual, e1.Persons⟩ : Visit))))
    else
      some (.dn v1)
noncomputable def i_shiftVisits (list : List Visit) (minutes : Int) : Option ((List Visit) × Bool) :=
  (slices_Clone_Visit list).bind fun r =>
  (iter (i_shiftVisits_L1 minutes r) ((0 : Int), r)).bind fun (v2 : List Visit) =>
  (i_IsValidVisits v2).bind fun r1 =>
  some (v2, r1)
noncomputable def i_ShiftVisits (list : List Visit) (minutes : Int) : Option ((List Visit) × Bool) :=
  (i_IsValidVisits list).bind fun r =>
  (if (!r) = true then some true else (i_within minutes (-1799) 1799).bind fun r1 =>
  some (!r1)).bind fun (v : Bool) =>
  if v = true then
    some (([] : List Visit), false)
  else
    (i_shiftVisits list minutes).bind fun r2 =>
    if (!r2.2) = true then
      some (([] : List Visit), false)
    else
      some (r2.1, true)
noncomputable def s_l1In (x : Int) (a : Int) (b : Int) : Option (Bool) :=
  (if (decide (a ≤ x)) = true then some (decide (x ≤ b)) else some false).bind fun (v : Bool) =>
  some v
noncomputable def s_l4Time (t : Int) : Option (Bool) :=
  (s_l1In t 0 1799).bind fun r =>
  some r
noncomputable def s_l22Good_L1 (list : List Visit) : Int → Option (Lp (Int) (Fl (Bool) (Unit)))
  | x =>
    if (decide (x < (list.length : Int))) = true then
      (idx list x).bind fun e =>
      (s_l1In e.Stop 0 7).bind fun r =>
      (if (!r) = true then some true else (s_l4Time e.Planned).bind fun r1 =>
      if (!r1) = true then some true else (s_l1In (w64 (e.Actual - e.Planned)) (-60) 600).bind fun r2 =>
      if (!r2) = true then some true else (s_l1In e.Persons 0 1000).bind fun r3 =>
      some (!r3)).bind fun (v : Bool) =>
      if v = true then
        some (.dn (.ret false))
      else
        some (.nx (w64 (x + 1)))
    else
      some (.dn (.go ()))
noncomputable def s_l22Good (list : List Visit) : Option (Bool) :=
  flb (iter (s_l22Good_L1 list) (0 : Int)) fun (_ : Unit) =>
  some (decide ((list.length : Int) ≤ 30))
noncomputable def s_l22Shift_L1 (list : List Visit) (minutes : Int) : Int × (List Visit) → Option (Lp (Int × (List Visit)) ((List Visit)))
  | (v, x) =>
    if (decide (v < (list.length : Int))) = true then
      (idx list v).bind fun e =>
      (chk (x.length + ([(⟨e.Stop, (w64 (e.Planned + minutes)), e.Actual, e.Persons⟩ : Visit)] : List Visit).length ≤ 4294967296)).bind fun u =>
      some (.nx ((w64 (v + 1)), (x ++ ([(⟨e.Stop, (w64 (e.Planned + minutes)), e.Actual, e.Persons⟩ : Visit)] : List Visit))))
    else
      some (.dn x)
noncomputable def s_l22Shift (list : List Visit) (minutes : Int) : Option ((List Visit)) :=
  (iter (s_l22Shift_L1 list minutes) ((0 : Int), ([] : List Visit))).bind fun (x1 : List Visit) =>
  some x1
noncomputable def s_ShiftVisits (list : List Visit) (minutes : Int) : Option ((List Visit) × Bool) :=
  (s_l22Good list).bind fun r =>
  (if (!r) = true then some true else (s_l1In minutes (-1799) 1799).bind fun r1 =>
  if (!r1) = true then some true else (s_l22Shift list minutes).bind fun r2 =>
  (s_l22Good r2).bind fun r3 =>
  some (!r3)).bind fun (v : Bool) =>
  if v = true then
    some (([] : List Visit), false)
  else
    (s_l22Shift list minutes).bind fun r4 =>
    some (r4, true)
noncomputable def i_fraction_L1 : Int × Int → Option (Lp (Int × Int) (Int))
  | (v, v1) =>
    if (v1 != 0) = true then
      (chk ((v1 : Int) ≠ 0)).bind fun u1 =>
      some (.nx (v1, (v.tmod v1)))
    else
      some (.dn v)
noncomputable def i_fraction (num : Int) (den : Int) : Option (Int × Int × Bool) :=
  (iter (i_fraction_L1) ((if (w64 (0 - num)) > num then (w64 (0 - num)) else num), den)).bind fun (v2 : Int) =>
  (chk ((v2 : Int) ≠ 0)).bind fun u4 =>
  (chk ((v2 : Int) ≠ 0)).bind fun u5 =>
  some ((w64 (num.tdiv v2)), (w64 (den.tdiv v2)), true)
noncomputable def i_MeanDelay_L1 (list : List Visit) : Int × Int → Option (Lp (Int × Int) (Int))
  | (v1, v2) =>
    if (decide (v2 < (list.length : Int))) = true then
      (idx list v2).bind fun e =>
      some (.nx ((w64 (v1 + (w64 (e.Actual - e.Planned)))), (w64 (v2 + 1))))
    else
      some (.dn v1)
noncomputable def i_MeanDelay (list : List Visit) : Option (Int × Int × Bool) :=
  (i_IsValidVisits list).bind fun r =>
  (if (!r) = true then some true else some ((list.length : Int) == 0)).bind fun (v : Bool) =>
  if v = true then
    some (0, 0, false)
  else
    (iter (i_MeanDelay_L1 list) ((0 : Int), (0 : Int))).bind fun (v3 : Int) =>
    (i_fraction v3 (list.length : Int)).bind fun r1 =>
    some (r1.1, r1.2.1, r1.2.2)
noncomputable def math_bits_Len64 (x : IK .u64) : Option (Int) :=
  (if (decide (4294967296 ≤ x.v)) = true then
    (chk ((0 : Int) ≤ 32)).bind fun u =>
    some ((x.v.fdiv (2 ^ (min (32 : Int).toNat (IntKind.u64).bits))), (32 : Int))
  else
    some (x.v, (0 : Int))).bind fun ((x1, v) : Int × Int) =>
  (if (decide (65536 ≤ x1)) = true then
    (chk ((0 : Int) ≤ 16)).bind fun u1 =>
    some ((x1.fdiv (2 ^ (min (16 : Int).toNat (IntKind.u64).bits))), (w64 (v + 16)))
  else
    some (x1, v)).bind fun ((x2, v1) : Int × Int) =>
  (if (decide (256 ≤ x2)) = true then
    (chk ((0 : Int) ≤ 8)).bind fun u2 =>
    some ((x2.fdiv (2 ^ (min (8 : Int).toNat (IntKind.u64).bits))), (w64 (v1 + 8)))
  else
    some (x2, v1)).bind fun ((x3, v2) : Int × Int) =>
  (chk ((0 : Int) ≤ (IntKind.u8.wrap (x3)) ∧ (IntKind.u8.wrap (x3)) < ((str [0, 1, 2, 2, 3, 3, 3, 3, 4, 4, 4, 4, 4, 4, 4, 4, 5, 5, 5, 5, 5, 5, 5, 5, 5, 5, 5, 5, 5, 5, 5, 5, 6, 6, 6, 6, 6, 6, 6, 6, 6, 6, 6, 6, 6, 6, 6, 6, 6, 6, 6, 6, 6, 6, 6, 6, 6, 6, 6, 6, 6, 6, 6, 6, 7, 7, 7, 7, 7, 7, 7, 7, 7, 7, 7, 7, 7, 7, 7, 7, 7, 7, 7, 7, 7, 7, 7, 7, 7, 7, 7, 7, 7, 7, 7, 7, 7, 7, 7, 7, 7, 7, 7, 7, 7, 7, 7, 7, 7, 7, 7, 7, 7, 7, 7, 7, 7, 7, 7, 7, 7, 7, 7, 7, 7, 7, 7, 7, 8, 8, 8, 8, 8, 8, 8, 8, 8, 8, 8, 8, 8, 8, 8, 8, 8, 8, 8, 8, 8, 8, 8, 8, 8, 8, 8, 8, 8, 8, 8, 8, 8, 8, 8, 8, 8, 8, 8, 8, 8, 8, 8, 8, 8, 8, 8, 8, 8, 8, 8, 8, 8, 8, 8, 8, 8, 8, 8, 8, 8, 8, 8, 8, 8, 8, 8, 8, 8, 8, 8, 8, 8, 8, 8, 8, 8, 8, 8, 8, 8, 8, 8, 8, 8, 8, 8, 8, 8, 8, 8, 8, 8, 8, 8, 8, 8, 8, 8, 8, 8, 8, 8, 8, 8, 8, 8, 8, 8, 8, 8, 8, 8, 8, 8, 8, 8, 8, 8, 8, 8, 8, 8, 8, 8, 8, 8, 8]).size : Int))).bind fun u3 =>
  some (w64 (v2 + (w64 ((((str [0, 1, 2, 2, 3, 3, 3, 3, 4, 4, 4, 4, 4, 4, 4, 4, 5, 5, 5, 5, 5, 5, 5, 5, 5, 5, 5, 5, 5, 5, 5, 5, 6, 6, 6, 6, 6, 6, 6, 6, 6, 6, 6, 6, 6, 6, 6, 6, 6, 6, 6, 6, 6, 6, 6, 6, 6, 6, 6, 6, 6, 6, 6, 6, 7, 7, 7, 7, 7, 7, 7, 7, 7, 7, 7, 7, 7, 7, 7, 7, 7, 7, 7, 7, 7, 7, 7, 7, 7, 7, 7, 7, 7, 7, 7, 7, 7, 7, 7, 7, 7, 7, 7, 7, 7, 7, 7, 7, 7, 7, 7, 7, 7, 7, 7, 7, 7, 7, 7, 7, 7, 7, 7, 7, 7, 7, 7, 7, 8, 8, 8, 8, 8, 8, 8, 8, 8, 8, 8, 8, 8, 8, 8, 8, 8, 8, 8, 8, 8, 8, 8, 8, 8, 8, 8, 8, 8, 8, 8, 8, 8, 8, 8, 8, 8, 8, 8, 8, 8, 8, 8, 8, 8, 8, 8, 8, 8, 8, 8, 8, 8, 8, 8, 8, 8, 8, 8, 8, 8, 8, 8, 8, 8, 8, 8, 8, 8, 8, 8, 8, 8, 8, 8, 8, 8, 8, 8, 8, 8, 8, 8, 8, 8, 8, 8, 8, 8, 8, 8, 8, 8, 8, 8, 8, 8, 8, 8, 8, 8, 8, 8, 8, 8, 8, 8, 8, 8, 8, 8, 8, 8, 8, 8, 8, 8, 8, 8, 8, 8, 8, 8, 8, 8, 8, 8, 8]).data.toList.getD (IntKind.u8.wrap (x3)).toNat 0).toNat : Int)))))
noncomputable def math_bits_Len (x : IK .u64) : Option (Int) :=
  (math_bits_Len64 x).bind fun r =>
  some r
noncomputable def cmp_isNaN_int (x : Int) : Option (Bool) :=
  some (x != x)
noncomputable def cmp_Less_int (x : Int) (y_ : Int) : Option (Bool) :=
  (cmp_isNaN_int x).bind fun r =>
  (if r = true then (cmp_isNaN_int y_).bind fun r1 =>
  if (!r1) = true then some true else some (decide (x < y_)) else some (decide (x < y_))).bind fun (v : Bool) =>
  some v
noncomputable def slices_insertionSortOrdered_int_w_L1 (a : Int) : Int × (List Int) → Option (Lp (Int × (List Int)) ((List Int)))
  | (v1, data2) =>
    (if (decide (a < v1)) = true then (idx data2 v1).bind fun e2 =>
    (idx data2 (w64 (v1 - 1))).bind fun e3 =>
    (cmp_Less_int e2 e3).bind fun r1 =>
    some r1 else some false).bind fun (v2 : Bool) =>
    if v2 = true then
      (idx data2 (w64 (v1 - 1))).bind fun e8 =>
      (idx data2 v1).bind fun e9 =>
      (idx data2 v1).bind fun e10 =>
      (idx (data2.set v1.toNat e8) (w64 (v1 - 1))).bind fun e11 =>
      some (.nx ((w64 (v1 - 1)), ((data2.set v1.toNat e8).set (w64 (v1 - 1)).toNat e9)))
    else
      some (.dn data2)
noncomputable def slices_insertionSortOrdered_int_w_L2 (a : Int) (b : Int) : Int × (List Int) → Option (Lp (Int × (List Int)) ((List Int)))
  | (v, data1) =>
    if (decide (v < b)) = true then
      (iter (slices_insertionSortOrdered_int_w_L1 a) (v, data1)).bind fun (data3 : List Int) =>
      some (.nx ((w64 (v + 1)), data3))
    else
      some (.dn data1)
noncomputable def slices_insertionSortOrdered_int_w (data : List Int) (a : Int) (b : Int) : Option ((List Int)) :=
  iter (slices_insertionSortOrdered_int_w_L2 a b) ((w64 (a + 1)), data)
noncomputable def slices_siftDownOrdered_int_w_L1 (hi : Int) (first : Int) : Int × (List Int) → Option (Lp (Int × (List Int)) ((List Int)))
  | (v, data1) =>
    if (decide (hi ≤ (w64 ((w64 (2 * v)) + 1)))) = true then
      some (.dn data1)
    else
      ((if (decide ((w64 ((w64 ((w64 (2 * v)) + 1)) + 1)) < hi)) = true then (idx data1 (w64 (first + (w64 ((w64 (2 * v)) + 1))))).bind fun e3 =>
      (idx data1 (w64 ((w64 (first + (w64 ((w64 (2 * v)) + 1)))) + 1))).bind fun e4 =>
      (cmp_Less_int e3 e4).bind fun r2 =>
      some r2 else some false).bind fun (v2 : Bool) =>
      if v2 = true then
        some (w64 ((w64 ((w64 (2 * v)) + 1)) + 1))
      else
        some (w64 ((w64 (2 * v)) + 1))).bind fun (v1 : Int) =>
      (idx data1 (w64 (first + v))).bind fun e7 =>
      (idx data1 (w64 (first + v1))).bind fun e8 =>
      (cmp_Less_int e7 e8).bind fun r4 =>
      if (!r4) = true then
        some (.dn data1)
      else
        (idx data1 (w64 (first + v1))).bind fun e14 =>
        (idx data1 (w64 (first + v))).bind fun e15 =>
        (idx data1 (w64 (first + v))).bind fun e16 =>
        (idx (data1.set (w64 (first + v)).toNat e14) (w64 (first + v1))).bind fun e17 =>
        some (.nx (v1, ((data1.set (w64 (first + v)).toNat e14).set (w64 (first + v1)).toNat e15)))
noncomputable def slices_siftDownOrdered_int_w (data : List Int) (lo : Int) (hi : Int) (first : Int) : Option ((List Int)) :=
  iter (slices_siftDownOrdered_int_w_L1 hi first) (lo, data)
noncomputable def slices_heapSortOrdered_int_w_L1 (a : Int) (b : Int) : Int × (List Int) → Option (Lp (Int × (List Int)) ((List Int)))
  | (v, data1) =>
    if (decide (0 ≤ v)) = true then
      (slices_siftDownOrdered_int_w data1 v (w64 (b - a)) a).bind fun r =>
      some (.nx ((w64 (v - 1)), r))
    else
      some (.dn data1)
noncomputable def slices_heapSortOrdered_int_w_L2 (a : Int) : Int × (List Int) → Option (Lp (Int × (List Int)) ((List Int)))
  | (v1, data3) =>
    if (decide (0 ≤ v1)) = true then
      (idx data3 (w64 (a + v1))).bind fun e4 =>
      (idx data3 a).bind fun e5 =>
      (idx data3 a).bind fun e6 =>
      (idx (data3.set a.toNat e4) (w64 (a + v1))).bind fun e7 =>
      (slices_siftDownOrdered_int_w ((data3.set a.toNat e4).set (w64 (a + v1)).toNat e5) 0 v1 a).bind fun r1 =>
      some (.nx ((w64 (v1 - 1)), r1))
    else
      some (.dn data3)
noncomputable def slices_heapSortOrdered_int_w (data : List Int) (a : Int) (b : Int) : Option ((List Int)) :=
  (chk ((2 : Int) ≠ 0)).bind fun u =>
  (iter (slices_heapSortOrdered_int_w_L1 a b) ((w64 ((w64 ((w64 (b - a)) - 1)).tdiv 2)), data)).bind fun (data2 : List Int) =>
  iter (slices_heapSortOrdered_int_w_L2 a) ((w64 ((w64 (b - a)) - 1)), data2)
noncomputable def slices_order2Ordered_int (data : List Int) (a : Int) (b : Int) (swaps : Int) : Option (Int × Int × Int) :=
  (idx data b).bind fun e2 =>
  (idx data a).bind fun e3 =>
  (cmp_Less_int e2 e3).bind fun r1 =>
  if r1 = true then
    some (b, a, (w64 (swaps + 1)))
  else
    some (a, b, swaps)
noncomputable def slices_medianOrdered_int (data : List Int) (a : Int) (b : Int) (c : Int) (swaps : Int) : Option (Int × Int) :=
  (slices_order2Ordered_int data a b swaps).bind fun r =>
  (slices_order2Ordered_int data r.2.1 c r.2.2).bind fun r1 =>
  (slices_order2Ordered_int data r.1 r1.1 r1.2.2).bind fun r2 =>
  some (r2.2.1, r2.2.2)
noncomputable def slices_medianAdjacentOrdered_int (data : List Int) (a : Int) (swaps : Int) : Option (Int × Int) :=
  (slices_medianOrdered_int data (w64 (a - 1)) a (w64 (a + 1)) swaps).bind fun r =>
  some (r.1, r.2)
noncomputable def slices_choosePivotOrdered_int (data : List Int) (a : Int) (b : Int) : Option (Int × Int) :=
  (chk ((4 : Int) ≠ 0)).bind fun u =>
  (chk ((4 : Int) ≠ 0)).bind fun u1 =>
  (chk ((4 : Int) ≠ 0)).bind fun u2 =>
  (if (decide (8 ≤ (w64 (b - a)))) = true then
    (if (decide (50 ≤ (w64 (b - a)))) = true then
      (slices_medianAdjacentOrdered_int data (w64 (a + (w64 ((w64 ((w64 (b - a)).tdiv 4)) * 1)))) 0).bind fun r =>
      (slices_medianAdjacentOrdered_int data (w64 (a + (w64 ((w64 ((w64 (b - a)).tdiv 4)) * 2)))) r.2).bind fun r1 =>
      (slices_medianAdjacentOrdered_int data (w64 (a + (w64 ((w64 ((w64 (b - a)).tdiv 4)) * 3)))) r1.2).bind fun r2 =>
      some (r.1, r1.1, r2.1, r2.2)
    else
      some ((w64 (a + (w64 ((w64 ((w64 (b - a)).tdiv 4)) * 1)))), (w64 (a + (w64 ((w64 ((w64 (b - a)).tdiv 4)) * 2)))), (w64 (a + (w64 ((w64 ((w64 (b - a)).tdiv 4)) * 3)))), (0 : Int))).bind fun ((v2, v3, v4, v5) : Int × Int × Int × Int) =>
    (slices_medianOrdered_int data v2 v3 v4 v5).bind fun r3 =>
    some (r3.1, r3.2)
  else
    some ((w64 (a + (w64 ((w64 ((w64 (b - a)).tdiv 4)) * 2)))), (0 : Int))).bind fun ((v, v1) : Int × Int) =>
  if (v1 == 0) = true then
    some (v, 1)
  else
    if (v1 == 12) = true then
      some (v, 2)
    else
      some (v, 0)
noncomputable def slices_reverseRangeOrdered_int_w_L1 : Int × Int × (List Int) → Option (Lp (Int × Int × (List Int)) ((List Int)))
  | (v, v1, data1) =>
    if (decide (v < v1)) = true then
      (idx data1 v1).bind fun e4 =>
      (idx data1 v).bind fun e5 =>
      (idx data1 v).bind fun e6 =>
      (idx (data1.set v.toNat e4) v1).bind fun e7 =>
      some (.nx ((w64 (v + 1)), (w64 (v1 - 1)), ((data1.set v.toNat e4).set v1.toNat e5)))
    else
      some (.dn data1)
noncomputable def slices_reverseRangeOrdered_int_w (data : List Int) (a : Int) (b : Int) : Option ((List Int)) :=
  iter (slices_reverseRangeOrdered_int_w_L1) (a, (w64 (b - 1)), data)
noncomputable def slices_partialInsertionSortOrdered_int_w_L1 (b : Int) (data1 : List Int) : Int → Option (Lp (Int) (Int))
  | j2 =>
    (if (decide (j2 < b)) = true then (idx data1 j2).bind fun e2 =>
    (idx data1 (w64 (j2 - 1))).bind fun e3 =>
    (cmp_Less_int e2 e3).bind fun r1 =>
    some (!r1) else some false).bind fun (v1 : Bool) =>
    if v1 = true then
      some (.nx (w64 (j2 + 1)))
    else
      some (.dn j2)
noncomputable def slices_partialInsertionSortOrdered_int_w_L2 : Int × (List Int) → Option (Lp (Int × (List Int)) ((List Int)))
  | (v2, data4) =>
    if (decide (1 ≤ v2)) = true then
      (idx data4 v2).bind fun e18 =>
      (idx data4 (w64 (v2 - 1))).bind fun e19 =>
      (cmp_Less_int e18 e19).bind fun r7 =>
      if (!r7) = true then
        some (.dn data4)
      else
        (idx data4 (w64 (v2 - 1))).bind fun e24 =>
        (idx data4 v2).bind fun e25 =>
        (idx data4 v2).bind fun e26 =>
        (idx (data4.set v2.toNat e24) (w64 (v2 - 1))).bind fun e27 =>
        some (.nx ((w64 (v2 - 1)), ((data4.set v2.toNat e24).set (w64 (v2 - 1)).toNat e25)))
    else
      some (.dn data4)
noncomputable def slices_partialInsertionSortOrdered_int_w_L3 (b : Int) : Int × (List Int) → Option (Lp (Int × (List Int)) ((List Int)))
  | (v3, data6) =>
    if (decide (v3 < b)) = true then
      (idx data6 v3).bind fun e30 =>
      (idx data6 (w64 (v3 - 1))).bind fun e31 =>
      (cmp_Less_int e30 e31).bind fun r9 =>
      if (!r9) = true then
        some (.dn data6)
      else
        (idx data6 (w64 (v3 - 1))).bind fun e36 =>
        (idx data6 v3).bind fun e37 =>
        (idx data6 v3).bind fun e38 =>
        (idx (data6.set v3.toNat e36) (w64 (v3 - 1))).bind fun e39 =>
        some (.nx ((w64 (v3 + 1)), ((data6.set v3.toNat e36).set (w64 (v3 - 1)).toNat e37)))
    else
      some (.dn data6)
noncomputable def slices_partialInsertionSortOrdered_int_w_L4 (a : Int) (b : Int) : Int × Int × (List Int) → Option (Lp (Int × Int × (List Int)) (Fl (Bool × (List Int)) ((List Int))))
  | (j, v, data1) =>
    if (decide (v < 5)) = true then
      flb ((iter (slices_partialInsertionSortOrdered_int_w_L1 b data1) j).bind fun (j3 : Int) =>
      if (j3 == b) = true then
        some (.ret (.dn (.ret (true, data1))))
      else
        if (decide ((w64 (b - a)) < 50)) = true then
          some (.ret (.dn (.ret (false, data1))))
        else
          (idx data1 (w64 (j3 - 1))).bind fun e12 =>
          (idx data1 j3).bind fun e13 =>
          (idx data1 j3).bind fun e14 =>
          (idx (data1.set j3.toNat e12) (w64 (j3 - 1))).bind fun e15 =>
          (if (decide (2 ≤ (w64 (j3 - a)))) = true then
            (iter (slices_partialInsertionSortOrdered_int_w_L2) ((w64 (j3 - 1)), ((data1.set j3.toNat e12).set (w64 (j3 - 1)).toNat e13))).bind fun (data5 : List Int) =>
            some data5
          else
            some ((data1.set j3.toNat e12).set (w64 (j3 - 1)).toNat e13)).bind fun (data3 : List Int) =>
          if (decide (2 ≤ (w64 (b - j3)))) = true then
            (iter (slices_partialInsertionSortOrdered_int_w_L3 b) ((w64 (j3 + 1)), data3)).bind fun (data7 : List Int) =>
            some (.go (j3, data7))
          else
            some (.go (j3, data3))) fun ((j1, data2) : Int × (List Int)) =>
      some (.nx (j1, (w64 (v + 1)), data2))
    else
      some (.dn (.go data1))
noncomputable def slices_partialInsertionSortOrdered_int_w (data : List Int) (a : Int) (b : Int) : Option (Bool × (List Int)) :=
  flb (iter (slices_partialInsertionSortOrdered_int_w_L4 a b) ((w64 (a + 1)), (0 : Int), data)) fun (data8 : List Int) =>
  some (false, data8)
noncomputable def slices_partitionEqualOrdered_int_w_L1 (a : Int) (v1 : Int) (data1 : List Int) : Int → Option (Lp (Int) (Int))
  | v2 =>
    (if (decide (v2 ≤ v1)) = true then (idx data1 a).bind fun e10 =>
    (idx data1 v2).bind fun e11 =>
    (cmp_Less_int e10 e11).bind fun r1 =>
    some (!r1) else some false).bind fun (v3 : Bool) =>
    if v3 = true then
      some (.nx (w64 (v2 + 1)))
    else
      some (.dn v2)
noncomputable def slices_partitionEqualOrdered_int_w_L2 (a : Int) (data1 : List Int) (v4 : Int) : Int → Option (Lp (Int) (Int))
  | v5 =>
    (if (decide (v4 ≤ v5)) = true then (idx data1 a).bind fun e14 =>
    (idx data1 v5).bind fun e15 =>
    (cmp_Less_int e14 e15).bind fun r3 =>
    some r3 else some false).bind fun (v6 : Bool) =>
    if v6 = true then
      some (.nx (w64 (v5 - 1)))
    else
      some (.dn v5)
noncomputable def slices_partitionEqualOrdered_int_w_L3 (a : Int) : Int × Int × (List Int) → Option (Lp (Int × Int × (List Int)) (Int × (List Int)))
  | (v, v1, data1) =>
    (iter (slices_partitionEqualOrdered_int_w_L1 a v1 data1) v).bind fun (v4 : Int) =>
    (iter (slices_partitionEqualOrdered_int_w_L2 a data1 v4) v1).bind fun (v7 : Int) =>
    if (decide (v7 < v4)) = true then
      some (.dn (v4, data1))
    else
      (idx data1 v7).bind fun e20 =>
      (idx data1 v4).bind fun e21 =>
      (idx data1 v4).bind fun e22 =>
      (idx (data1.set v4.toNat e20) v7).bind fun e23 =>
      some (.nx ((w64 (v4 + 1)), (w64 (v7 - 1)), ((data1.set v4.toNat e20).set v7.toNat e21)))
noncomputable def slices_partitionEqualOrdered_int_w (data : List Int) (a : Int) (b : Int) (pivot : Int) : Option (Int × (List Int)) :=
  (idx data pivot).bind fun e4 =>
  (idx data a).bind fun e5 =>
  (idx data a).bind fun e6 =>
  (idx (data.set a.toNat e4) pivot).bind fun e7 =>
  (iter (slices_partitionEqualOrdered_int_w_L3 a) ((w64 (a + 1)), (w64 (b - 1)), ((data.set a.toNat e4).set pivot.toNat e5))).bind fun ((v8, data2) : Int × (List Int)) =>
  some (v8, data2)
noncomputable def slices_partitionOrdered_int_w_L1 (data : List Int) (a : Int) (b : Int) (pivot : Int) (e4 : Int) (e5 : Int) : Int → Option (Lp (Int) (Int))
  | v =>
    (if (decide (v ≤ (w64 (b - 1)))) = true then (idx ((data.set a.toNat e4).set pivot.toNat e5) v).bind fun e10 =>
    (idx ((data.set a.toNat e4).set pivot.toNat e5) a).bind fun e11 =>
    (cmp_Less_int e10 e11).bind fun r1 =>
    some r1 else some false).bind fun (v1 : Bool) =>
    if v1 = true then
      some (.nx (w64 (v + 1)))
    else
      some (.dn v)
noncomputable def slices_partitionOrdered_int_w_L2 (data : List Int) (a : Int) (pivot : Int) (e4 : Int) (e5 : Int) (v2 : Int) : Int → Option (Lp (Int) (Int))
  | v3 =>
    (if (decide (v2 ≤ v3)) = true then (idx ((data.set a.toNat e4).set pivot.toNat e5) v3).bind fun e14 =>
    (idx ((data.set a.toNat e4).set pivot.toNat e5) a).bind fun e15 =>
    (cmp_Less_int e14 e15).bind fun r3 =>
    some (!r3) else some false).bind fun (v4 : Bool) =>
    if v4 = true then
      some (.nx (w64 (v3 - 1)))
    else
      some (.dn v3)
noncomputable def slices_partitionOrdered_int_w_L3 (a : Int) (v7 : Int) (data1 : List Int) : Int → Option (Lp (Int) (Int))
  | v8 =>
    (if (decide (v8 ≤ v7)) = true then (idx data1 v8).bind fun e34 =>
    (idx data1 a).bind fun e35 =>
    (cmp_Less_int e34 e35).bind fun r5 =>
    some r5 else some false).bind fun (v9 : Bool) =>
    if v9 = true then
      some (.nx (w64 (v8 + 1)))
    else
      some (.dn v8)
noncomputable def slices_partitionOrdered_int_w_L4 (a : Int) (data1 : List Int) (v10 : Int) : Int → Option (Lp (Int) (Int))
  | v11 =>
    (if (decide (v10 ≤ v11)) = true then (idx data1 v11).bind fun e38 =>
    (idx data1 a).bind fun e39 =>
    (cmp_Less_int e38 e39).bind fun r7 =>
    some (!r7) else some false).bind fun (v12 : Bool) =>
    if v12 = true then
      some (.nx (w64 (v11 - 1)))
    else
      some (.dn v11)
noncomputable def slices_partitionOrdered_int_w_L5 (a : Int) : Int × Int × (List Int) → Option (Lp (Int × Int × (List Int)) (Int × (List Int)))
  | (v6, v7, data1) =>
    (iter (slices_partitionOrdered_int_w_L3 a v7 data1) v6).bind fun (v10 : Int) =>
    (iter (slices_partitionOrdered_int_w_L4 a data1 v10) v7).bind fun (v13 : Int) =>
    if (decide (v13 < v10)) = true then
      some (.dn (v13, data1))
    else
      (idx data1 v13).bind fun e44 =>
      (idx data1 v10).bind fun e45 =>
      (idx data1 v10).bind fun e46 =>
      (idx (data1.set v10.toNat e44) v13).bind fun e47 =>
      some (.nx ((w64 (v10 + 1)), (w64 (v13 - 1)), ((data1.set v10.toNat e44).set v13.toNat e45)))
noncomputable def slices_partitionOrdered_int_w (data : List Int) (a : Int) (b : Int) (pivot : Int) : Option (Int × Bool × (List Int)) :=
  (idx data pivot).bind fun e4 =>
  (idx data a).bind fun e5 =>
  (idx data a).bind fun e6 =>
  (idx (data.set a.toNat e4) pivot).bind fun e7 =>
  (iter (slices_partitionOrdered_int_w_L1 data a b pivot e4 e5) (w64 (a + 1))).bind fun (v2 : Int) =>
  (iter (slices_partitionOrdered_int_w_L2 data a pivot e4 e5 v2) (w64 (b - 1))).bind fun (v5 : Int) =>
  if (decide (v5 < v2)) = true then
    (idx ((data.set a.toNat e4).set pivot.toNat e5) a).bind fun e20 =>
    (idx ((data.set a.toNat e4).set pivot.toNat e5) v5).bind fun e21 =>
    (idx ((data.set a.toNat e4).set pivot.toNat e5) v5).bind fun e22 =>
    (idx (((data.set a.toNat e4).set pivot.toNat e5).set v5.toNat e20) a).bind fun e23 =>
    some (v5, true, ((((data.set a.toNat e4).set pivot.toNat e5).set v5.toNat e20).set a.toNat e21))
  else
    (idx ((data.set a.toNat e4).set pivot.toNat e5) v5).bind fun e28 =>
    (idx ((data.set a.toNat e4).set pivot.toNat e5) v2).bind fun e29 =>
    (idx ((data.set a.toNat e4).set pivot.toNat e5) v2).bind fun e30 =>
    (idx (((data.set a.toNat e4).set pivot.toNat e5).set v2.toNat e28) v5).bind fun e31 =>
    (iter (slices_partitionOrdered_int_w_L5 a) ((w64 (v2 + 1)), (w64 (v5 - 1)), ((((data.set a.toNat e4).set pivot.toNat e5).set v2.toNat e28).set v5.toNat e29))).bind fun ((v14, data2) : Int × (List Int)) =>
    (idx data2 a).bind fun e52 =>
    (idx data2 v14).bind fun e53 =>
    (idx data2 v14).bind fun e54 =>
    (idx (data2.set v14.toNat e52) a).bind fun e55 =>
    some (v14, false, ((data2.set v14.toNat e52).set a.toNat e53))
noncomputable def slices_nextPowerOfTwo (length : Int) : Option ((IK .u64)) :=
  (math_bits_Len (⟨(IntKind.u64.wrap (length))⟩ : IK .u64)).bind fun r =>
  (chk ((0 : Int) ≤ r)).bind fun u =>
  some (⟨(IntKind.u64.wrap (1 * 2 ^ (min (r : Int).toNat (IntKind.u64).bits)))⟩ : IK .u64)
noncomputable def slices_xorshift_Next (r : IK .u64) : Option ((IK .u64) × (IK .u64)) :=
  (chk ((0 : Int) ≤ 13)).bind fun u1 =>
  (chk ((0 : Int) ≤ 7)).bind fun u3 =>
  (chk ((0 : Int) ≤ 17)).bind fun u5 =>
  some ((⟨(IntKind.u64.wrap ((BitVec.ofInt (IntKind.u64).bits (IntKind.u64.wrap ((BitVec.ofInt (IntKind.u64).bits (IntKind.u64.wrap ((BitVec.ofInt (IntKind.u64).bits r.v ^^^ BitVec.ofInt (IntKind.u64).bits (IntKind.u64.wrap (r.v * 2 ^ (min (13 : Int).toNat (IntKind.u64).bits)))).toNat : Int)) ^^^ BitVec.ofInt (IntKind.u64).bits ((IntKind.u64.wrap ((BitVec.ofInt (IntKind.u64).bits r.v ^^^ BitVec.ofInt (IntKind.u64).bits (IntKind.u64.wrap (r.v * 2 ^ (min (13 : Int).toNat (IntKind.u64).bits)))).toNat : Int)).fdiv (2 ^ (min (7 : Int).toNat (IntKind.u64).bits)))).toNat : Int)) ^^^ BitVec.ofInt (IntKind.u64).bits (IntKind.u64.wrap ((IntKind.u64.wrap ((BitVec.ofInt (IntKind.u64).bits (IntKind.u64.wrap ((BitVec.ofInt (IntKind.u64).bits r.v ^^^ BitVec.ofInt (IntKind.u64).bits (IntKind.u64.wrap (r.v * 2 ^ (min (13 : Int).toNat (IntKind.u64).bits)))).toNat : Int)) ^^^ BitVec.ofInt (IntKind.u64).bits ((IntKind.u64.wrap ((BitVec.ofInt (IntKind.u64).bits r.v ^^^ BitVec.ofInt (IntKind.u64).bits (IntKind.u64.wrap (r.v * 2 ^ (min (13 : Int).toNat (IntKind.u64).bits)))).toNat : Int)).fdiv (2 ^ (min (7 : Int).toNat (IntKind.u64).bits)))).toNat : Int)) * 2 ^ (min (17 : Int).toNat (IntKind.u64).bits)))).toNat : Int))⟩ : IK .u64), (⟨(IntKind.u64.wrap ((BitVec.ofInt (IntKind.u64).bits (IntKind.u64.wrap ((BitVec.ofInt (IntKind.u64).bits (IntKind.u64.wrap ((BitVec.ofInt (IntKind.u64).bits r.v ^^^ BitVec.ofInt (IntKind.u64).bits (IntKind.u64.wrap (r.v * 2 ^ (min (13 : Int).toNat (IntKind.u64).bits)))).toNat : Int)) ^^^ BitVec.ofInt (IntKind.u64).bits ((IntKind.u64.wrap ((BitVec.ofInt (IntKind.u64).bits r.v ^^^ BitVec.ofInt (IntKind.u64).bits (IntKind.u64.wrap (r.v * 2 ^ (min (13 : Int).toNat (IntKind.u64).bits)))).toNat : Int)).fdiv (2 ^ (min (7 : Int).toNat (IntKind.u64).bits)))).toNat : Int)) ^^^ BitVec.ofInt (IntKind.u64).bits (IntKind.u64.wrap ((IntKind.u64.wrap ((BitVec.ofInt (IntKind.u64).bits (IntKind.u64.wrap ((BitVec.ofInt (IntKind.u64).bits r.v ^^^ BitVec.ofInt (IntKind.u64).bits (IntKind.u64.wrap (r.v * 2 ^ (min (13 : Int).toNat (IntKind.u64).bits)))).toNat : Int)) ^^^ BitVec.ofInt (IntKind.u64).bits ((IntKind.u64.wrap ((BitVec.ofInt (IntKind.u64).bits r.v ^^^ BitVec.ofInt (IntKind.u64).bits (IntKind.u64.wrap (r.v * 2 ^ (min (13 : Int).toNat (IntKind.u64).bits)))).toNat : Int)).fdiv (2 ^ (min (7 : Int).toNat (IntKind.u64).bits)))).toNat : Int)) * 2 ^ (min (17 : Int).toNat (IntKind.u64).bits)))).toNat : Int))⟩ : IK .u64))
noncomputable def slices_breakPatternsOrdered_int_w_L1 (a : Int) (b : Int) (r : (IK .u64)) : Int × (List Int) × Int → Option (Lp (Int × (List Int) × Int) ((List Int)))
  | (v, data1, v1) =>
    (chk ((4 : Int) ≠ 0)).bind fun u1 =>
    if (decide (v ≤ (w64 ((w64 (a + (w64 ((w64 ((w64 (b - a)).tdiv 4)) * 2)))) + 1)))) = true then
      (slices_xorshift_Next (⟨v1⟩ : IK .u64)).bind fun r1 =>
      (if (decide ((w64 (b - a)) ≤ (w64 ((IntKind.u64.wrap ((BitVec.ofInt (IntKind.u64).bits r1.1.v &&& BitVec.ofInt (IntKind.u64).bits (IntKind.u64.wrap (r.v - 1))).toNat : Int)))))) = true then
        some (w64 ((w64 ((IntKind.u64.wrap ((BitVec.ofInt (IntKind.u64).bits r1.1.v &&& BitVec.ofInt (IntKind.u64).bits (IntKind.u64.wrap (r.v - 1))).toNat : Int)))) - (w64 (b - a))))
      else
        some (w64 ((IntKind.u64.wrap ((BitVec.ofInt (IntKind.u64).bits r1.1.v &&& BitVec.ofInt (IntKind.u64).bits (IntKind.u64.wrap (r.v - 1))).toNat : Int))))).bind fun (v2 : Int) =>
      (idx data1 (w64 (a + v2))).bind fun e4 =>
      (idx data1 v).bind fun e5 =>
      (idx data1 v).bind fun e6 =>
      (idx (data1.set v.toNat e4) (w64 (a + v2))).bind fun e7 =>
      some (.nx ((w64 (v + 1)), ((data1.set v.toNat e4).set (w64 (a + v2)).toNat e5), r1.2.v))
    else
      some (.dn data1)
noncomputable def slices_breakPatternsOrdered_int_w (data : List Int) (a : Int) (b : Int) : Option ((List Int)) :=
  if (decide (8 ≤ (w64 (b - a)))) = true then
    (slices_nextPowerOfTwo (w64 (b - a))).bind fun r =>
    (chk ((4 : Int) ≠ 0)).bind fun u =>
    iter (slices_breakPatternsOrdered_int_w_L1 a b r) ((w64 ((w64 (a + (w64 ((w64 ((w64 (b - a)).tdiv 4)) * 2)))) - 1)), data, (IntKind.u64.wrap ((w64 (b - a)))))
  else
    some data
noncomputable def slices_pdqsortOrdered_int_w_L1 (rec_ : (List Int) → Int → Int → Int → Option ((List Int))) : Int × Int × Int × Bool × Bool × (List Int) → Option (Lp (Int × Int × Int × Bool × Bool × (List Int)) ((List Int)))
  | (a1, b1, limit1, hint, mid, data1) =>
    if (decide ((w64 (b1 - a1)) ≤ 12)) = true then
      (slices_insertionSortOrdered_int_w data1 a1 b1).bind fun r =>
      some (.dn r)
    else
      if (limit1 == 0) = true then
        (slices_heapSortOrdered_int_w data1 a1 b1).bind fun r2 =>
        some (.dn r2)
      else
        (if (!hint) = true then
          (slices_breakPatternsOrdered_int_w data1 a1 b1).bind fun r4 =>
          some ((w64 (limit1 - 1)), r4)
        else
          some (limit1, data1)).bind fun ((limit2, data2) : Int × (List Int)) =>
        (slices_choosePivotOrdered_int data2 a1 b1).bind fun r5 =>
        (if (r5.2 == 2) = true then
          (slices_reverseRangeOrdered_int_w data2 a1 b1).bind fun r6 =>
          some ((w64 ((w64 (b1 - 1)) - (w64 (r5.1 - a1)))), (1 : Int), r6)
        else
          some (r5.1, r5.2, data2)).bind fun ((alreadyPartitioned, leftLen, data3) : Int × Int × (List Int)) =>
        flb ((if hint = true then if mid = true then some (leftLen == 1) else some false else some false).bind fun (v : Bool) =>
        if v = true then
          (slices_partialInsertionSortOrdered_int_w data3 a1 b1).bind fun r7 =>
          if r7.1 = true then
            some (.ret (.dn r7.2))
          else
            some (.go r7.2)
        else
          some (.go data3)) fun (data4 : List Int) =>
        (if (decide (0 < a1)) = true then (idx data4 (w64 (a1 - 1))).bind fun e6 =>
        (idx data4 alreadyPartitioned).bind fun e7 =>
        (cmp_Less_int e6 e7).bind fun r11 =>
        some (!r11) else some false).bind fun (v1 : Bool) =>
        if v1 = true then
          (slices_partitionEqualOrdered_int_w data4 a1 b1 alreadyPartitioned).bind fun r12 =>
          some (.nx (r12.1, b1, limit2, hint, mid, r12.2))
        else
          (slices_partitionOrdered_int_w data4 a1 b1 alreadyPartitioned).bind fun r13 =>
          (chk ((8 : Int) ≠ 0)).bind fun u =>
          if (decide ((w64 (r13.1 - a1)) < (w64 (b1 - r13.1)))) = true then
            (rec_ r13.2.2 a1 r13.1 limit2).bind fun r14 =>
            some (.nx ((w64 (r13.1 + 1)), b1, limit2, (decide ((w64 ((w64 (b1 - a1)).tdiv 8)) ≤ (w64 (r13.1 - a1)))), r13.2.1, r14))
          else
            (rec_ r13.2.2 (w64 (r13.1 + 1)) b1 limit2).bind fun r15 =>
            some (.nx (a1, r13.1, limit2, (decide ((w64 ((w64 (b1 - a1)).tdiv 8)) ≤ (w64 (b1 - r13.1)))), r13.2.1, r15))
noncomputable def slices_pdqsortOrdered_int_w_F (rec_ : (List Int) → Int → Int → Int → Option ((List Int))) (data : List Int) (a : Int) (b : Int) (limit : Int) : Option ((List Int)) :=
  iter (slices_pdqsortOrdered_int_w_L1 rec_) (a, b, limit, true, true, data)
noncomputable def slices_pdqsortOrdered_int_w_k : Nat → (List Int) → Int → Int → Int → Option ((List Int))
  | 0 => fun _ _ _ _ => none
  | n + 1 => slices_pdqsortOrdered_int_w_F (slices_pdqsortOrdered_int_w_k n)
noncomputable def slices_pdqsortOrdered_int_w (data : List Int) (a : Int) (b : Int) (limit : Int) : Option ((List Int)) := slices_pdqsortOrdered_int_w_k 4294967296 data a b limit
noncomputable def slices_Sort_int_w (x : List Int) : Option ((List Int)) :=
  (math_bits_Len (⟨(IntKind.u64.wrap ((x.length : Int)))⟩ : IK .u64)).bind fun r =>
  (slices_pdqsortOrdered_int_w x 0 (x.length : Int) r).bind fun r1 =>
  some r1
noncomputable def i_DelayQuantile_L1 (list : List Visit) : Int × (List Int) → Option (Lp (Int × (List Int)) ((List Int)))
  | (v1, i) =>
    if (decide (v1 < (list.length : Int))) = true then
      (idx list v1).bind fun e =>
      (idx i v1).bind fun e1 =>
      some (.nx ((w64 (v1 + 1)), (i.set v1.toNat (w64 (e.Actual - e.Planned)))))
    else
      some (.dn i)
noncomputable def i_DelayQuantile_L2 (num : Int) (den : Int) (r1 : (List Int)) : Int → Option (Lp (Int) (Int))
  | v2 =>
    if (decide ((w64 ((w64 (v2 + 1)) * den)) < (w64 (num * (r1.length : Int))))) = true then
      some (.nx (w64 (v2 + 1)))
    else
      some (.dn v2)
noncomputable def i_DelayQuantile (list : List Visit) (num : Int) (den : Int) : Option (Int × Bool) :=
  (i_IsValidVisits list).bind fun r =>
  (if (!r) = true then some true else if ((list.length : Int) == 0) = true then some true else if (decide (num < 1)) = true then some true else if (decide (den < num)) = true then some true else some (decide (1000 < den))).bind fun (v : Bool) =>
  if v = true then
    some (0, false)
  else
    (chk ((0 : Int) ≤ (list.length : Int) ∧ (list.length : Int) ≤ 4294967296)).bind fun u =>
    (iter (i_DelayQuantile_L1 list) ((0 : Int), (List.replicate (list.length : Int).toNat (0 : Int)))).bind fun (i1 : List Int) =>
    (slices_Sort_int_w i1).bind fun r1 =>
    (iter (i_DelayQuantile_L2 num den r1) (0 : Int)).bind fun (v3 : Int) =>
    (idx r1 v3).bind fun e2 =>
    some (e2, true)
noncomputable def s_l1Cur_one (c : l1Cur) (n : Int) : Option (Bool × l1Cur) :=
  (s_l1Cur_pick c n).bind fun r =>
  some ((r.1 == 0), r.2)
noncomputable def s_l1Cur_limits22 (c : l1Cur) : Option (Int × Int × l1Cur) :=
  (s_l1Cur_among c ([0, 1, 2, 600, (-1)] : List Int)).bind fun r =>
  ((if (decide (r.1 < 0)) = true then (s_l1Cur_one r.2 8).bind fun r1 =>
  some ((!r1.1), r1.2.code_, r1.2.at_, r1.2.seed_.v) else some (false, r.2.code_, r.2.at_, r.2.seed_.v)).bind fun ((v4, v5, v6, v7) : Bool × (List UInt8) × Int × Int) =>
  if v4 = true then
    some ((1 : Int), v5, v6, v7)
  else
    some (r.1, v5, v6, v7)).bind fun ((v, v1, v2, v3) : Int × (List UInt8) × Int × Int) =>
  (s_l1Cur_pick (⟨v1, v2, (⟨v3⟩ : IK .u64)⟩ : l1Cur) 24).bind fun r2 =>
  (chk ((11 : Int) ≠ 0)).bind fun u =>
  (chk ((0 : Int) ≤ 0 ∧ 0 ≤ (w64 (5 + (w64 (r2.1.tdiv 11)))) ∧ (w64 (5 + (w64 (r2.1.tdiv 11)))) ≤ (([0, 2, 3, 5, 600, (-1), 601] : List Int).length : Int))).bind fun u1 =>
  (s_l1Cur_among r2.2 ((([0, 2, 3, 5, 600, (-1), 601] : List Int).take (w64 (5 + (w64 (r2.1.tdiv 11)))).toNat).drop (0 : Int).toNat)).bind fun r3 =>
  some (v, r3.1, r3.2)
noncomputable def s_DrawBestBuffer (code : List UInt8) : Option ((List Visit) × Int × Int × Int) :=
  (s_l1Cur_visits (⟨code, 0, (⟨0⟩ : IK .u64)⟩ : l1Cur)).bind fun r =>
  (s_l1Cur_limits22 r.2).bind fun r1 =>
  (s_l1Cur_pick r1.2.2 24).bind fun r2 =>
  (chk ((11 : Int) ≠ 0)).bind fun u =>
  (chk ((0 : Int) ≤ 0 ∧ 0 ≤ (w64 (4 + (w64 (r2.1.tdiv 11)))) ∧ (w64 (4 + (w64 (r2.1.tdiv 11)))) ≤ (([0, 2, 5, 60, (-1), 61] : List Int).length : Int))).bind fun u1 =>
  (s_l1Cur_among r2.2 ((([0, 2, 5, 60, (-1), 61] : List Int).take (w64 (4 + (w64 (r2.1.tdiv 11)))).toNat).drop (0 : Int).toNat)).bind fun r3 =>
  some (r.1, r1.1, r1.2.1, r3.1)
noncomputable def i_areVisits (list : List Visit) (early : Int) (late : Int) : Option (Bool) :=
  (i_IsValidVisits list).bind fun r =>
  (if r = true then (i_within early 0 600).bind fun r1 =>
  if r1 = true then (i_within late 0 600).bind fun r2 =>
  some r2 else some false else some false).bind fun (v : Bool) =>
  some v
noncomputable def i_one (a : Visit) : Option (Int) :=
  some 1
noncomputable def i_isPunctual (v : Visit) (early : Int) (late : Int) : Option (Bool) :=
  (i_within (w64 (v.Actual - v.Planned)) (w64 (0 - early)) late).bind fun r =>
  some r
noncomputable def i_shareOf_L1 (list : List Visit) (early : Int) (late : Int) (weight : Visit → Option (Int)) : Int × Int × Int → Option (Lp (Int × Int × Int) (Int × Int))
  | (v, v1, v2) =>
    if (decide (v2 < (list.length : Int))) = true then
      (idx list v2).bind fun e =>
      ((i_isPunctual e early late).bind fun r =>
      if r = true then
        (weight e).bind fun r1 =>
        some (w64 (v + r1))
      else
        some v).bind fun (v3 : Int) =>
      (weight e).bind fun r2 =>
      some (.nx (v3, (w64 (v1 + r2)), (w64 (v2 + 1))))
    else
      some (.dn (v, v1))
noncomputable def i_shareOf (list : List Visit) (early : Int) (late : Int) (weight : Visit → Option (Int)) : Option (Int × Int) :=
  (iter (i_shareOf_L1 list early late weight) ((0 : Int), (0 : Int), (0 : Int))).bind fun ((v4, v5) : Int × Int) =>
  some (v4, v5)
noncomputable def i_shareOf__i_one (list : List Visit) (early : Int) (late : Int) : Option (Int × Int) :=
  i_shareOf list early late (fun (z0 : Visit) => i_one z0)
noncomputable def cmp_Compare_int (x : Int) (y_ : Int) : Option (Int) :=
  (cmp_isNaN_int x).bind fun r =>
  (cmp_isNaN_int y_).bind fun r1 =>
  if r = true then
    if r1 = true then
      some 0
    else
      some (-1)
  else
    if r1 = true then
      some 1
    else
      if (decide (x < y_)) = true then
        some (-1)
      else
        if (decide (y_ < x)) = true then
          some 1
        else
          some 0
noncomputable def i_BestBuffer_L1 (list : List Visit) (early : Int) (late : Int) (limit : Int) : Int × Int × Int → Option (Lp (Int × Int × Int) (Int × Int))
  | (ok, n, v1) =>
    if (decide (v1 < (w64 (limit + 1)))) = true then
      ((i_shiftVisits list v1).bind fun r2 =>
      if (!r2.2) = true then
        some (ok, n)
      else
        (i_shareOf__i_one r2.1 early late).bind fun r3 =>
        (cmp_Compare_int r3.1 n).bind fun r4 =>
        if (decide (0 < r4)) = true then
          some (v1, r3.1)
        else
          some (ok, n)).bind fun ((ok1, n1) : Int × Int) =>
      some (.nx (ok1, n1, (w64 (v1 + 1))))
    else
      some (.dn (ok, n))
noncomputable def i_BestBuffer (list : List Visit) (early : Int) (late : Int) (limit : Int) : Option (Int × Int × Bool) :=
  (i_areVisits list early late).bind fun r =>
  (if (!r) = true then some true else (i_within limit 0 60).bind fun r1 =>
  some (!r1)).bind fun (v : Bool) =>
  if v = true then
    some (0, 0, false)
  else
    (iter (i_BestBuffer_L1 list early late limit) ((0 : Int), ((-1) : Int), (0 : Int))).bind fun ((ok2, n2) : Int × Int) =>
    some (ok2, n2, true)
noncomputable def s_l22Limits (early : Int) (late : Int) : Option (Bool) :=
  (s_l1In early 0 600).bind fun r =>
  (if r = true then (s_l1In late 0 600).bind fun r1 =>
  some r1 else some false).bind fun (v : Bool) =>
  some v
noncomputable def s_l22Punctual (x : Visit) (early : Int) (late : Int) : Option (Bool) :=
  (s_l1In (w64 (x.Actual - x.Planned)) (w64 (0 - early)) late).bind fun r =>
  some r
noncomputable def s_l22Count_L1 (list : List Visit) (early : Int) (late : Int) : Int × Int → Option (Lp (Int × Int) (Int))
  | (v, v1) =>
    if (decide (v1 < (list.length : Int))) = true then
      ((idx list v1).bind fun e =>
      (s_l22Punctual e early late).bind fun r =>
      if r = true then
        some (w64 (v + 1))
      else
        some v).bind fun (v2 : Int) =>
      some (.nx (v2, (w64 (v1 + 1))))
    else
      some (.dn v)
noncomputable def s_l22Count (list : List Visit) (early : Int) (late : Int) : Option (Int) :=
  (iter (s_l22Count_L1 list early late) ((0 : Int), (0 : Int))).bind fun (v3 : Int) =>
  some v3
noncomputable def s_BestBuffer_L1 (list : List Visit) (early : Int) (late : Int) (limit : Int) : Int × Int × Int → Option (Lp (Int × Int × Int) (Int × Int))
  | (n, v1, v2) =>
    if (decide (v2 ≤ limit)) = true then
      ((s_l22Shift list v2).bind fun r3 =>
      (s_l22Count r3 early late).bind fun r4 =>
      (s_l22Good r3).bind fun r5 =>
      (if r5 = true then some (decide (v1 < r4)) else some false).bind fun (v4 : Bool) =>
      if v4 = true then
        some (v2, r4)
      else
        some (n, v1)).bind fun ((n1, v3) : Int × Int) =>
      some (.nx (n1, v3, (w64 (v2 + 1))))
    else
      some (.dn (n, v1))
noncomputable def s_BestBuffer (list : List Visit) (early : Int) (late : Int) (limit : Int) : Option (Int × Int × Bool) :=
  (s_l22Good list).bind fun r =>
  (if (!r) = true then some true else (s_l22Limits early late).bind fun r1 =>
  if (!r1) = true then some true else (s_l1In limit 0 60).bind fun r2 =>
  some (!r2)).bind fun (v : Bool) =>
  if v = true then
    some (0, 0, false)
  else
    (iter (s_BestBuffer_L1 list early late limit) ((0 : Int), ((-1) : Int), (0 : Int))).bind fun ((n2, v5) : Int × Int) =>
    some (n2, v5, true)
noncomputable def i_PunctualShare (list : List Visit) (early : Int) (late : Int) : Option (Int × Int × Bool) :=
  (i_areVisits list early late).bind fun r =>
  (if (!r) = true then some true else some ((list.length : Int) == 0)).bind fun (v : Bool) =>
  if v = true then
    some (0, 0, false)
  else
    (i_shareOf__i_one list early late).bind fun r1 =>
    (i_fraction r1.1 r1.2).bind fun r2 =>
    some (r2.1, r2.2.1, r2.2.2)
noncomputable def s_l1Most (a : Int) (b : Int) : Option (Int) :=
  if (decide (b < a)) = true then
    some a
  else
    some b
noncomputable def s_DrawDelayQuantile (code : List UInt8) : Option ((List Visit) × Int × Int) :=
  (s_l1Cur_visits (⟨code, 0, (⟨0⟩ : IK .u64)⟩ : l1Cur)).bind fun r =>
  (s_l1Cur_pick r.2 24).bind fun r1 =>
  (chk ((11 : Int) ≠ 0)).bind fun u =>
  (chk ((0 : Int) ≤ 0 ∧ 0 ≤ (w64 (5 + (w64 (r1.1.tdiv 11)))) ∧ (w64 (5 + (w64 (r1.1.tdiv 11)))) ≤ (([1, 2, 3, 10, 1000, 0, 1001] : List Int).length : Int))).bind fun u1 =>
  (s_l1Cur_among r1.2 ((([1, 2, 3, 10, 1000, 0, 1001] : List Int).take (w64 (5 + (w64 (r1.1.tdiv 11)))).toNat).drop (0 : Int).toNat)).bind fun r2 =>
  (chk ((2 : Int) ≠ 0)).bind fun u2 =>
  (s_l1Most (w64 (r2.1.tdiv 2)) 1).bind fun r3 =>
  (chk ((10 : Int) ≠ 0)).bind fun u3 =>
  (s_l1Most (w64 ((w64 (r2.1 * 9)).tdiv 10)) 1).bind fun r4 =>
  (s_l1Cur_pick r2.2 24).bind fun r5 =>
  (chk ((23 : Int) ≠ 0)).bind fun u4 =>
  (chk ((0 : Int) ≤ 0 ∧ 0 ≤ (w64 (4 + (w64 (r5.1.tdiv 23)))) ∧ (w64 (4 + (w64 (r5.1.tdiv 23)))) ≤ (([1, r2.1, r3, r4, 0] : List Int).length : Int))).bind fun u5 =>
  (s_l1Cur_among r5.2 ((([1, r2.1, r3, r4, 0] : List Int).take (w64 (4 + (w64 (r5.1.tdiv 23)))).toNat).drop (0 : Int).toNat)).bind fun r6 =>
  some (r.1, r6.1, r2.1)
noncomputable def s_DelayQuantile_L1 (list : List Visit) (e2 : Visit) (e3 : Visit) : Int × Int → Option (Lp (Int × Int) (Int))
  | (v1, v2) =>
    if (decide (v2 < (list.length : Int))) = true then
      ((idx list v2).bind fun e6 =>
      (idx list v2).bind fun e7 =>
      if (decide ((w64 (e6.Actual - e7.Planned)) ≤ (w64 (e2.Actual - e3.Planned)))) = true then
        some (w64 (v1 + 1))
      else
        some v1).bind fun (v3 : Int) =>
      some (.nx (v3, (w64 (v2 + 1))))
    else
      some (.dn v1)
noncomputable def s_DelayQuantile_L2 (list : List Visit) (num : Int) (den : Int) : Int × Int → Option (Lp (Int × Int) (Int))
  | (n, k) =>
    if (decide (k < (list.length : Int))) = true then
      ((idx list k).bind fun e2 =>
      (idx list k).bind fun e3 =>
      (iter (s_DelayQuantile_L1 list e2 e3) ((0 : Int), (0 : Int))).bind fun (v4 : Int) =>
      if (decide ((w64 (num * (list.length : Int))) ≤ (w64 (v4 * den)))) = true then
        (s_l1Least n (w64 (e2.Actual - e3.Planned))).bind fun r3 =>
        some r3
      else
        some n).bind fun (n1 : Int) =>
      some (.nx (n1, (w64 (k + 1))))
    else
      some (.dn n)
noncomputable def s_DelayQuantile (list : List Visit) (num : Int) (den : Int) : Option (Int × Bool) :=
  (s_l22Good list).bind fun r =>
  (if (!r) = true then some true else if ((list.length : Int) == 0) = true then some true else (s_l1In den 1 1000).bind fun r1 =>
  if (!r1) = true then some true else (s_l1In num 1 den).bind fun r2 =>
  some (!r2)).bind fun (v : Bool) =>
  if v = true then
    some (0, false)
  else
    (iter (s_DelayQuantile_L2 list num den) ((600 : Int), (0 : Int))).bind fun (n2 : Int) =>
    some (n2, true)
noncomputable def s_DrawExcessWait (code : List UInt8) : Option ((List Visit) × Int) :=
  (s_l1Cur_visits (⟨code, 0, (⟨0⟩ : IK .u64)⟩ : l1Cur)).bind fun r =>
  (s_l1Cur_pick r.2 24).bind fun r1 =>
  (chk ((11 : Int) ≠ 0)).bind fun u =>
  (chk ((0 : Int) ≤ 0 ∧ 0 ≤ (w64 (5 + (w64 (r1.1.tdiv 11)))) ∧ (w64 (5 + (w64 (r1.1.tdiv 11)))) ≤ (([0, 1, 2, 3, 7, (-1), 8] : List Int).length : Int))).bind fun u1 =>
  (s_l1Cur_among r1.2 ((([0, 1, 2, 3, 7, (-1), 8] : List Int).take (w64 (5 + (w64 (r1.1.tdiv 11)))).toNat).drop (0 : Int).toNat)).bind fun r2 =>
  some (r.1, r2.1)
noncomputable def i_visitsAt_L1 (list : List Visit) (stop : Int) : Int × (List Visit) → Option (Lp (Int × (List Visit)) ((List Visit)))
  | (v, v1) =>
    if (decide (v < (list.length : Int))) = true then
      ((idx list v).bind fun e =>
      if (e.Stop == stop) = true then
        (chk (v1.length + ([e] : List Visit).length ≤ 4294967296)).bind fun u =>
        some (v1 ++ ([e] : List Visit))
      else
        some v1).bind fun (v2 : List Visit) =>
      some (.nx ((w64 (v + 1)), v2))
    else
      some (.dn v1)
noncomputable def i_visitsAt (list : List Visit) (stop : Int) : Option ((List Visit)) :=
  (iter (i_visitsAt_L1 list stop) ((0 : Int), ([] : List Visit))).bind fun (v3 : List Visit) =>
  some v3
noncomputable def i_waitOf_w_L1 (r : (List Int)) : Int × Int → Option (Lp (Int × Int) (Int))
  | (i, v) =>
    if (decide (v < (r.length : Int))) = true then
      (idx r v).bind fun e4 =>
      (idx r (w64 (v - 1))).bind fun e5 =>
      (idx r v).bind fun e6 =>
      (idx r (w64 (v - 1))).bind fun e7 =>
      some (.nx ((w64 (i + (w64 ((w64 (e4 - e5)) * (w64 (e6 - e7)))))), (w64 (v + 1))))
    else
      some (.dn i)
noncomputable def i_waitOf_w (times : List Int) : Option (Int × Int × (List Int)) :=
  (slices_Sort_int_w times).bind fun r =>
  (iter (i_waitOf_w_L1 r) ((0 : Int), (1 : Int))).bind fun (i1 : Int) =>
  (idx r (w64 ((r.length : Int) - 1))).bind fun e10 =>
  (idx r 0).bind fun e11 =>
  some (i1, (w64 (2 * (w64 (e10 - e11)))), r)
noncomputable def i_ExcessWait_L1 (r2 : (List Visit)) : Int × (List Int) × (List Int) → Option (Lp (Int × (List Int) × (List Int)) ((List Int) × (List Int)))
  | (v1, v2, v3) =>
    if (decide (v1 < (r2.length : Int))) = true then
      (idx r2 v1).bind fun e =>
      (chk (v2.length + ([e.Planned] : List Int).length ≤ 4294967296)).bind fun u2 =>
      (chk (v3.length + ([e.Actual] : List Int).length ≤ 4294967296)).bind fun u3 =>
      some (.nx ((w64 (v1 + 1)), (v2 ++ ([e.Planned] : List Int)), (v3 ++ ([e.Actual] : List Int))))
    else
      some (.dn (v2, v3))
noncomputable def i_ExcessWait (list : List Visit) (stop : Int) : Option (Int × Int × Bool) :=
  (i_IsValidVisits list).bind fun r =>
  (if (!r) = true then some true else (i_within stop 0 7).bind fun r1 =>
  some (!r1)).bind fun (v : Bool) =>
  if v = true then
    some (0, 0, false)
  else
    (i_visitsAt list stop).bind fun r2 =>
    if (decide ((r2.length : Int) < 2)) = true then
      some (0, 0, false)
    else
      (iter (i_ExcessWait_L1 r2) ((0 : Int), ([] : List Int), ([] : List Int))).bind fun ((v4, v5) : (List Int) × (List Int)) =>
      (i_waitOf_w v5).bind fun r3 =>
      (i_waitOf_w v4).bind fun r4 =>
      (if (r3.2.1 == 0) = true then some true else some (r4.2.1 == 0)).bind fun (v6 : Bool) =>
      if v6 = true then
        some (0, 0, false)
      else
        (i_fraction (w64 ((w64 (r3.1 * r4.2.1)) - (w64 (r4.1 * r3.2.1)))) (w64 (r3.2.1 * r4.2.1))).bind fun r5 =>
        some (r5.1, r5.2.1, r5.2.2)
noncomputable def s_l22At_L1 (list : List Visit) (stop : Int) : Int × (List Visit) → Option (Lp (Int × (List Visit)) ((List Visit)))
  | (v, v1) =>
    if (decide (v < (list.length : Int))) = true then
      ((idx list v).bind fun e =>
      if (e.Stop == stop) = true then
        (idx list v).bind fun e1 =>
        (chk (v1.length + ([e1] : List Visit).length ≤ 4294967296)).bind fun u =>
        some (v1 ++ ([e1] : List Visit))
      else
        some v1).bind fun (v2 : List Visit) =>
      some (.nx ((w64 (v + 1)), v2))
    else
      some (.dn v1)
noncomputable def s_l22At (list : List Visit) (stop : Int) : Option ((List Visit)) :=
  (iter (s_l22At_L1 list stop) ((0 : Int), ([] : List Visit))).bind fun (v3 : List Visit) =>
  some v3
noncomputable def s_l22Wait_L1 (times : List Int) (k : Int) (i : List Int) : Int → Option (Lp (Int) (Int))
  | sum =>
    (if (decide (0 < sum)) = true then (idx i (w64 (sum - 1))).bind fun e2 =>
    (idx times k).bind fun e3 =>
    some (decide (e3 < e2)) else some false).bind fun (v : Bool) =>
    if v = true then
      some (.nx (w64 (sum - 1)))
    else
      some (.dn sum)
noncomputable def s_l22Wait_L2 (times : List Int) : Int × (List Int) → Option (Lp (Int × (List Int)) ((List Int)))
  | (k, i) =>
    if (decide (k < (times.length : Int))) = true then
      (iter (s_l22Wait_L1 times k i) (i.length : Int)).bind fun (sum1 : Int) =>
      (chk ((0 : Int) ≤ 0 ∧ 0 ≤ sum1 ∧ sum1 ≤ (i.length : Int))).bind fun u5 =>
      (chk (([] : List Int).length + ((i.take sum1.toNat).drop (0 : Int).toNat).length ≤ 4294967296)).bind fun u6 =>
      (idx times k).bind fun e5 =>
      (chk ((([] : List Int) ++ ((i.take sum1.toNat).drop (0 : Int).toNat)).length + ([e5] : List Int).length ≤ 4294967296)).bind fun u7 =>
      (chk ((0 : Int) ≤ sum1 ∧ sum1 ≤ (i.length : Int))).bind fun u8 =>
      (chk (((([] : List Int) ++ ((i.take sum1.toNat).drop (0 : Int).toNat)) ++ ([e5] : List Int)).length + (i.drop sum1.toNat).length ≤ 4294967296)).bind fun u9 =>
      some (.nx ((w64 (k + 1)), (((([] : List Int) ++ ((i.take sum1.toNat).drop (0 : Int).toNat)) ++ ([e5] : List Int)) ++ (i.drop sum1.toNat))))
    else
      some (.dn i)
noncomputable def s_l22Wait_L3 (i1 : List Int) : Int × Int → Option (Lp (Int × Int) (Int))
  | (i2, d) =>
    if (decide (d < (i1.length : Int))) = true then
      (idx i1 d).bind fun e8 =>
      (idx i1 (w64 (d - 1))).bind fun e9 =>
      some (.nx ((w64 (i2 + (w64 ((w64 (e8 - e9)) * (w64 (e8 - e9)))))), (w64 (d + 1))))
    else
      some (.dn i2)
noncomputable def s_l22Wait (times : List Int) : Option (Int × Int) :=
  (iter (s_l22Wait_L2 times) ((0 : Int), ([] : List Int))).bind fun (i1 : List Int) =>
  (iter (s_l22Wait_L3 i1) ((0 : Int), (1 : Int))).bind fun (i3 : Int) =>
  (idx i1 (w64 ((i1.length : Int) - 1))).bind fun e12 =>
  (idx i1 0).bind fun e13 =>
  some (i3, (w64 (e12 - e13)))
noncomputable def s_l22Reduce_L1 : Int × Int → Option (Lp (Int × Int) (Int))
  | (r1, v) =>
    if (v != 0) = true then
      (chk ((v : Int) ≠ 0)).bind fun u =>
      some (.nx (v, (r1.tmod v)))
    else
      some (.dn r1)
noncomputable def s_l22Reduce (num : Int) (den : Int) : Option (Int × Int) :=
  (s_l1Most num (w64 (0 - num))).bind fun r =>
  (iter (s_l22Reduce_L1) (r, den)).bind fun (r2 : Int) =>
  (chk ((r2 : Int) ≠ 0)).bind fun u3 =>
  (chk ((r2 : Int) ≠ 0)).bind fun u4 =>
  some ((w64 (num.tdiv r2)), (w64 (den.tdiv r2)))
noncomputable def s_ExcessWait_L1 (r2 : (List Visit)) : Int × (List Int) × (List Int) → Option (Lp (Int × (List Int) × (List Int)) ((List Int) × (List Int)))
  | (x, i, a) =>
    if (decide (x < (r2.length : Int))) = true then
      (idx r2 x).bind fun e =>
      (chk (i.length + ([e.Planned] : List Int).length ≤ 4294967296)).bind fun u =>
      (idx r2 x).bind fun e1 =>
      (chk (a.length + ([e1.Actual] : List Int).length ≤ 4294967296)).bind fun u1 =>
      some (.nx ((w64 (x + 1)), (i ++ ([e.Planned] : List Int)), (a ++ ([e1.Actual] : List Int))))
    else
      some (.dn (i, a))
noncomputable def s_ExcessWait (list : List Visit) (stop : Int) : Option (Int × Int × Bool) :=
  (s_l22Good list).bind fun r =>
  (if (!r) = true then some true else (s_l1In stop 0 7).bind fun r1 =>
  some (!r1)).bind fun (v : Bool) =>
  if v = true then
    some (0, 0, false)
  else
    (s_l22At list stop).bind fun r2 =>
    (iter (s_ExcessWait_L1 r2) ((0 : Int), ([] : List Int), ([] : List Int))).bind fun ((i1, a1) : (List Int) × (List Int)) =>
    if (decide ((r2.length : Int) < 2)) = true then
      some (0, 0, false)
    else
      (s_l22Wait a1).bind fun r3 =>
      (s_l22Wait i1).bind fun r4 =>
      (if (r3.2 == 0) = true then some true else some (r4.2 == 0)).bind fun (v1 : Bool) =>
      if v1 = true then
        some (0, 0, false)
      else
        (s_l22Reduce (w64 ((w64 (r3.1 * r4.2)) - (w64 (r4.1 * r3.2)))) (w64 ((w64 (2 * r3.2)) * r4.2))).bind fun r5 =>
        some (r5.1, r5.2, true)
noncomputable def v_FnPunctuality (code : List UInt8) : Option (Bool) :=
  (v_rBig code).bind fun r =>
  if r = true then
    some true
  else
    (s_DrawShiftVisits code).bind fun r1 =>
    (i_ShiftVisits r1.1 r1.2).bind fun r2 =>
    (s_ShiftVisits r1.1 r1.2).bind fun r3 =>
    (if (!(r2.2 == r3.2)) = true then some true else some ((r2.1.length : Int) != (r3.1.length : Int))).bind fun (v : Bool) =>
    if v = true then
      some false
    else
      flb ((if r2.2 = true then some (decide (0 < (r1.1.length : Int))) else some false).bind fun (v1 : Bool) =>
      if v1 = true then
        (i_MeanDelay r1.1).bind fun r4 =>
        (i_MeanDelay r2.1).bind fun r5 =>
        (i_DelayQuantile r1.1 1 2).bind fun r6 =>
        (i_DelayQuantile r2.1 1 2).bind fun r7 =>
        (if (!r4.2.2) = true then some true else if (!r5.2.2) = true then some true else if (!r6.2) = true then some true else if (!r7.2) = true then some true else if (r4.2.1 != r5.2.1) = true then some true else if (r5.1 != (w64 (r4.1 - (w64 (r1.2 * r4.2.1))))) = true then some true else some (r7.1 != (w64 (r6.1 - r1.2)))).bind fun (v2 : Bool) =>
        if v2 = true then
          some (.ret false)
        else
          some (.go ())
      else
        some (.go ())) fun (_ : Unit) =>
      (s_DrawBestBuffer code).bind fun r9 =>
      (i_BestBuffer r9.1 r9.2.1 r9.2.2.1 r9.2.2.2).bind fun r10 =>
      (s_BestBuffer r9.1 r9.2.1 r9.2.2.1 r9.2.2.2).bind fun r11 =>
      (if (r10.1 != r11.1) = true then some true else if (r10.2.1 != r11.2.1) = true then some true else some (!(r10.2.2 == r11.2.2))).bind fun (v3 : Bool) =>
      if v3 = true then
        some false
      else
        flb ((if r10.2.2 = true then some (decide (0 < (r9.1.length : Int))) else some false).bind fun (v4 : Bool) =>
        if v4 = true then
          (i_PunctualShare r9.1 r9.2.1 r9.2.2.1).bind fun r12 =>
          (if (!r12.2.2) = true then some true else some (decide ((w64 (r10.2.1 * r12.2.1)) < (w64 (r12.1 * (r9.1.length : Int)))))).bind fun (v5 : Bool) =>
          if v5 = true then
            some (.ret false)
          else
            some (.go ())
        else
          some (.go ())) fun (_ : Unit) =>
        (s_DrawDelayQuantile code).bind fun r14 =>
        (i_DelayQuantile r14.1 r14.2.1 r14.2.2).bind fun r15 =>
        (s_DelayQuantile r14.1 r14.2.1 r14.2.2).bind fun r16 =>
        (s_DrawExcessWait code).bind fun r17 =>
        (i_ExcessWait r17.1 r17.2).bind fun r18 =>
        (s_ExcessWait r17.1 r17.2).bind fun r19 =>
        (if (r15.1 == r16.1) = true then if (r15.2 == r16.2) = true then if (r18.1 == r19.1) = true then if (r18.2.1 == r19.2.1) = true then some (r18.2.2 == r19.2.2) else some false else some false else some false else some false).bind fun (list : Bool) =>
        some list
end Go.Proofs.Ytepdapiceklppaa
