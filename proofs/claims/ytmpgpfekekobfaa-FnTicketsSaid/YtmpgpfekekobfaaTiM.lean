/- Models of the functions that the law reaches: plain Lean; none where the function would panic or not end. Made by program (dec.py). -/
import Derived.Test.YtmpgpfekekobfaaAbEx5
namespace Go.Proofs.Ytmpgpfekekobfaa
open Go Go.Ab
set_option maxRecDepth 100000
set_option maxHeartbeats 4000000
set_option linter.unusedVariables false
set_option linter.unusedSimpArgs false
structure l1Cur where
  code_ : List UInt8
  at_ : Int
  seed_ : IK .u64
instance enc_l1Cur : Enc l1Cur := ⟨3, fun x => .agg [Enc.e x.code_, .sc (.int .i64 x.at_), .sc (.int .u64 x.seed_.v)], fun a b h => by
  simp only [D.agg.injEq, List.cons.injEq, and_true] at h
  obtain ⟨a1, a2, a3⟩ := a
  obtain ⟨b1, b2, b3⟩ := b
  obtain ⟨h1, h2, h3⟩ := h
  have q1 := Enc.inj (α := List UInt8) a1 b1 h1
  have q2 := Enc.inj (α := Int) a2 b2 h2
  have q3 := Enc.inj (α := IK .u64) a3 b3 h3
  subst q1; subst q2; subst q3; rfl⟩
structure Prices where
  Zones : List Int
  Day : Int
  Week : Int
instance enc_Prices : Enc Prices := ⟨3, fun x => .agg [Enc.e x.Zones, .sc (.int .i64 x.Day), .sc (.int .i64 x.Week)], fun a b h => by
  simp only [D.agg.injEq, List.cons.injEq, and_true] at h
  obtain ⟨a1, a2, a3⟩ := a
  obtain ⟨b1, b2, b3⟩ := b
  obtain ⟨h1, h2, h3⟩ := h
  have q1 := Enc.inj (α := List Int) a1 b1 h1
  have q2 := Enc.inj (α := Int) a2 b2 h2
  have q3 := Enc.inj (α := Int) a3 b3 h3
  subst q1; subst q2; subst q3; rfl⟩
structure Ride where
  Day : Int
  Time : Int
  Fare : Int
instance enc_Ride : Enc Ride := ⟨3, fun x => .agg [.sc (.int .i64 x.Day), .sc (.int .i64 x.Time), .sc (.int .i64 x.Fare)], fun a b h => by
  simp only [D.agg.injEq, List.cons.injEq, and_true] at h
  obtain ⟨a1, a2, a3⟩ := a
  obtain ⟨b1, b2, b3⟩ := b
  obtain ⟨h1, h2, h3⟩ := h
  have q1 := Enc.inj (α := Int) a1 b1 h1
  have q2 := Enc.inj (α := Int) a2 b2 h2
  have q3 := Enc.inj (α := Int) a3 b3 h3
  subst q1; subst q2; subst q3; rfl⟩
noncomputable def v_rBig (code : List UInt8) : Option (Bool) :=
  some (decide (65536 < (code.length : Int)))
noncomputable def s_l1Cur_next (c : l1Cur) : Option (Int × l1Cur) :=
  (if (decide (c.at_ < (c.code_.length : Int))) = true then
    (idx c.code_ c.at_).bind fun e1 =>
    some (w64 ((e1.toNat : Int)))
  else
    some 0).bind fun (v : Int) =>
  if (decide ((w64 (c.at_ + 1)) ≤ (c.code_.length : Int))) = true then
    some (v, (⟨c.code_, (w64 (c.at_ + 1)), (⟨(IntKind.u64.wrap ((IntKind.u64.wrap ((IntKind.u64.wrap (c.seed_.v * 6364136223846793005)) + (IntKind.u64.wrap (v)))) + 900900))⟩ : IK .u64)⟩ : l1Cur))
  else
    (chk ((0 : Int) ≤ 40)).bind fun u =>
    some ((w64 ((IntKind.u64.wrap ((BitVec.ofInt (IntKind.u64).bits ((IntKind.u64.wrap ((IntKind.u64.wrap ((IntKind.u64.wrap (c.seed_.v * 6364136223846793005)) + (IntKind.u64.wrap (v)))) + 900900)).fdiv (2 ^ (min (40 : Int).toNat (IntKind.u64).bits))) &&& BitVec.ofInt (IntKind.u64).bits 255).toNat : Int)))), (⟨c.code_, (w64 (c.at_ + 1)), (⟨(IntKind.u64.wrap ((IntKind.u64.wrap ((IntKind.u64.wrap (c.seed_.v * 6364136223846793005)) + (IntKind.u64.wrap (v)))) + 900900))⟩ : IK .u64)⟩ : l1Cur))
noncomputable def s_l1Cur_pick (c : l1Cur) (n : Int) : Option (Int × l1Cur) :=
  if (decide (n ≤ 1)) = true then
    some (0, c)
  else
    (s_l1Cur_next c).bind fun r =>
    (if (decide (200 < n)) = true then
      (s_l1Cur_next r.2).bind fun r1 =>
      some ((w64 ((w64 (r.1 * 256)) + r1.1)), r1.2.code_, r1.2.at_, r1.2.seed_.v)
    else
      some (r.1, r.2.code_, r.2.at_, r.2.seed_.v)).bind fun ((v, v1, v2, v3) : Int × (List UInt8) × Int × Int) =>
    (chk ((n : Int) ≠ 0)).bind fun u =>
    some ((v.tmod n), (⟨v1, v2, (⟨v3⟩ : IK .u64)⟩ : l1Cur))
noncomputable def s_l1Cur_among (c : l1Cur) (list : List Int) : Option (Int × l1Cur) :=
  (s_l1Cur_pick c (list.length : Int)).bind fun r =>
  (idx list r.1).bind fun e =>
  some (e, r.2)
noncomputable def s_l1Cur_among_w (c : l1Cur) (list : List Int) : Option (Int × l1Cur) :=
  (s_l1Cur_pick c (list.length : Int)).bind fun r =>
  (idx list r.1).bind fun e =>
  some (e, r.2)
noncomputable def s_l1Cur_prices_L1 : Int × Int × (List UInt8) × Int × Int × (List Int) → Option (Lp (Int × Int × (List UInt8) × Int × Int × (List Int)) ((List UInt8) × Int × Int × (List Int)))
  | (n, v, v1, v2, v3, v4) =>
    if (decide (0 < v)) = true then
      (chk (v4.length + ([n] : List Int).length ≤ 4294967296)).bind fun u =>
      (s_l1Cur_among_w (⟨v1, v2, (⟨v3⟩ : IK .u64)⟩ : l1Cur) ([0, 50, 100] : List Int)).bind fun r4 =>
      some (.nx ((w64 (n + r4.1)), (w64 (v - 1)), r4.2.code_, r4.2.at_, r4.2.seed_.v, (v4 ++ ([n] : List Int))))
    else
      some (.dn (v1, v2, v3, v4))
noncomputable def s_l1Cur_prices (c : l1Cur) : Option (Prices × l1Cur) :=
  (s_l1Cur_among_w c ([500, 700, 300, 10000] : List Int)).bind fun r =>
  (s_l1Cur_among_w r.2 ([2000, 1500, 3000, 900, 10000] : List Int)).bind fun r1 =>
  (s_l1Cur_among_w r1.2 ([100, 200, 250] : List Int)).bind fun r2 =>
  (s_l1Cur_pick r2.2 4).bind fun r3 =>
  (iter (s_l1Cur_prices_L1) (r2.1, (w64 (1 + r3.1)), r3.2.code_, r3.2.at_, r3.2.seed_.v, ([] : List Int))).bind fun ((v5, v6, v7, v8) : (List UInt8) × Int × Int × (List Int)) =>
  ((s_l1Cur_pick (⟨v5, v6, (⟨v7⟩ : IK .u64)⟩ : l1Cur) 40).bind fun r5 =>
  if (r5.1 == 0) = true then
    (s_l1Cur_among_w r5.2 ([0, 10000, 10001] : List Int)).bind fun r7 =>
    (chk (v8.length + ([r7.1] : List Int).length ≤ 4294967296)).bind fun u2 =>
    some (r7.2.code_, r7.2.at_, r7.2.seed_.v, (v8 ++ ([r7.1] : List Int)), r.1)
  else
    if (r5.1 == 1) = true then
      (s_l1Cur_among_w r5.2 ([(-1), 10001, 0] : List Int)).bind fun r8 =>
      some (r8.2.code_, r8.2.at_, r8.2.seed_.v, v8, r8.1)
    else
      if (r5.1 == 2) = true then
        (chk ((0 : Int) ≤ 0 ∧ 0 ≤ 0 ∧ 0 ≤ (v8.length : Int))).bind fun u3 =>
        some (r5.2.code_, r5.2.at_, r5.2.seed_.v, ((v8.take (0 : Int).toNat).drop (0 : Int).toNat), r.1)
      else
        some (r5.2.code_, r5.2.at_, r5.2.seed_.v, v8, r.1)).bind fun ((v9, v10, v11, v12, v13) : (List UInt8) × Int × Int × (List Int) × Int) =>
  some ((⟨v12, v13, r1.1⟩ : Prices), (⟨v9, v10, (⟨v11⟩ : IK .u64)⟩ : l1Cur))
noncomputable def s_l1Cur_one (c : l1Cur) (n : Int) : Option (Bool × l1Cur) :=
  (s_l1Cur_pick c n).bind fun r =>
  some ((r.1 == 0), r.2)
noncomputable def s_l1Least (a : Int) (b : Int) : Option (Int) :=
  if (decide (a < b)) = true then
    some a
  else
    some b
noncomputable def s_l1Most (a : Int) (b : Int) : Option (Int) :=
  if (decide (b < a)) = true then
    some a
  else
    some b
noncomputable def s_l1Cur_rides_L1 : Int × (List UInt8) × Int × Int × (List Ride) × Int × Int × Int → Option (Lp (Int × (List UInt8) × Int × Int × (List Ride) × Int × Int × Int) ((List UInt8) × Int × Int × (List Ride)))
  | (k, v, v1, v2, x, v3, v4, v5) =>
    if (decide (0 < k)) = true then
      ((s_l1Cur_among_w (⟨v, v1, (⟨v2⟩ : IK .u64)⟩ : l1Cur) ([100, 200, 250, 300, 0] : List Int)).bind fun r2 =>
      (chk (x.length + ([(⟨v3, v4, r2.1⟩ : Ride)] : List Ride).length ≤ 4294967296)).bind fun u =>
      (s_l1Cur_one r2.2 2).bind fun r3 =>
      if r3.1 = true then
        (s_l1Cur_among_w r3.2 ([0, 10, 45, 60, 90, 300] : List Int)).bind fun r6 =>
        (s_l1Least (w64 (v4 + r6.1)) 1799).bind fun r7 =>
        some (r6.2.code_, r6.2.at_, r6.2.seed_.v, (x ++ ([(⟨v3, v4, r2.1⟩ : Ride)] : List Ride)), v3, r7, r2.1)
      else
        (s_l1Cur_among_w r3.2 ([1, 1, 1, 2, 6, 7] : List Int)).bind fun r10 =>
        (s_l1Least (w64 (v3 + r10.1)) 60).bind fun r11 =>
        (s_l1Most v4 400).bind fun r12 =>
        some (r10.2.code_, r10.2.at_, r10.2.seed_.v, (x ++ ([(⟨v3, v4, r2.1⟩ : Ride)] : List Ride)), r11, r12, r2.1)).bind fun ((v6, v7, v8, x1, v9, v10, v11) : (List UInt8) × Int × Int × (List Ride) × Int × Int × Int) =>
      some (.nx ((w64 (k - 1)), v6, v7, v8, x1, v9, v10, v11))
    else
      some (.dn (v, v1, v2, x))
noncomputable def s_l1Cur_rides_L2 : (List UInt8) × Int × Int × (List Ride) → Option (Lp ((List UInt8) × Int × Int × (List Ride)) ((List UInt8) × Int × Int × (List Ride)))
  | (v20, v21, v22, x4) =>
    (s_l1Cur_pick (⟨v20, v21, (⟨v22⟩ : IK .u64)⟩ : l1Cur) 2).bind fun r17 =>
    if (decide ((x4.length : Int) < (w64 (20 + r17.1)))) = true then
      (idx x4 (w64 ((x4.length : Int) - 1))).bind fun e1 =>
      (chk (x4.length + ([e1] : List Ride).length ≤ 4294967296)).bind fun u1 =>
      some (.nx (r17.2.code_, r17.2.at_, r17.2.seed_.v, (x4 ++ ([e1] : List Ride))))
    else
      some (.dn (r17.2.code_, r17.2.at_, r17.2.seed_.v, x4))
noncomputable def s_l1Cur_rides (c : l1Cur) : Option ((List Ride) × l1Cur) :=
  (s_l1Cur_pick c 10).bind fun r =>
  (s_l1Cur_pick r.2 10).bind fun r1 =>
  (iter (s_l1Cur_rides_L1) (r1.1, r1.2.code_, r1.2.at_, r1.2.seed_.v, ([] : List Ride), r.1, 400, 0)).bind fun ((v12, v13, v14, x2) : (List UInt8) × Int × Int × (List Ride)) =>
  if ((x2.length : Int) == 0) = true then
    some (x2, (⟨v12, v13, (⟨v14⟩ : IK .u64)⟩ : l1Cur))
  else
    (s_l1Cur_pick (⟨v12, v13, (⟨v14⟩ : IK .u64)⟩ : l1Cur) (x2.length : Int)).bind fun r13 =>
    (idx x2 r13.1).bind fun e =>
    ((s_l1Cur_pick r13.2 40).bind fun r14 =>
    if (r14.1 == 0) = true then
      (s_l1Cur_among_w r14.2 ([(-1), 61, 60] : List Int)).bind fun r15 =>
      some (r15.2.code_, r15.2.at_, r15.2.seed_.v, x2, r15.1, e.Fare)
    else
      if (r14.1 == 1) = true then
        (s_l1Cur_among_w r14.2 ([(-1), 10001, 10000] : List Int)).bind fun r16 =>
        some (r16.2.code_, r16.2.at_, r16.2.seed_.v, x2, e.Day, r16.1)
      else
        if (r14.1 == 2) = true then
          (iter (s_l1Cur_rides_L2) (r14.2.code_, r14.2.at_, r14.2.seed_.v, x2)).bind fun ((v23, v24, v25, x5) : (List UInt8) × Int × Int × (List Ride)) =>
          some (v23, v24, v25, x5, e.Day, e.Fare)
        else
          some (r14.2.code_, r14.2.at_, r14.2.seed_.v, x2, e.Day, e.Fare)).bind fun ((v15, v16, v17, x3, v18, v19) : (List UInt8) × Int × Int × (List Ride) × Int × Int) =>
    (idx x3 r13.1).bind fun e2 =>
    some ((x3.set r13.1.toNat (⟨v18, e.Time, v19⟩ : Ride)), (⟨v15, v16, (⟨v17⟩ : IK .u64)⟩ : l1Cur))
noncomputable def s_DrawDailyCaps (code : List UInt8) : Option (Prices × (List Ride)) :=
  (s_l1Cur_prices (⟨code, 0, (⟨0⟩ : IK .u64)⟩ : l1Cur)).bind fun r =>
  (s_l1Cur_rides r.2).bind fun r2 =>
  some (r.1, r2.1)
noncomputable def s_DrawCheapestTickets (code : List UInt8) : Option (Prices × (List Ride)) :=
  (s_DrawDailyCaps code).bind fun r =>
  some (r.1, r.2)
noncomputable def i_within (n : Int) (lo : Int) (hi : Int) : Option (Bool) :=
  (if (decide (lo ≤ n)) = true then some (decide (n ≤ hi)) else some false).bind fun (v : Bool) =>
  some v
noncomputable def cmp_isNaN_int (x : Int) : Option (Bool) :=
  some (x != x)
noncomputable def cmp_Less_int (x : Int) (y_ : Int) : Option (Bool) :=
  (cmp_isNaN_int x).bind fun r =>
  (if r = true then (cmp_isNaN_int y_).bind fun r1 =>
  if (!r1) = true then some true else some (decide (x < y_)) else some (decide (x < y_))).bind fun (v : Bool) =>
  some v
noncomputable def slices_IsSorted_int_L1 (x : List Int) : Int → Option (Lp (Int) (Fl (Bool) (Unit)))
  | v =>
    if (decide (0 < v)) = true then
      (idx x v).bind fun e2 =>
      (idx x (w64 (v - 1))).bind fun e3 =>
      (cmp_Less_int e2 e3).bind fun r1 =>
      if r1 = true then
        some (.dn (.ret false))
      else
        some (.nx (w64 (v - 1)))
    else
      some (.dn (.go ()))
noncomputable def slices_IsSorted_int (x : List Int) : Option (Bool) :=
  flb (iter (slices_IsSorted_int_L1 x) (w64 ((x.length : Int) - 1))) fun (_ : Unit) =>
  some true
noncomputable def i_isPrice (p : Int) : Option (Bool) :=
  (i_within p 0 10000).bind fun r =>
  some r
noncomputable def i_arePrices (p : Prices) : Option (Bool) :=
  (i_within (p.Zones.length : Int) 1 9).bind fun r =>
  (if (!r) = true then some true else (slices_IsSorted_int p.Zones).bind fun r1 =>
  if (!r1) = true then some true else (i_isPrice p.Day).bind fun r2 =>
  if (!r2) = true then some true else (i_isPrice p.Week).bind fun r3 =>
  some (!r3)).bind fun (v : Bool) =>
  if v = true then
    some false
  else
    (idx p.Zones 0).bind fun e =>
    (i_isPrice e).bind fun r4 =>
    (if r4 = true then (idx p.Zones (w64 ((p.Zones.length : Int) - 1))).bind fun e1 =>
    (i_isPrice e1).bind fun r5 =>
    some r5 else some false).bind fun (v1 : Bool) =>
    some v1
noncomputable def i_IsValidTime (t : Int) : Option (Bool) :=
  (i_within t 0 1799).bind fun r =>
  some r
noncomputable def cmp_Compare_int (x : Int) (y_ : Int) : Option (Int) :=
  (cmp_isNaN_int x).bind fun r =>
  (cmp_isNaN_int y_).bind fun r1 =>
  if r = true then
    if r1 = true then
      some 0
    else
      some (-1)
  else
    if r1 = true then
      some 1
    else
      if (decide (x < y_)) = true then
        some (-1)
      else
        if (decide (y_ < x)) = true then
          some 1
        else
          some 0
noncomputable def cmp_Or_int_L1 (vals : List Int) : Int → Option (Lp (Int) (Fl (Int) (Unit)))
  | v =>
    if (decide (v < (vals.length : Int))) = true then
      (idx vals v).bind fun e =>
      if (e != 0) = true then
        some (.dn (.ret e))
      else
        some (.nx (w64 (v + 1)))
    else
      some (.dn (.go ()))
noncomputable def cmp_Or_int (vals : List Int) : Option (Int) :=
  flb (iter (cmp_Or_int_L1 vals) 0) fun (_ : Unit) =>
  some 0
noncomputable def i_IsValidRides_L1 (list : List Ride) : Int → Option (Lp (Int) (Fl (Bool) (Unit)))
  | v =>
    if (decide (v < (list.length : Int))) = true then
      (idx list v).bind fun e =>
      (i_within e.Day 0 60).bind fun r =>
      (if (!r) = true then some true else (i_IsValidTime e.Time).bind fun r1 =>
      if (!r1) = true then some true else (i_isPrice e.Fare).bind fun r2 =>
      some (!r2)).bind fun (v1 : Bool) =>
      if v1 = true then
        some (.dn (.ret false))
      else
        (if (decide (0 < v)) = true then (idx list (w64 (v - 1))).bind fun e4 =>
        (cmp_Compare_int e4.Day e.Day).bind fun r7 =>
        (idx list (w64 (v - 1))).bind fun e5 =>
        (cmp_Compare_int e5.Time e.Time).bind fun r8 =>
        (cmp_Or_int ([r7, r8] : List Int)).bind fun r9 =>
        some (decide (0 < r9)) else some false).bind fun (v2 : Bool) =>
        if v2 = true then
          some (.dn (.ret false))
        else
          some (.nx (w64 (v + 1)))
    else
      some (.dn (.go ()))
noncomputable def i_IsValidRides (list : List Ride) : Option (Bool) :=
  if (decide (20 < (list.length : Int))) = true then
    some false
  else
    flb (iter (i_IsValidRides_L1 list) 0) fun (_ : Unit) =>
    some true
noncomputable def i_rideDays_L1 (list : List Ride) : Int × (List Int) × (List Int) → Option (Lp (Int × (List Int) × (List Int)) ((List Int) × (List Int)))
  | (v, v1, r) =>
    if (decide (v < (list.length : Int))) = true then
      ((idx list v).bind fun e =>
      (if (decide (0 ≤ (w64 ((v1.length : Int) - 1)))) = true then (idx v1 (w64 ((v1.length : Int) - 1))).bind fun e2 =>
      some (e2 == e.Day) else some false).bind fun (v3 : Bool) =>
      if v3 = true then
        (idx r (w64 ((v1.length : Int) - 1))).bind fun e5 =>
        (idx r (w64 ((v1.length : Int) - 1))).bind fun e6 =>
        some (v1, (r.set (w64 ((v1.length : Int) - 1)).toNat (w64 (e5 + e.Fare))))
      else
        (chk (v1.length + ([e.Day] : List Int).length ≤ 4294967296)).bind fun u2 =>
        (chk (r.length + ([e.Fare] : List Int).length ≤ 4294967296)).bind fun u3 =>
        some ((v1 ++ ([e.Day] : List Int)), (r ++ ([e.Fare] : List Int)))).bind fun ((v2, r1) : (List Int) × (List Int)) =>
      some (.nx ((w64 (v + 1)), v2, r1))
    else
      some (.dn (v1, r))
noncomputable def i_rideDays_L2 (p : Prices) (r2 : List Int) : Int × (List Int) → Option (Lp (Int × (List Int)) ((List Int)))
  | (v5, v6) =>
    if (decide (v5 < (r2.length : Int))) = true then
      (idx v6 v5).bind fun e7 =>
      (idx v6 v5).bind fun e8 =>
      some (.nx ((w64 (v5 + 1)), (v6.set v5.toNat (if p.Day < e7 then p.Day else e7))))
    else
      some (.dn v6)
noncomputable def i_rideDays (p : Prices) (list : List Ride) : Option ((List Int) × (List Int)) :=
  (iter (i_rideDays_L1 list) (0, ([] : List Int), ([] : List Int))).bind fun ((v4, r2) : (List Int) × (List Int)) =>
  (iter (i_rideDays_L2 p r2) (0, r2)).bind fun (r3 : List Int) =>
  some (v4, r3)
noncomputable def slices_Compare_int_L1 (s1 : List Int) (s2 : List Int) : Int → Option (Lp (Int) (Fl (Int) (Unit)))
  | v =>
    if (decide (v < (s1.length : Int))) = true then
      (idx s1 v).bind fun e =>
      if (decide ((s2.length : Int) ≤ v)) = true then
        some (.dn (.ret 1))
      else
        (idx s2 v).bind fun e2 =>
        (cmp_Compare_int e e2).bind fun r1 =>
        if (r1 != 0) = true then
          some (.dn (.ret r1))
        else
          some (.nx (w64 (v + 1)))
    else
      some (.dn (.go ()))
noncomputable def slices_Compare_int (s1 : List Int) (s2 : List Int) : Option (Int) :=
  flb (iter (slices_Compare_int_L1 s1 s2) 0) fun (_ : Unit) =>
  if (decide ((s1.length : Int) < (s2.length : Int))) = true then
    some (-1)
  else
    some 0
noncomputable def i_CheapestTickets_L1 (r2 : (List Int) × (List Int)) (sum : Int) : Int → Option (Lp (Int) (Int))
  | begin =>
    (if (decide (begin < (r2.1.length : Int))) = true then (idx r2.1 begin).bind fun e2 =>
    (idx r2.1 sum).bind fun e3 =>
    some (decide (e2 < (w64 (e3 + 7)))) else some false).bind fun (v1 : Bool) =>
    if v1 = true then
      some (.nx (w64 (begin + 1)))
    else
      some (.dn begin)
noncomputable def i_CheapestTickets_L2 (p : Prices) (r2 : (List Int) × (List Int)) : Int × (List Int) × (List (List Int)) → Option (Lp (Int × (List Int) × (List (List Int))) ((List Int) × (List (List Int))))
  | (sum, i, next) =>
    if (decide (0 ≤ sum)) = true then
      ((iter (i_CheapestTickets_L1 r2 sum) sum).bind fun (begin1 : Int) =>
      (idx r2.2 sum).bind fun e9 =>
      (idx i (w64 (sum + 1))).bind fun e10 =>
      (idx next (w64 (sum + 1))).bind fun e11 =>
      (idx i sum).bind fun e12 =>
      (idx next sum).bind fun e13 =>
      (idx (i.set sum.toNat (w64 (e9 + e10))) begin1).bind fun e15 =>
      (idx r2.1 sum).bind fun e18 =>
      (idx (next.set sum.toNat e11) begin1).bind fun e19 =>
      (chk (([e18] : List Int).length + e19.length ≤ 4294967296)).bind fun u5 =>
      (idx (i.set sum.toNat (w64 (e9 + e10))) sum).bind fun e22 =>
      (cmp_Compare_int (w64 (p.Week + e15)) e22).bind fun r6 =>
      (idx (next.set sum.toNat e11) sum).bind fun e23 =>
      (slices_Compare_int (([e18] : List Int) ++ e19) e23).bind fun r7 =>
      (cmp_Or_int ([r6, r7] : List Int)).bind fun r8 =>
      if (decide (r8 < 0)) = true then
        (idx (i.set sum.toNat (w64 (e9 + e10))) sum).bind fun e24 =>
        (idx (next.set sum.toNat e11) sum).bind fun e25 =>
        some (((i.set sum.toNat (w64 (e9 + e10))).set sum.toNat (w64 (p.Week + e15))), ((next.set sum.toNat e11).set sum.toNat (([e18] : List Int) ++ e19)))
      else
        some ((i.set sum.toNat (w64 (e9 + e10))), (next.set sum.toNat e11))).bind fun ((i1, next1) : (List Int) × (List (List Int))) =>
      some (.nx ((w64 (sum - 1)), i1, next1))
    else
      some (.dn (i, next))
noncomputable def i_CheapestTickets (p : Prices) (list : List Ride) : Option (Int × (List Int) × Bool) :=
  (i_arePrices p).bind fun r =>
  (if (!r) = true then some true else (i_IsValidRides list).bind fun r1 =>
  some (!r1)).bind fun (v : Bool) =>
  if v = true then
    some (0, ([] : List Int), false)
  else
    (i_rideDays p list).bind fun r2 =>
    (chk ((0 : Int) ≤ (w64 ((r2.1.length : Int) + 1)) ∧ (w64 ((r2.1.length : Int) + 1)) ≤ 4294967296)).bind fun u2 =>
    (chk ((0 : Int) ≤ (w64 ((r2.1.length : Int) + 1)) ∧ (w64 ((r2.1.length : Int) + 1)) ≤ 4294967296)).bind fun u3 =>
    (iter (i_CheapestTickets_L2 p r2) ((w64 ((r2.1.length : Int) - 1)), (List.replicate (w64 ((r2.1.length : Int) + 1)).toNat (0 : Int)), (List.replicate (w64 ((r2.1.length : Int) + 1)).toNat (([] : List Int) : List Int)))).bind fun ((i2, next2) : (List Int) × (List (List Int))) =>
    (idx i2 0).bind fun e28 =>
    (idx next2 0).bind fun e29 =>
    some (e28, e29, true)
noncomputable def s_l1In (x : Int) (a : Int) (b : Int) : Option (Bool) :=
  (if (decide (a ≤ x)) = true then some (decide (x ≤ b)) else some false).bind fun (v : Bool) =>
  some v
noncomputable def s_l21Prices_L1 (p : Prices) : Int → Option (Lp (Int) (Fl (Bool) (Unit)))
  | v =>
    if (decide (v < (p.Zones.length : Int))) = true then
      (idx p.Zones v).bind fun e3 =>
      (s_l1In e3 0 10000).bind fun r1 =>
      (if (!r1) = true then some true else if (decide (0 < v)) = true then (idx p.Zones (w64 (v - 1))).bind fun e4 =>
      (idx p.Zones v).bind fun e5 =>
      some (decide (e5 < e4)) else some false).bind fun (v1 : Bool) =>
      if v1 = true then
        some (.dn (.ret false))
      else
        some (.nx (w64 (v + 1)))
    else
      some (.dn (.go ()))
noncomputable def s_l21Prices (p : Prices) : Option (Bool) :=
  flb (iter (s_l21Prices_L1 p) 0) fun (_ : Unit) =>
  (s_l1In (p.Zones.length : Int) 1 9).bind fun r3 =>
  (if r3 = true then (s_l1In p.Day 0 10000).bind fun r4 =>
  if r4 = true then (s_l1In p.Week 0 10000).bind fun r5 =>
  some r5 else some false else some false).bind fun (i : Bool) =>
  some i
noncomputable def s_l4Time (t : Int) : Option (Bool) :=
  (s_l1In t 0 1799).bind fun r =>
  some r
noncomputable def s_l21Rides_L1 (list : List Ride) : Int → Option (Lp (Int) (Fl (Bool) (Unit)))
  | x =>
    if (decide (x < (list.length : Int))) = true then
      (idx list x).bind fun e =>
      (s_l1In e.Day 0 60).bind fun r =>
      (if (!r) = true then some true else (s_l4Time e.Time).bind fun r1 =>
      if (!r1) = true then some true else (s_l1In e.Fare 0 10000).bind fun r2 =>
      some (!r2)).bind fun (v : Bool) =>
      if v = true then
        some (.dn (.ret false))
      else
        (if (decide (0 < x)) = true then (idx list (w64 (x - 1))).bind fun e5 =>
        if (decide (e.Day < e5.Day)) = true then some true else (idx list (w64 (x - 1))).bind fun e6 =>
        if (e6.Day == e.Day) = true then (idx list (w64 (x - 1))).bind fun e7 =>
        some (decide (e.Time < e7.Time)) else some false else some false).bind fun (v1 : Bool) =>
        if v1 = true then
          some (.dn (.ret false))
        else
          some (.nx (w64 (x + 1)))
    else
      some (.dn (.go ()))
noncomputable def s_l21Rides (list : List Ride) : Option (Bool) :=
  flb (iter (s_l21Rides_L1 list) 0) fun (_ : Unit) =>
  some (decide ((list.length : Int) ≤ 20))
noncomputable def s_l21Days_L1 (list : List Ride) : Int × (List Int) × (List Int) → Option (Lp (Int × (List Int) × (List Int)) ((List Int) × (List Int)))
  | (i, i1, n) =>
    if (decide (i < (list.length : Int))) = true then
      ((if ((i1.length : Int) == 0) = true then some true else (idx i1 (w64 ((i1.length : Int) - 1))).bind fun e2 =>
      (idx list i).bind fun e3 =>
      some (e2 != e3.Day)).bind fun (v1 : Bool) =>
      if v1 = true then
        (idx list i).bind fun e4 =>
        (chk (i1.length + ([e4.Day] : List Int).length ≤ 4294967296)).bind fun u =>
        (chk (n.length + ([0] : List Int).length ≤ 4294967296)).bind fun u1 =>
        some ((w64 ((i1.length : Int) + 1)), (i1 ++ ([e4.Day] : List Int)), (n ++ ([0] : List Int)))
      else
        some ((i1.length : Int), i1, n)).bind fun ((v, i2, n1) : Int × (List Int) × (List Int)) =>
      (idx n1 (w64 (v - 1))).bind fun e8 =>
      (idx list i).bind fun e9 =>
      (idx n1 (w64 (v - 1))).bind fun e10 =>
      some (.nx ((w64 (i + 1)), i2, (n1.set (w64 (v - 1)).toNat (w64 (e8 + e9.Fare)))))
    else
      some (.dn (i1, n))
noncomputable def s_l21Days_L2 (p : Prices) : Int × (List Int) → Option (Lp (Int × (List Int)) ((List Int)))
  | (v2, n3) =>
    if (decide (v2 < (n3.length : Int))) = true then
      (idx n3 v2).bind fun e13 =>
      (s_l1Least e13 p.Day).bind fun r1 =>
      (idx n3 v2).bind fun e14 =>
      some (.nx ((w64 (v2 + 1)), (n3.set v2.toNat r1)))
    else
      some (.dn n3)
noncomputable def s_l21Days (p : Prices) (list : List Ride) : Option ((List Int) × (List Int)) :=
  (iter (s_l21Days_L1 list) (0, ([] : List Int), ([] : List Int))).bind fun ((i3, n2) : (List Int) × (List Int)) =>
  (iter (s_l21Days_L2 p) (0, n2)).bind fun (n4 : List Int) =>
  some (i3, n4)
noncomputable def s_l21Next_L1 (days : List Int) (i : Int) : Int → Option (Lp (Int) (Int))
  | v =>
    (if (decide (v < (days.length : Int))) = true then (idx days v).bind fun e2 =>
    (idx days i).bind fun e3 =>
    some (decide (e2 < (w64 (e3 + 7)))) else some false).bind fun (v1 : Bool) =>
    if v1 = true then
      some (.nx (w64 (v + 1)))
    else
      some (.dn v)
noncomputable def s_l21Next (days : List Int) (i : Int) : Option (Int) :=
  (iter (s_l21Next_L1 days i) i).bind fun (v2 : Int) =>
  some v2
noncomputable def s_l21Plain_L1 (sums : List Int) : Int × Int → Option (Lp (Int × Int) (Int))
  | (v, v1) =>
    if (decide (v1 < (sums.length : Int))) = true then
      (idx sums v1).bind fun e =>
      some (.nx ((w64 (v + e)), (w64 (v1 + 1))))
    else
      some (.dn v)
noncomputable def s_l21Plain (sums : List Int) (least : List Int) (i : Int) : Option (Bool) :=
  (iter (s_l21Plain_L1 sums) (0, i)).bind fun (v2 : Int) =>
  (idx least i).bind fun e1 =>
  some (v2 == e1)
noncomputable def s_CheapestTickets_L1 (p : Prices) (r2 : (List Int) × (List Int)) : Int × (List Int) → Option (Lp (Int × (List Int)) ((List Int)))
  | (v1, i) =>
    if (decide (0 ≤ v1)) = true then
      (idx r2.2 v1).bind fun e4 =>
      (idx i (w64 (v1 + 1))).bind fun e5 =>
      (s_l21Next r2.1 v1).bind fun r5 =>
      (idx i r5).bind fun e6 =>
      (s_l1Least (w64 (e4 + e5)) (w64 (p.Week + e6))).bind fun r6 =>
      (idx i v1).bind fun e7 =>
      some (.nx ((w64 (v1 - 1)), (i.set v1.toNat r6)))
    else
      some (.dn i)
noncomputable def s_CheapestTickets_L2 (p : Prices) (r2 : (List Int) × (List Int)) (i1 : List Int) : Int × (List Int) → Option (Lp (Int × (List Int)) ((List Int)))
  | (v2, sums1) =>
    if (decide (v2 < (r2.1.length : Int))) = true then
      (s_l21Plain r2.2 i1 v2).bind fun r7 =>
      if r7 = true then
        some (.dn sums1)
      else
        (s_l21Next r2.1 v2).bind fun r9 =>
        (idx i1 r9).bind fun e10 =>
        (idx i1 v2).bind fun e11 =>
        if ((w64 (p.Week + e10)) == e11) = true then
          (idx r2.1 v2).bind fun e12 =>
          (chk (sums1.length + ([e12] : List Int).length ≤ 4294967296)).bind fun u1 =>
          (s_l21Next r2.1 v2).bind fun r10 =>
          some (.nx (r10, (sums1 ++ ([e12] : List Int))))
        else
          some (.nx ((w64 (v2 + 1)), sums1))
    else
      some (.dn sums1)
noncomputable def s_CheapestTickets (p : Prices) (list : List Ride) : Option (Int × (List Int) × Bool) :=
  (s_l21Prices p).bind fun r =>
  (if (!r) = true then some true else (s_l21Rides list).bind fun r1 =>
  some (!r1)).bind fun (v : Bool) =>
  if v = true then
    some (0, ([] : List Int), false)
  else
    (s_l21Days p list).bind fun r2 =>
    (chk ((0 : Int) ≤ (w64 ((r2.1.length : Int) + 1)) ∧ (w64 ((r2.1.length : Int) + 1)) ≤ 4294967296)).bind fun u =>
    (iter (s_CheapestTickets_L1 p r2) ((w64 ((r2.1.length : Int) - 1)), (List.replicate (w64 ((r2.1.length : Int) + 1)).toNat (0 : Int)))).bind fun (i1 : List Int) =>
    ((iter (s_CheapestTickets_L2 p r2 i1) (0, ([] : List Int))).bind fun (sums2 : List Int) =>
    some sums2).bind fun (sums : List Int) =>
    (idx i1 0).bind fun e13 =>
    some (e13, sums, true)
noncomputable def v_rInts_L1 (a : List Int) (b : List Int) : Int → Option (Lp (Int) (Fl (Bool) (Unit)))
  | v =>
    if (decide (v < (a.length : Int))) = true then
      (idx a v).bind fun e2 =>
      (idx b v).bind fun e3 =>
      if (e2 != e3) = true then
        some (.dn (.ret false))
      else
        some (.nx (w64 (v + 1)))
    else
      some (.dn (.go ()))
noncomputable def v_rInts (a : List Int) (b : List Int) : Option (Bool) :=
  if ((a.length : Int) != (b.length : Int)) = true then
    some false
  else
    flb (iter (v_rInts_L1 a b) 0) fun (_ : Unit) =>
    some true
noncomputable def i_total_L1 (list : List Int) : Int × Int → Option (Lp (Int × Int) (Int))
  | (v, v1) =>
    if (decide (v1 < (list.length : Int))) = true then
      (idx list v1).bind fun e =>
      some (.nx ((w64 (v + e)), (w64 (v1 + 1))))
    else
      some (.dn v)
noncomputable def i_total (list : List Int) : Option (Int) :=
  (iter (i_total_L1 list) (0, 0)).bind fun (v2 : Int) =>
  some v2
noncomputable def i_DailyCaps (p : Prices) (list : List Ride) : Option ((List Int) × Int × Bool) :=
  (i_arePrices p).bind fun r =>
  (if (!r) = true then some true else (i_IsValidRides list).bind fun r1 =>
  some (!r1)).bind fun (v : Bool) =>
  if v = true then
    some (([] : List Int), 0, false)
  else
    (i_rideDays p list).bind fun r2 =>
    (i_total r2.2).bind fun r3 =>
    some (r2.2, r3, true)
noncomputable def s_DailyCaps_L1 (r2 : (List Int) × (List Int)) : Int × Int → Option (Lp (Int × Int) (Int))
  | (v1, v2) =>
    if (decide (v2 < (r2.2.length : Int))) = true then
      (idx r2.2 v2).bind fun e =>
      some (.nx ((w64 (v1 + e)), (w64 (v2 + 1))))
    else
      some (.dn v1)
noncomputable def s_DailyCaps (p : Prices) (list : List Ride) : Option ((List Int) × Int × Bool) :=
  (s_l21Prices p).bind fun r =>
  (if (!r) = true then some true else (s_l21Rides list).bind fun r1 =>
  some (!r1)).bind fun (v : Bool) =>
  if v = true then
    some (([] : List Int), 0, false)
  else
    (s_l21Days p list).bind fun r2 =>
    (iter (s_DailyCaps_L1 r2) (0, 0)).bind fun (v3 : Int) =>
    some (r2.2, v3, true)
noncomputable def v_rSum_L1 (list : List Int) : Int × Int → Option (Lp (Int × Int) (Int))
  | (i, v) =>
    if (decide (v < (list.length : Int))) = true then
      (idx list v).bind fun e =>
      some (.nx ((w64 (i + e)), (w64 (v + 1))))
    else
      some (.dn i)
noncomputable def v_rSum (list : List Int) : Option (Int) :=
  (iter (v_rSum_L1 list) (0, 0)).bind fun (i1 : Int) =>
  some i1
noncomputable def s_DrawFreeTransfers (code : List UInt8) : Option ((List Ride) × Int) :=
  (s_l1Cur_rides (⟨code, 0, (⟨0⟩ : IK .u64)⟩ : l1Cur)).bind fun r =>
  (s_l1Cur_pick r.2 24).bind fun r1 =>
  (chk ((11 : Int) ≠ 0)).bind fun u =>
  (chk ((0 : Int) ≤ 0 ∧ 0 ≤ (w64 (5 + (w64 (r1.1.tdiv 11)))) ∧ (w64 (5 + (w64 (r1.1.tdiv 11)))) ≤ (([0, 30, 60, 90, 1799, (-1), 1800] : List Int).length : Int))).bind fun u1 =>
  (s_l1Cur_among r1.2 ((([0, 30, 60, 90, 1799, (-1), 1800] : List Int).take (w64 (5 + (w64 (r1.1.tdiv 11)))).toNat).drop (0 : Int).toNat)).bind fun r2 =>
  some (r.1, r2.1)
noncomputable def slices_Clone_Ride (s : List Ride) : Option ((List Ride)) :=
  (chk (([] : List Ride).length + s.length ≤ 4294967296)).bind fun u =>
  some s
noncomputable def i_FreeTransfers_L1 (minutes : Int) (r2 : (List Ride)) : Int × Int × (List Ride) → Option (Lp (Int × Int × (List Ride)) ((List Ride)))
  | (r3, v1, v2) =>
    if (decide (v1 < (r2.length : Int))) = true then
      ((idx v2 v1).bind fun e =>
      (if (decide (0 ≤ r3)) = true then (idx v2 r3).bind fun e3 =>
      if (e3.Day == e.Day) = true then (idx v2 r3).bind fun e4 =>
      some (decide ((w64 (e.Time - e4.Time)) ≤ minutes)) else some false else some false).bind fun (v4 : Bool) =>
      if v4 = true then
        (idx v2 v1).bind fun e5 =>
        some (r3, (v2.set v1.toNat (⟨e5.Day, e5.Time, 0⟩ : Ride)))
      else
        some (v1, v2)).bind fun ((r4, v3) : Int × (List Ride)) =>
      some (.nx (r4, (w64 (v1 + 1)), v3))
    else
      some (.dn v2)
noncomputable def i_FreeTransfers (list : List Ride) (minutes : Int) : Option ((List Ride) × Bool) :=
  (i_IsValidRides list).bind fun r =>
  (if (!r) = true then some true else (i_IsValidTime minutes).bind fun r1 =>
  some (!r1)).bind fun (v : Bool) =>
  if v = true then
    some (([] : List Ride), false)
  else
    (slices_Clone_Ride list).bind fun r2 =>
    (iter (i_FreeTransfers_L1 minutes r2) ((-1), 0, r2)).bind fun (i : List Ride) =>
    some (i, true)
noncomputable def s_FreeTransfers_L1 (list : List Ride) (minutes : Int) : Int × Int × (List Ride) → Option (Lp (Int × Int × (List Ride)) ((List Ride)))
  | (x, v1, i) =>
    if (decide (v1 < (list.length : Int))) = true then
      (idx list v1).bind fun e =>
      ((if (decide (0 < v1)) = true then (idx list x).bind fun e3 =>
      if (e3.Day == e.Day) = true then (idx list x).bind fun e4 =>
      some (decide ((w64 (e.Time - e4.Time)) ≤ minutes)) else some false else some false).bind fun (v3 : Bool) =>
      if v3 = true then
        some (x, 0)
      else
        some (v1, e.Fare)).bind fun ((x1, v2) : Int × Int) =>
      (chk (i.length + ([(⟨e.Day, e.Time, v2⟩ : Ride)] : List Ride).length ≤ 4294967296)).bind fun u =>
      some (.nx (x1, (w64 (v1 + 1)), (i ++ ([(⟨e.Day, e.Time, v2⟩ : Ride)] : List Ride))))
    else
      some (.dn i)
noncomputable def s_FreeTransfers (list : List Ride) (minutes : Int) : Option ((List Ride) × Bool) :=
  (s_l21Rides list).bind fun r =>
  (if (!r) = true then some true else (s_l1In minutes 0 1799).bind fun r1 =>
  some (!r1)).bind fun (v : Bool) =>
  if v = true then
    some (([] : List Ride), false)
  else
    (iter (s_FreeTransfers_L1 list minutes) (0, 0, ([] : List Ride))).bind fun (i1 : List Ride) =>
    some (i1, true)
noncomputable def v_FnTickets_L1 (r1 : Prices × (List Ride)) : Int × Int → Option (Lp (Int × Int) (Int))
  | (i, i1) =>
    if (decide (i1 < (r1.2.length : Int))) = true then
      (idx r1.2 i1).bind fun e =>
      some (.nx ((w64 (i + e.Fare)), (w64 (i1 + 1))))
    else
      some (.dn i)
noncomputable def v_FnTickets_L2 (r2 : Int × (List Int) × Bool) : Int → Option (Lp (Int) (Fl (Fl (Bool) (Unit)) (Unit)))
  | rides =>
    if (decide (rides < (r2.2.1.length : Int))) = true then
      (idx r2.2.1 rides).bind fun e4 =>
      (idx r2.2.1 (w64 (rides - 1))).bind fun e5 =>
      if (decide (e4 < (w64 (e5 + 7)))) = true then
        some (.dn (.ret (.ret false)))
      else
        some (.nx (w64 (rides + 1)))
    else
      some (.dn (.go ()))
noncomputable def v_FnTickets_L3 (r12 : (List Ride) × Int) (r13 : (List Ride) × Bool) (r14 : (List Ride) × Bool) : Int → Option (Lp (Int) (Fl (Bool) (Unit)))
  | v5 =>
    if (decide (v5 < (r13.1.length : Int))) = true then
      (idx r13.1 v5).bind fun e13 =>
      (idx r14.1 v5).bind fun e14 =>
      (if (!((e13.Day == e14.Day) && ((e13.Time == e14.Time) && ((e13.Fare == e14.Fare) && true)))) = true then some true else (idx r13.1 v5).bind fun e15 =>
      if (e15.Fare != 0) = true then (idx r13.1 v5).bind fun e16 =>
      (idx r12.1 v5).bind fun e17 =>
      some (e16.Fare != e17.Fare) else some false).bind fun (v6 : Bool) =>
      if v6 = true then
        some (.dn (.ret false))
      else
        some (.nx (w64 (v5 + 1)))
    else
      some (.dn (.go ()))
noncomputable def v_FnTickets (code : List UInt8) : Option (Bool) :=
  (v_rBig code).bind fun r =>
  if r = true then
    some true
  else
    (s_DrawCheapestTickets code).bind fun r1 =>
    (i_CheapestTickets r1.1 r1.2).bind fun r2 =>
    (s_CheapestTickets r1.1 r1.2).bind fun r3 =>
    (if (r2.1 != r3.1) = true then some true else if (!(r2.2.2 == r3.2.2)) = true then some true else (v_rInts r2.2.1 r3.2.1).bind fun r4 =>
    some (!r4)).bind fun (v : Bool) =>
    if v = true then
      some false
    else
      (i_DailyCaps r1.1 r1.2).bind fun r5 =>
      (s_DailyCaps r1.1 r1.2).bind fun r6 =>
      (if (!(r5.2.2 == r6.2.2)) = true then some true else (v_rInts r5.1 r6.1).bind fun r7 =>
      if (!r7) = true then some true else some (!(r5.2.2 == r2.2.2))).bind fun (v1 : Bool) =>
      if v1 = true then
        some false
      else
        flb (if r2.2.2 = true then
          (iter (v_FnTickets_L1 r1) (0, 0)).bind fun (i2 : Int) =>
          (if (decide (r5.2.1 < r2.1)) = true then some true else if (decide (i2 < r5.2.1)) = true then some true else (v_rSum r5.1).bind fun r8 =>
          if (r8 != r5.2.1) = true then some true else some (decide (r2.1 < (w64 ((r2.2.1.length : Int) * r1.1.Week))))).bind fun (v2 : Bool) =>
          if v2 = true then
            some (.ret false)
          else
            flb (iter (v_FnTickets_L2 r2) 1) fun (_ : Unit) =>
            some (.go ())
        else
          some (.go ())) fun (_ : Unit) =>
        (s_DrawFreeTransfers code).bind fun r12 =>
        (i_FreeTransfers r12.1 r12.2).bind fun r13 =>
        (s_FreeTransfers r12.1 r12.2).bind fun r14 =>
        (if (!(r13.2 == r14.2)) = true then some true else if ((r13.1.length : Int) != (r14.1.length : Int)) = true then some true else if r13.2 = true then (i_IsValidRides r13.1).bind fun r15 =>
        some (!r15) else some false).bind fun (v4 : Bool) =>
        if v4 = true then
          some false
        else
          flb (iter (v_FnTickets_L3 r12 r13 r14) 0) fun (_ : Unit) =>
          some true
end Go.Proofs.Ytmpgpfekekobfaa
