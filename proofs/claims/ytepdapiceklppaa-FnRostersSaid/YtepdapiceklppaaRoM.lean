/- Models of the functions that the law reaches: plain Lean; none where the function would panic or not end. Made by program (dec.py). -/
import Derived.Test.YtepdapiceklppaaAbEx5
namespace Go.Proofs.Ytepdapiceklppaa
open Go Go.Ab
set_option maxRecDepth 100000
set_option maxHeartbeats 4000000
set_option linter.unusedVariables false
set_option linter.unusedSimpArgs false
structure l1Cur where
  code_ : List UInt8
  at_ : Int
  seed_ : IK .u64
instance enc_l1Cur : Enc l1Cur := ⟨3, fun x => .agg [Enc.e x.code_, .sc (.int .i64 x.at_), .sc (.int .u64 x.seed_.v)], fun a b h => by
  simp only [D.agg.injEq, List.cons.injEq, and_true] at h
  obtain ⟨a1, a2, a3⟩ := a
  obtain ⟨b1, b2, b3⟩ := b
  obtain ⟨h1, h2, h3⟩ := h
  have q1 := Enc.inj (α := List UInt8) a1 b1 h1
  have q2 := Enc.inj (α := Int) a2 b2 h2
  have q3 := Enc.inj (α := IK .u64) a3 b3 h3
  subst q1; subst q2; subst q3; rfl⟩
structure Span where
  From : Int
  To : Int
instance enc_Span : Enc Span := ⟨2, fun x => .agg [.sc (.int .i64 x.From), .sc (.int .i64 x.To)], fun a b h => by
  simp only [D.agg.injEq, List.cons.injEq, and_true] at h
  obtain ⟨a1, a2⟩ := a
  obtain ⟨b1, b2⟩ := b
  obtain ⟨h1, h2⟩ := h
  have q1 := Enc.inj (α := Int) a1 b1 h1
  have q2 := Enc.inj (α := Int) a2 b2 h2
  subst q1; subst q2; rfl⟩
structure RosterRules where
  MinRest : Int
  MaxRow : Int
  MaxWeek : Int
instance enc_RosterRules : Enc RosterRules := ⟨3, fun x => .agg [.sc (.int .i64 x.MinRest), .sc (.int .i64 x.MaxRow), .sc (.int .i64 x.MaxWeek)], fun a b h => by
  simp only [D.agg.injEq, List.cons.injEq, and_true] at h
  obtain ⟨a1, a2, a3⟩ := a
  obtain ⟨b1, b2, b3⟩ := b
  obtain ⟨h1, h2, h3⟩ := h
  have q1 := Enc.inj (α := Int) a1 b1 h1
  have q2 := Enc.inj (α := Int) a2 b2 h2
  have q3 := Enc.inj (α := Int) a3 b3 h3
  subst q1; subst q2; subst q3; rfl⟩
structure Roster where
  Shifts : List Span
  Rules : RosterRules
  Plan : List (List Int)
instance enc_Roster : Enc Roster := ⟨5, fun x => .agg [Enc.e x.Shifts, .sc (.int .i64 x.Rules.MinRest), .sc (.int .i64 x.Rules.MaxRow), .sc (.int .i64 x.Rules.MaxWeek), Enc.e x.Plan], fun a b h => by
  simp only [D.agg.injEq, List.cons.injEq, and_true] at h
  obtain ⟨a1, ⟨a2, a3, a4⟩, a5⟩ := a
  obtain ⟨b1, ⟨b2, b3, b4⟩, b5⟩ := b
  obtain ⟨h1, h2, h3, h4, h5⟩ := h
  have q1 := Enc.inj (α := List Span) a1 b1 h1
  have q2 := Enc.inj (α := Int) a2 b2 h2
  have q3 := Enc.inj (α := Int) a3 b3 h3
  have q4 := Enc.inj (α := Int) a4 b4 h4
  have q5 := Enc.inj (α := List (List Int)) a5 b5 h5
  subst q1; subst q2; subst q3; subst q4; subst q5; rfl⟩
instance : FlatEnc Span := ⟨fun _ => flatDB_ok rfl⟩
instance : FlatEnc RosterRules := ⟨fun _ => flatDB_ok rfl⟩
noncomputable def v_rBig (code : List UInt8) : Option (Bool) :=
  some (decide (65536 < (code.length : Int)))
noncomputable def s_l1Cur_next (c : l1Cur) : Option (Int × l1Cur) :=
  (if (decide (c.at_ < (c.code_.length : Int))) = true then
    (idx c.code_ c.at_).bind fun e1 =>
    some (w64 ((e1.toNat : Int)))
  else
    some 0).bind fun (v : Int) =>
  if (decide ((w64 (c.at_ + 1)) ≤ (c.code_.length : Int))) = true then
    some (v, (⟨c.code_, (w64 (c.at_ + 1)), (⟨(IntKind.u64.wrap ((IntKind.u64.wrap ((IntKind.u64.wrap (c.seed_.v * 6364136223846793005)) + (IntKind.u64.wrap (v)))) + 900900))⟩ : IK .u64)⟩ : l1Cur))
  else
    (chk ((0 : Int) ≤ 40)).bind fun u =>
    some ((w64 ((IntKind.u64.wrap ((BitVec.ofInt (IntKind.u64).bits ((IntKind.u64.wrap ((IntKind.u64.wrap ((IntKind.u64.wrap (c.seed_.v * 6364136223846793005)) + (IntKind.u64.wrap (v)))) + 900900)).fdiv (2 ^ (min (40 : Int).toNat (IntKind.u64).bits))) &&& BitVec.ofInt (IntKind.u64).bits 255).toNat : Int)))), (⟨c.code_, (w64 (c.at_ + 1)), (⟨(IntKind.u64.wrap ((IntKind.u64.wrap ((IntKind.u64.wrap (c.seed_.v * 6364136223846793005)) + (IntKind.u64.wrap (v)))) + 900900))⟩ : IK .u64)⟩ : l1Cur))
noncomputable def s_l1Cur_pick (c : l1Cur) (n : Int) : Option (Int × l1Cur) :=
  if (decide (n ≤ 1)) = true then
    some (0, c)
  else
    (s_l1Cur_next c).bind fun r =>
    (if (decide (200 < n)) = true then
      (s_l1Cur_next r.2).bind fun r1 =>
      some ((w64 ((w64 (r.1 * 256)) + r1.1)), r1.2.code_, r1.2.at_, r1.2.seed_.v)
    else
      some (r.1, r.2.code_, r.2.at_, r.2.seed_.v)).bind fun ((v, v1, v2, v3) : Int × (List UInt8) × Int × Int) =>
    (chk ((n : Int) ≠ 0)).bind fun u =>
    some ((v.tmod n), (⟨v1, v2, (⟨v3⟩ : IK .u64)⟩ : l1Cur))
noncomputable def s_l1Cur_among (c : l1Cur) (list : List Int) : Option (Int × l1Cur) :=
  (s_l1Cur_pick c (list.length : Int)).bind fun r =>
  (idx list r.1).bind fun e =>
  some (e, r.2)
noncomputable def s_l1Cur_one (c : l1Cur) (n : Int) : Option (Bool × l1Cur) :=
  (s_l1Cur_pick c n).bind fun r =>
  some ((r.1 == 0), r.2)
noncomputable def s_l1Cur_among_w (c : l1Cur) (list : List Int) : Option (Int × l1Cur) :=
  (s_l1Cur_pick c (list.length : Int)).bind fun r =>
  (idx list r.1).bind fun e =>
  some (e, r.2)
noncomputable def s_l1Cur_roster_L1 : Int × (List UInt8) × Int × Int × (List Span) → Option (Lp (Int × (List UInt8) × Int × Int × (List Span)) ((List UInt8) × Int × Int × (List Span)))
  | (drivers, v, v1, v2, v3) =>
    if (decide (0 < drivers)) = true then
      (s_l1Cur_pick (⟨v, v1, (⟨v2⟩ : IK .u64)⟩ : l1Cur) (([(⟨300, 780⟩ : Span), (⟨360, 840⟩ : Span), (⟨720, 1200⟩ : Span), (⟨960, 1440⟩ : Span), (⟨1200, 1700⟩ : Span), (⟨540, 540⟩ : Span)] : List Span).length : Int)).bind fun r5 =>
      (idx ([(⟨300, 780⟩ : Span), (⟨360, 840⟩ : Span), (⟨720, 1200⟩ : Span), (⟨960, 1440⟩ : Span), (⟨1200, 1700⟩ : Span), (⟨540, 540⟩ : Span)] : List Span) r5.1).bind fun e1 =>
      (chk (v3.length + ([e1] : List Span).length ≤ 4294967296)).bind fun u1 =>
      some (.nx ((w64 (drivers - 1)), r5.2.code_, r5.2.at_, r5.2.seed_.v, (v3 ++ ([e1] : List Span))))
    else
      some (.dn (v, v1, v2, v3))
noncomputable def s_l1Cur_roster_L2 (v7 : List Span) (r7 : Int × l1Cur) : Int × (List UInt8) × Int × Int × (List Int) → Option (Lp (Int × (List UInt8) × Int × Int × (List Int)) ((List UInt8) × Int × Int × (List Int)))
  | (s1, v12, v13, v14, d) =>
    if (decide (s1 < (w64 (1 + r7.1)))) = true then
      ((s_l1Cur_one (⟨v12, v13, (⟨v14⟩ : IK .u64)⟩ : l1Cur) 2).bind fun r8 =>
      if r8.1 = true then
        (s_l1Cur_pick r8.2 (v7.length : Int)).bind fun r9 =>
        some (r9.1, r9.2.code_, r9.2.at_, r9.2.seed_.v)
      else
        some ((-1), r8.2.code_, r8.2.at_, r8.2.seed_.v)).bind fun ((v15, v16, v17, v18) : Int × (List UInt8) × Int × Int) =>
      (chk (d.length + ([v15] : List Int).length ≤ 4294967296)).bind fun u2 =>
      some (.nx ((w64 (s1 + 1)), v16, v17, v18, (d ++ ([v15] : List Int))))
    else
      some (.dn (v12, v13, v14, d))
noncomputable def s_l1Cur_roster_L3 (v7 : List Span) (r6 : Int × l1Cur) (r7 : Int × l1Cur) : Int × (List UInt8) × Int × Int × (List (List Int)) → Option (Lp (Int × (List UInt8) × Int × Int × (List (List Int))) ((List UInt8) × Int × Int × (List (List Int))))
  | (list, v8, v9, v10, v11) =>
    if (decide (list < (w64 (1 + r6.1)))) = true then
      (iter (s_l1Cur_roster_L2 v7 r7) (0, v8, v9, v10, ([] : List Int))).bind fun ((v19, v20, v21, d1) : (List UInt8) × Int × Int × (List Int)) =>
      (chk (v11.length + ([d1] : List (List Int)).length ≤ 4294967296)).bind fun u3 =>
      some (.nx ((w64 (list + 1)), v19, v20, v21, (v11 ++ ([d1] : List (List Int)))))
    else
      some (.dn (v8, v9, v10, v11))
noncomputable def s_l1Cur_roster (c : l1Cur) : Option (Roster × l1Cur) :=
  (s_l1Cur_among_w c ([0, 480, 600, 660] : List Int)).bind fun r =>
  (s_l1Cur_among_w r.2 ([2, 3, 5, 6, 14] : List Int)).bind fun r1 =>
  (s_l1Cur_among_w r1.2 ([10080, 2400, 1500, 3000] : List Int)).bind fun r2 =>
  (s_l1Cur_pick r2.2 4).bind fun r3 =>
  (iter (s_l1Cur_roster_L1) ((w64 (1 + r3.1)), r3.2.code_, r3.2.at_, r3.2.seed_.v, ([] : List Span))).bind fun ((v4, v5, v6, v7) : (List UInt8) × Int × Int × (List Span)) =>
  (s_l1Cur_pick (⟨v4, v5, (⟨v6⟩ : IK .u64)⟩ : l1Cur) 4).bind fun r6 =>
  (s_l1Cur_pick r6.2 9).bind fun r7 =>
  (iter (s_l1Cur_roster_L3 v7 r6 r7) (0, r7.2.code_, r7.2.at_, r7.2.seed_.v, ([] : List (List Int)))).bind fun ((v22, v23, v24, v25) : (List UInt8) × Int × Int × (List (List Int))) =>
  ((s_l1Cur_pick (⟨v22, v23, (⟨v24⟩ : IK .u64)⟩ : l1Cur) 40).bind fun r10 =>
  if (r10.1 == 0) = true then
    (idx v25 0).bind fun e4 =>
    (chk (e4.length + ([(-1)] : List Int).length ≤ 4294967296)).bind fun u5 =>
    (idx v25 0).bind fun e5 =>
    some (r10.2.code_, r10.2.at_, r10.2.seed_.v, r.1, r1.1, (v25.set (0 : Int).toNat (e4 ++ ([(-1)] : List Int))))
  else
    if (r10.1 == 1) = true then
      (idx v25 (w64 ((w64 (1 + r6.1)) - 1))).bind fun e8 =>
      (s_l1Cur_among_w r10.2 ([(-2), (v7.length : Int)] : List Int)).bind fun r12 =>
      (idx e8 0).bind fun e9 =>
      some (r12.2.code_, r12.2.at_, r12.2.seed_.v, r.1, r1.1, (v25.set (w64 ((w64 (1 + r6.1)) - 1)).toNat (e8.set (0 : Int).toNat r12.1)))
    else
      if (r10.1 == 2) = true then
        (s_l1Cur_among_w r10.2 ([(-1), 1440, 1441] : List Int)).bind fun r13 =>
        some (r13.2.code_, r13.2.at_, r13.2.seed_.v, r13.1, r1.1, v25)
      else
        if (r10.1 == 3) = true then
          (s_l1Cur_among_w r10.2 ([0, 15] : List Int)).bind fun r14 =>
          some (r14.2.code_, r14.2.at_, r14.2.seed_.v, r.1, r14.1, v25)
        else
          some (r10.2.code_, r10.2.at_, r10.2.seed_.v, r.1, r1.1, v25)).bind fun ((v26, v27, v28, v29, v30, v31) : (List UInt8) × Int × Int × Int × Int × (List (List Int))) =>
  some ((⟨v7, (⟨v29, v30, r2.1⟩ : RosterRules), v31⟩ : Roster), (⟨v26, v27, (⟨v28⟩ : IK .u64)⟩ : l1Cur))
noncomputable def s_DrawMissingShifts (code : List UInt8) : Option (Roster × Int) :=
  (s_l1Cur_roster (⟨code, 0, (⟨0⟩ : IK .u64)⟩ : l1Cur)).bind fun r =>
  (idx r.1.Plan 0).bind fun e1 =>
  (s_l1Cur_pick r.2 (w64 ((e1.length : Int) + 1))).bind fun r3 =>
  (s_l1Cur_pick r3.2 12).bind fun r4 =>
  (chk ((11 : Int) ≠ 0)).bind fun u1 =>
  some ((⟨r.1.Shifts, r.1.Rules, r.1.Plan⟩ : Roster), (w64 (r3.1 - (w64 (r4.1.tdiv 11)))))
noncomputable def s_DrawFillDay (code : List UInt8) : Option (Roster × Int) :=
  (s_DrawMissingShifts code).bind fun r =>
  some ((⟨r.1.Shifts, r.1.Rules, r.1.Plan⟩ : Roster), r.2)
noncomputable def i_within (n : Int) (lo : Int) (hi : Int) : Option (Bool) :=
  (if (decide (lo ≤ n)) = true then some (decide (n ≤ hi)) else some false).bind fun (v : Bool) =>
  some v
noncomputable def i_IsValidTime (t : Int) : Option (Bool) :=
  (i_within t 0 1799).bind fun r =>
  some r
noncomputable def i_isSpan (s : Span) : Option (Bool) :=
  (i_IsValidTime s.From).bind fun r =>
  (if r = true then (i_IsValidTime s.To).bind fun r1 =>
  if r1 = true then some (decide (s.From ≤ s.To)) else some false else some false).bind fun (v : Bool) =>
  some v
noncomputable def i_areSpans_L1 (list : List Span) : Int → Option (Lp (Int) (Fl (Bool) (Unit)))
  | v =>
    if (decide (v < (list.length : Int))) = true then
      (idx list v).bind fun e =>
      (i_isSpan e).bind fun r =>
      if (!r) = true then
        some (.dn (.ret false))
      else
        some (.nx (w64 (v + 1)))
    else
      some (.dn (.go ()))
noncomputable def i_areSpans (list : List Span) : Option (Bool) :=
  if (decide (20 < (list.length : Int))) = true then
    some false
  else
    flb (iter (i_areSpans_L1 list) 0) fun (_ : Unit) =>
    some true
noncomputable def i_IsValidRoster_L1 (r : Roster) (e1 : List Int) : Int → Option (Lp (Int) (Fl (Lp (Int) (Fl (Bool) (Unit))) (Unit)))
  | v3 =>
    if (decide (v3 < (e1.length : Int))) = true then
      (idx e1 v3).bind fun e4 =>
      (i_within e4 (-1) (w64 ((r.Shifts.length : Int) - 1))).bind fun r9 =>
      if (!r9) = true then
        some (.dn (.ret (.dn (.ret false))))
      else
        some (.nx (w64 (v3 + 1)))
    else
      some (.dn (.go ()))
noncomputable def i_IsValidRoster_L2 (r : Roster) : Int → Option (Lp (Int) (Fl (Bool) (Unit)))
  | v2 =>
    if (decide (v2 < (r.Plan.length : Int))) = true then
      (idx r.Plan v2).bind fun e1 =>
      (idx r.Plan 0).bind fun e2 =>
      if ((e1.length : Int) != (e2.length : Int)) = true then
        some (.dn (.ret false))
      else
        flb (iter (i_IsValidRoster_L1 r e1) 0) fun (_ : Unit) =>
        some (.nx (w64 (v2 + 1)))
    else
      some (.dn (.go ()))
noncomputable def i_IsValidRoster (r : Roster) : Option (Bool) :=
  (i_within (r.Shifts.length : Int) 1 8).bind fun r1 =>
  (if (!r1) = true then some true else (i_areSpans r.Shifts).bind fun r2 =>
  if (!r2) = true then some true else (i_within r.Rules.MinRest 0 1440).bind fun r3 =>
  if (!r3) = true then some true else (i_within r.Rules.MaxRow 1 14).bind fun r4 =>
  if (!r4) = true then some true else (i_within r.Rules.MaxWeek 0 10080).bind fun r5 =>
  some (!r5)).bind fun (v : Bool) =>
  if v = true then
    some false
  else
    (i_within (r.Plan.length : Int) 1 6).bind fun r6 =>
    (if (!r6) = true then some true else (idx r.Plan 0).bind fun e =>
    (i_within (e.length : Int) 1 14).bind fun r7 =>
    some (!r7)).bind fun (v1 : Bool) =>
    if v1 = true then
      some false
    else
      flb (iter (i_IsValidRoster_L2 r) 0) fun (_ : Unit) =>
      some true
noncomputable def i_isRosterDay (r : Roster) (day : Int) : Option (Bool) :=
  (if (decide (0 ≤ day)) = true then (idx r.Plan 0).bind fun e =>
  some (decide (day < (e.length : Int))) else some false).bind fun (v : Bool) =>
  some v
noncomputable def slices_Clone_Span (s : List Span) : Option ((List Span)) :=
  (chk (([] : List Span).length + s.length ≤ 4294967296)).bind fun u =>
  some s
noncomputable def slices_Clone_int (s : List Int) : Option ((List Int)) :=
  (chk (([] : List Int).length + s.length ≤ 4294967296)).bind fun u =>
  some s
noncomputable def i_copyLists_L1 (lists : List (List Int)) : Int × (List (List Int)) → Option (Lp (Int × (List (List Int))) ((List (List Int))))
  | (v, i) =>
    if (decide (v < (lists.length : Int))) = true then
      (idx lists v).bind fun e =>
      (slices_Clone_int e).bind fun r =>
      (idx i v).bind fun e1 =>
      some (.nx ((w64 (v + 1)), (i.set v.toNat r)))
    else
      some (.dn i)
noncomputable def i_copyLists (lists : List (List Int)) : Option ((List (List Int))) :=
  (chk ((0 : Int) ≤ (lists.length : Int) ∧ (lists.length : Int) ≤ 4294967296)).bind fun u =>
  (iter (i_copyLists_L1 lists) (0, (List.replicate (lists.length : Int).toNat (([] : List Int) : List Int)))).bind fun (i1 : List (List Int)) =>
  some i1
noncomputable def i_copyRoster (r : Roster) : Option (Roster) :=
  (slices_Clone_Span r.Shifts).bind fun r3 =>
  (i_copyLists r.Plan).bind fun r4 =>
  some (⟨r3, r.Rules, r4⟩ : Roster)
noncomputable def i_missingShifts_1 (row : List Int) (c1 : Int) (c2 : Int) : Option (Bool) :=
  (idx row c1).bind fun e1 =>
  some (e1 == c2)
noncomputable def slices_IndexFunc_Lint_L1 (s : List (List Int)) (f : (List Int) → Option (Bool)) : Int → Option (Lp (Int) (Fl (Int) (Unit)))
  | v =>
    if (decide (v < (s.length : Int))) = true then
      (idx s v).bind fun e =>
      (f e).bind fun r =>
      if r = true then
        some (.dn (.ret v))
      else
        some (.nx (w64 (v + 1)))
    else
      some (.dn (.go ()))
noncomputable def slices_IndexFunc_Lint (s : List (List Int)) (f : (List Int) → Option (Bool)) : Option (Int) :=
  flb (iter (slices_IndexFunc_Lint_L1 s f) 0) fun (_ : Unit) =>
  some (-1)
noncomputable def slices_IndexFunc_Lint__i_missingShifts_1 (s : List (List Int)) (c1 : Int) (c2 : Int) : Option (Int) :=
  slices_IndexFunc_Lint s (fun (z0 : List Int) => i_missingShifts_1 z0 c1 c2)
noncomputable def slices_ContainsFunc_Lint (s : List (List Int)) (f : (List Int) → Option (Bool)) : Option (Bool) :=
  (slices_IndexFunc_Lint s f).bind fun r =>
  some (decide (0 ≤ r))
noncomputable def slices_ContainsFunc_Lint__i_missingShifts_1 (s : List (List Int)) (c1 : Int) (c2 : Int) : Option (Bool) :=
  slices_ContainsFunc_Lint s (fun (z0 : List Int) => i_missingShifts_1 z0 c1 c2)
noncomputable def i_missingShifts_L1 (r : Roster) (day : Int) : Int × (List Int) → Option (Lp (Int × (List Int)) ((List Int)))
  | (v, v1) =>
    if (decide (v < (r.Shifts.length : Int))) = true then
      ((slices_ContainsFunc_Lint__i_missingShifts_1 r.Plan day v).bind fun r1 =>
      if (!r1) = true then
        (chk (v1.length + ([v] : List Int).length ≤ 4294967296)).bind fun u =>
        some (v1 ++ ([v] : List Int))
      else
        some v1).bind fun (v2 : List Int) =>
      some (.nx ((w64 (v + 1)), v2))
    else
      some (.dn v1)
noncomputable def i_missingShifts (r : Roster) (day : Int) : Option ((List Int)) :=
  (iter (i_missingShifts_L1 r day) (0, ([] : List Int))).bind fun (v3 : List Int) =>
  some v3
noncomputable def i_minutesOn (r : Roster) (driver : Int) (day : Int) : Option (Int) :=
  (idx r.Plan driver).bind fun e =>
  (idx e day).bind fun e1 =>
  if (decide (e1 < 0)) = true then
    some 0
  else
    (idx r.Shifts e1).bind fun e4 =>
    (idx r.Shifts e1).bind fun e5 =>
    some (w64 (e4.To - e5.From))
noncomputable def i_workedMinutes_L1 (r : Roster) (driver : Int) (e : List Int) : Int × Int → Option (Lp (Int × Int) (Int))
  | (v, v1) =>
    if (decide (v1 < (e.length : Int))) = true then
      (i_minutesOn r driver v1).bind fun r1 =>
      some (.nx ((w64 (v + r1)), (w64 (v1 + 1))))
    else
      some (.dn v)
noncomputable def i_workedMinutes (r : Roster) (driver : Int) : Option (Int) :=
  (idx r.Plan driver).bind fun e =>
  (iter (i_workedMinutes_L1 r driver e) (0, 0)).bind fun (v2 : Int) =>
  some v2
noncomputable def i_busiestWeek_L1 (r : Roster) (driver : Int) (e : List Int) (day : Int) : Int × Int → Option (Lp (Int × Int) (Int))
  | (v1, v2) =>
    if (decide (v2 < (if (e.length : Int) < (w64 (day + 7)) then (e.length : Int) else (w64 (day + 7))))) = true then
      (i_minutesOn r driver v2).bind fun r1 =>
      some (.nx ((w64 (v1 + r1)), (w64 (v2 + 1))))
    else
      some (.dn v1)
noncomputable def i_busiestWeek_L2 (r : Roster) (driver : Int) (e : List Int) : Int × Int × Int → Option (Lp (Int × Int × Int) (Int × Int))
  | (first, sum, day) =>
    (if (day == 0) = true then some true else some (decide ((w64 (day + 7)) ≤ (e.length : Int)))).bind fun (v : Bool) =>
    if v = true then
      ((iter (i_busiestWeek_L1 r driver e day) (0, day)).bind fun (v3 : Int) =>
      if (decide (sum < v3)) = true then
        some (day, v3)
      else
        some (first, sum)).bind fun ((first1, sum1) : Int × Int) =>
      some (.nx (first1, sum1, (w64 (day + 1))))
    else
      some (.dn (first, sum))
noncomputable def i_busiestWeek (r : Roster) (driver : Int) : Option (Int × Int) :=
  (idx r.Plan driver).bind fun e =>
  (iter (i_busiestWeek_L2 r driver e) (0, (-1), 0)).bind fun ((first2, sum2) : Int × Int) =>
  some (first2, sum2)
noncomputable def i_brokenRests_L1 (r : Roster) (driver : Int) (e : List Int) : Int × Int × (List Int) → Option (Lp (Int × Int × (List Int)) ((List Int)))
  | (s, v, day) =>
    if (decide (v < (e.length : Int))) = true then
      ((idx e v).bind fun e1 =>
      if (decide (e1 < 0)) = true then
        some (s, day)
      else
        (if (decide (0 ≤ s)) = true then
          (idx r.Plan driver).bind fun e5 =>
          (idx e5 s).bind fun e6 =>
          (idx r.Shifts e6).bind fun e7 =>
          (idx r.Shifts e1).bind fun e9 =>
          if (decide ((w64 ((w64 (1440 * v)) + e9.From)) < (w64 ((w64 ((w64 (1440 * s)) + e7.To)) + r.Rules.MinRest)))) = true then
            (chk (day.length + ([v] : List Int).length ≤ 4294967296)).bind fun u =>
            some (day ++ ([v] : List Int))
          else
            some day
        else
          some day).bind fun (day2 : List Int) =>
        some (v, day2)).bind fun ((s1, day1) : Int × (List Int)) =>
      some (.nx (s1, (w64 (v + 1)), day1))
    else
      some (.dn day)
noncomputable def i_brokenRests (r : Roster) (driver : Int) : Option ((List Int)) :=
  (idx r.Plan driver).bind fun e =>
  (iter (i_brokenRests_L1 r driver e) ((-1), 0, ([] : List Int))).bind fun (day3 : List Int) =>
  some day3
noncomputable def i_longestRow_L1 (e : List Int) : Int × Int × Int → Option (Lp (Int × Int × Int) (Int))
  | (v, s, v1) =>
    if (decide (v1 < (e.length : Int))) = true then
      (idx e v1).bind fun e1 =>
      (if (decide (e1 < 0)) = true then
        some 0
      else
        some (w64 (s + 1))).bind fun (s1 : Int) =>
      some (.nx ((if s1 > v then s1 else v), s1, (w64 (v1 + 1))))
    else
      some (.dn v)
noncomputable def i_longestRow (r : Roster) (driver : Int) : Option (Int) :=
  (idx r.Plan driver).bind fun e =>
  (iter (i_longestRow_L1 e) (0, 0, 0)).bind fun (v2 : Int) =>
  some v2
noncomputable def i_keepsRules (r : Roster) (driver : Int) : Option (Bool) :=
  (i_busiestWeek r driver).bind fun r1 =>
  (i_brokenRests r driver).bind fun r4 =>
  (if ((r4.length : Int) == 0) = true then (i_longestRow r driver).bind fun r5 =>
  if (decide (r5 ≤ r.Rules.MaxRow)) = true then some (decide (r1.2 ≤ r.Rules.MaxWeek)) else some false else some false).bind fun (minutes : Bool) =>
  some minutes
noncomputable def i_fillDay_a_L1 (r : Roster) (day : Int) (v1 : List (List Int)) (e : Int) : Int × Int × Int × (List (List Int)) → Option (Lp (Int × Int × Int × (List (List Int))) (Int × (List (List Int))))
  | (driver, row, v3, v4) =>
    if (decide (v3 < (v1.length : Int))) = true then
      ((idx v4 v3).bind fun e1 =>
      (idx e1 day).bind fun e2 =>
      if (decide (0 ≤ e2)) = true then
        some (driver, row, v4)
      else
        (i_workedMinutes (⟨r.Shifts, r.Rules, v4⟩ : Roster) v3).bind fun r2 =>
        (idx e1 day).bind fun e3 =>
        (i_keepsRules (⟨r.Shifts, r.Rules, (v4.set v3.toNat (e1.set day.toNat e))⟩ : Roster) v3).bind fun r3 =>
        (idx (e1.set day.toNat e) day).bind fun e4 =>
        (if r3 = true then if (decide (driver < 0)) = true then some true else some (decide (r2 < row)) else some false).bind fun (v6 : Bool) =>
        if v6 = true then
          some (v3, r2, ((v4.set v3.toNat (e1.set day.toNat e)).set v3.toNat ((e1.set day.toNat e).set day.toNat (-1))))
        else
          some (driver, row, ((v4.set v3.toNat (e1.set day.toNat e)).set v3.toNat ((e1.set day.toNat e).set day.toNat (-1))))).bind fun ((driver1, row1, v5) : Int × Int × (List (List Int))) =>
      some (.nx (driver1, row1, (w64 (v3 + 1)), v5))
    else
      some (.dn (driver, v4))
noncomputable def i_fillDay_a_L2 (r : Roster) (day : Int) (r1 : (List Int)) : Int × (List (List Int)) × (List Int) → Option (Lp (Int × (List (List Int)) × (List Int)) ((List (List Int)) × (List Int)))
  | (v, v1, s) =>
    if (decide (v < (r1.length : Int))) = true then
      ((idx r1 v).bind fun e =>
      (iter (i_fillDay_a_L1 r day v1 e) ((-1), 0, 0, v1)).bind fun ((driver2, v7) : Int × (List (List Int))) =>
      if (decide (driver2 < 0)) = true then
        (chk (s.length + ([e] : List Int).length ≤ 4294967296)).bind fun u =>
        some (v7, (s ++ ([e] : List Int)))
      else
        (idx v7 driver2).bind fun e5 =>
        (idx e5 day).bind fun e6 =>
        some ((v7.set driver2.toNat (e5.set day.toNat e)), s)).bind fun ((v2, s1) : (List (List Int)) × (List Int)) =>
      some (.nx ((w64 (v + 1)), v2, s1))
    else
      some (.dn (v1, s))
noncomputable def i_fillDay_a (r : Roster) (day : Int) : Option ((List Int) × (List (List Int))) :=
  (i_missingShifts (⟨r.Shifts, r.Rules, r.Plan⟩ : Roster) day).bind fun r1 =>
  (iter (i_fillDay_a_L2 r day r1) (0, r.Plan, ([] : List Int))).bind fun ((v8, s3) : (List (List Int)) × (List Int)) =>
  some (s3, v8)
noncomputable def i_FillDay (r : Roster) (day : Int) : Option (Roster × (List Int) × Bool) :=
  (i_IsValidRoster r).bind fun r1 =>
  (if (!r1) = true then some true else (i_isRosterDay r day).bind fun r2 =>
  some (!r2)).bind fun (v : Bool) =>
  if v = true then
    some ((⟨([] : List Span), (⟨0, 0, 0⟩ : RosterRules), ([] : List (List Int))⟩ : Roster), ([] : List Int), false)
  else
    (i_copyRoster r).bind fun r3 =>
    (i_fillDay_a (⟨r3.Shifts, r3.Rules, r3.Plan⟩ : Roster) day).bind fun r4 =>
    some ((⟨r3.Shifts, r3.Rules, r4.2⟩ : Roster), r4.1, true)
noncomputable def s_l1In (x : Int) (a : Int) (b : Int) : Option (Bool) :=
  (if (decide (a ≤ x)) = true then some (decide (x ≤ b)) else some false).bind fun (v : Bool) =>
  some v
noncomputable def s_l4Time (t : Int) : Option (Bool) :=
  (s_l1In t 0 1799).bind fun r =>
  some r
noncomputable def s_l4Span (x : Span) : Option (Bool) :=
  (s_l4Time x.From).bind fun r =>
  (if r = true then (s_l4Time x.To).bind fun r1 =>
  if r1 = true then some (decide (x.From ≤ x.To)) else some false else some false).bind fun (v : Bool) =>
  some v
noncomputable def s_l14Good_L1 (r : Roster) : Int → Option (Lp (Int) (Fl (Bool) (Unit)))
  | i =>
    if (decide (i < (r.Shifts.length : Int))) = true then
      (idx r.Shifts i).bind fun e =>
      (s_l4Span e).bind fun r3 =>
      if (!r3) = true then
        some (.dn (.ret false))
      else
        some (.nx (w64 (i + 1)))
    else
      some (.dn (.go ()))
noncomputable def s_l14Good_L2 (r : Roster) (d : Int) : Int → Option (Lp (Int) (Fl (Lp (Int) (Fl (Bool) (Unit))) (Unit)))
  | v2 =>
    (idx r.Plan d).bind fun e9 =>
    if (decide (v2 < (e9.length : Int))) = true then
      (idx r.Plan d).bind fun e12 =>
      (idx e12 v2).bind fun e13 =>
      (s_l1In e13 (-1) (w64 ((r.Shifts.length : Int) - 1))).bind fun r9 =>
      if (!r9) = true then
        some (.dn (.ret (.dn (.ret false))))
      else
        some (.nx (w64 (v2 + 1)))
    else
      some (.dn (.go ()))
noncomputable def s_l14Good_L3 (r : Roster) : Int → Option (Lp (Int) (Fl (Bool) (Unit)))
  | d =>
    if (decide (d < (r.Plan.length : Int))) = true then
      (idx r.Plan d).bind fun e5 =>
      (s_l1In (e5.length : Int) 1 14).bind fun r6 =>
      (if (!r6) = true then some true else (idx r.Plan d).bind fun e6 =>
      (idx r.Plan 0).bind fun e7 =>
      some ((e6.length : Int) != (e7.length : Int))).bind fun (v1 : Bool) =>
      if v1 = true then
        some (.dn (.ret false))
      else
        flb (iter (s_l14Good_L2 r d) 0) fun (_ : Unit) =>
        some (.nx (w64 (d + 1)))
    else
      some (.dn (.go ()))
noncomputable def s_l14Good (r : Roster) : Option (Bool) :=
  (s_l1In (r.Shifts.length : Int) 1 8).bind fun r1 =>
  (if (!r1) = true then some true else (s_l1In (r.Plan.length : Int) 1 6).bind fun r2 =>
  some (!r2)).bind fun (v : Bool) =>
  if v = true then
    some false
  else
    flb (iter (s_l14Good_L1 r) 0) fun (_ : Unit) =>
    flb (iter (s_l14Good_L3 r) 0) fun (_ : Unit) =>
    (s_l1In r.Rules.MinRest 0 1440).bind fun r12 =>
    (if r12 = true then (s_l1In r.Rules.MaxRow 1 14).bind fun r13 =>
    if r13 = true then (s_l1In r.Rules.MaxWeek 0 10080).bind fun r14 =>
    some r14 else some false else some false).bind fun (i1 : Bool) =>
    some i1
noncomputable def s_l1Own (l : List Int) : Option ((List Int)) :=
  (chk (([] : List Int).length + l.length ≤ 4294967296)).bind fun u =>
  some (([] : List Int) ++ l)
noncomputable def s_l1Own_f (l : List Int) : Option ((List Int)) :=
  (chk (([] : List Int).length + l.length ≤ 4294967296)).bind fun u =>
  some (([] : List Int) ++ l)
noncomputable def s_l14Own_L1 (r : Roster) : Int × (List (List Int)) → Option (Lp (Int × (List (List Int))) ((List (List Int))))
  | (v, v1) =>
    if (decide (v < (r.Plan.length : Int))) = true then
      (idx r.Plan v).bind fun e1 =>
      (s_l1Own_f e1).bind fun r2 =>
      (chk (v1.length + ([r2] : List (List Int)).length ≤ 4294967296)).bind fun u3 =>
      some (.nx ((w64 (v + 1)), (v1 ++ ([r2] : List (List Int)))))
    else
      some (.dn v1)
noncomputable def s_l14Own (r : Roster) : Option (Roster) :=
  (chk (([] : List Span).length + r.Shifts.length ≤ 4294967296)).bind fun u1 =>
  (iter (s_l14Own_L1 r) (0, ([] : List (List Int)))).bind fun (v2 : List (List Int)) =>
  some (⟨(([] : List Span) ++ r.Shifts), r.Rules, v2⟩ : Roster)
noncomputable def s_l14Missing_L1 (r : Roster) (day : Int) (i : Int) : Bool × Int → Option (Lp (Bool × Int) (Bool))
  | (v, v1) =>
    if (decide (v1 < (r.Plan.length : Int))) = true then
      if v = true then some (.nx (true, (w64 (v1 + 1)))) else (idx r.Plan v1).bind fun e =>
      (idx e day).bind fun e1 =>
      some (.nx ((e1 == i), (w64 (v1 + 1))))
    else
      some (.dn v)
noncomputable def s_l14Missing_L2 (r : Roster) (day : Int) : Int × (List Int) → Option (Lp (Int × (List Int)) ((List Int)))
  | (i, have_) =>
    if (decide (i < (r.Shifts.length : Int))) = true then
      ((iter (s_l14Missing_L1 r day i) (false, 0)).bind fun (v2 : Bool) =>
      if (!v2) = true then
        (chk (have_.length + ([i] : List Int).length ≤ 4294967296)).bind fun u =>
        some (have_ ++ ([i] : List Int))
      else
        some have_).bind fun (have_1 : List Int) =>
      some (.nx ((w64 (i + 1)), have_1))
    else
      some (.dn have_)
noncomputable def s_l14Missing (r : Roster) (day : Int) : Option ((List Int)) :=
  (iter (s_l14Missing_L2 r day) (0, ([] : List Int))).bind fun (have_2 : List Int) =>
  some have_2
noncomputable def s_l14Own_t_L1 (r : Roster) : Int × (List (List Int)) → Option (Lp (Int × (List (List Int))) ((List (List Int))))
  | (v, v1) =>
    if (decide (v < (r.Plan.length : Int))) = true then
      (idx r.Plan v).bind fun e1 =>
      (s_l1Own e1).bind fun r2 =>
      (chk (v1.length + ([r2] : List (List Int)).length ≤ 4294967296)).bind fun u3 =>
      some (.nx ((w64 (v + 1)), (v1 ++ ([r2] : List (List Int)))))
    else
      some (.dn v1)
noncomputable def s_l14Own_t (r : Roster) : Option (Roster) :=
  (chk (([] : List Span).length + r.Shifts.length ≤ 4294967296)).bind fun u1 =>
  (iter (s_l14Own_t_L1 r) (0, ([] : List (List Int)))).bind fun (v2 : List (List Int)) =>
  some (⟨(([] : List Span) ++ r.Shifts), r.Rules, v2⟩ : Roster)
noncomputable def s_l1Least (a : Int) (b : Int) : Option (Int) :=
  if (decide (a < b)) = true then
    some a
  else
    some b
noncomputable def s_l14Length (r : Roster) (driver : Int) (day : Int) : Option (Int) :=
  (idx r.Plan driver).bind fun e =>
  (idx e day).bind fun e1 =>
  if (decide (e1 < 0)) = true then
    some 0
  else
    (idx r.Shifts e1).bind fun e4 =>
    (idx r.Shifts e1).bind fun e5 =>
    some (w64 (e4.To - e5.From))
noncomputable def s_l14Week_L1 (r : Roster) (driver : Int) (e : List Int) (k : Int) : Int × Int → Option (Lp (Int × Int) (Int))
  | (v1, v2) =>
    (s_l1Least (w64 (k + 7)) (e.length : Int)).bind fun r1 =>
    if (decide (v2 < r1)) = true then
      (s_l14Length r driver v2).bind fun r2 =>
      some (.nx ((w64 (v1 + r2)), (w64 (v2 + 1))))
    else
      some (.dn v1)
noncomputable def s_l14Week_L2 (r : Roster) (driver : Int) (e : List Int) : Int × Int × Int → Option (Lp (Int × Int × Int) (Int × Int))
  | (n, d, k) =>
    (if (k == 0) = true then some true else some (decide ((w64 (k + 7)) ≤ (e.length : Int)))).bind fun (v : Bool) =>
    if v = true then
      ((iter (s_l14Week_L1 r driver e k) (0, k)).bind fun (v3 : Int) =>
      if (decide (d < v3)) = true then
        some (k, v3)
      else
        some (n, d)).bind fun ((n1, d1) : Int × Int) =>
      some (.nx (n1, d1, (w64 (k + 1))))
    else
      some (.dn (n, d))
noncomputable def s_l14Week (r : Roster) (driver : Int) : Option (Int × Int) :=
  (idx r.Plan driver).bind fun e =>
  (iter (s_l14Week_L2 r driver e) (0, (-1), 0)).bind fun ((n2, d2) : Int × Int) =>
  some (n2, d2)
noncomputable def s_l14Rests_L1 (r : Roster) (driver : Int) : Int × Int × (List Int) → Option (Lp (Int × Int × (List Int)) ((List Int)))
  | (s, v, d) =>
    (idx r.Plan driver).bind fun e =>
    if (decide (v < (e.length : Int))) = true then
      ((idx r.Plan driver).bind fun e1 =>
      (idx e1 v).bind fun e2 =>
      if (decide (e2 < 0)) = true then
        some (s, d)
      else
        ((idx r.Shifts e2).bind fun e4 =>
        if (decide ((w64 ((w64 ((w64 (1440 * v)) + e4.From)) - s)) < r.Rules.MinRest)) = true then
          (chk (d.length + ([v] : List Int).length ≤ 4294967296)).bind fun u =>
          some (d ++ ([v] : List Int))
        else
          some d).bind fun (d2 : List Int) =>
        (idx r.Shifts e2).bind fun e5 =>
        some ((w64 ((w64 (1440 * v)) + e5.To)), d2)).bind fun ((s1, d1) : Int × (List Int)) =>
      some (.nx (s1, (w64 (v + 1)), d1))
    else
      some (.dn d)
noncomputable def s_l14Rests (r : Roster) (driver : Int) : Option ((List Int)) :=
  (iter (s_l14Rests_L1 r driver) ((-1000000), 0, ([] : List Int))).bind fun (d3 : List Int) =>
  some d3
noncomputable def s_l1Most (a : Int) (b : Int) : Option (Int) :=
  if (decide (b < a)) = true then
    some a
  else
    some b
noncomputable def s_l14Row_L1 (r : Roster) (driver : Int) : Int × Int × Int → Option (Lp (Int × Int × Int) (Int))
  | (d, v, v1) =>
    (idx r.Plan driver).bind fun e =>
    if (decide (v1 < (e.length : Int))) = true then
      ((idx r.Plan driver).bind fun e1 =>
      (idx e1 v1).bind fun e2 =>
      if (decide (e2 < 0)) = true then
        some 0
      else
        some (w64 (v + 1))).bind fun (v2 : Int) =>
      (s_l1Most d v2).bind fun r1 =>
      some (.nx (r1, v2, (w64 (v1 + 1))))
    else
      some (.dn d)
noncomputable def s_l14Row (r : Roster) (driver : Int) : Option (Int) :=
  (iter (s_l14Row_L1 r driver) (0, 0, 0)).bind fun (d1 : Int) =>
  some d1
noncomputable def s_l14Keeps (r : Roster) (driver : Int) : Option (Bool) :=
  (s_l14Week r driver).bind fun r1 =>
  (s_l14Rests r driver).bind fun r4 =>
  (if ((r4.length : Int) == 0) = true then (s_l14Row r driver).bind fun r5 =>
  if (decide (r5 ≤ r.Rules.MaxRow)) = true then some (decide (r1.2 ≤ r.Rules.MaxWeek)) else some false else some false).bind fun (sum : Bool) =>
  some sum
noncomputable def s_l14Worked_L1 (r : Roster) (driver : Int) : Int × Int → Option (Lp (Int × Int) (Int))
  | (v, v1) =>
    (idx r.Plan driver).bind fun e =>
    if (decide (v1 < (e.length : Int))) = true then
      (s_l14Length r driver v1).bind fun r1 =>
      some (.nx ((w64 (v + r1)), (w64 (v1 + 1))))
    else
      some (.dn v)
noncomputable def s_l14Worked (r : Roster) (driver : Int) : Option (Int) :=
  (iter (s_l14Worked_L1 r driver) (0, 0)).bind fun (v2 : Int) =>
  some v2
noncomputable def s_FillDay_L1 (day : Int) (r3 : Roster) (r4 : (List Int)) (i : Int) (v1 : List (List Int)) : Int × Int → Option (Lp (Int × Int) (Int))
  | (try_, v3) =>
    if (decide (v3 < (v1.length : Int))) = true then
      ((idx v1 v3).bind fun e1 =>
      (idx e1 day).bind fun e2 =>
      if (decide (0 ≤ e2)) = true then
        some try_
      else
        (s_l14Own_t (⟨r3.Shifts, r3.Rules, v1⟩ : Roster)).bind fun r5 =>
        (idx r5.Plan v3).bind fun e6 =>
        (idx r4 i).bind fun e7 =>
        (idx e6 day).bind fun e8 =>
        (s_l14Keeps (⟨r5.Shifts, r5.Rules, (r5.Plan.set v3.toNat (e6.set day.toNat e7))⟩ : Roster) v3).bind fun r9 =>
        (if r9 = true then if (decide (try_ < 0)) = true then some true else (s_l14Worked (⟨r3.Shifts, r3.Rules, v1⟩ : Roster) v3).bind fun r10 =>
        (s_l14Worked (⟨r3.Shifts, r3.Rules, v1⟩ : Roster) try_).bind fun r11 =>
        some (decide (r10 < r11)) else some false).bind fun (v4 : Bool) =>
        if v4 = true then
          some v3
        else
          some try_).bind fun (try_1 : Int) =>
      some (.nx (try_1, (w64 (v3 + 1))))
    else
      some (.dn try_)
noncomputable def s_FillDay_L2 (day : Int) (r3 : Roster) (r4 : (List Int)) : Int × (List Int) × (List (List Int)) → Option (Lp (Int × (List Int) × (List (List Int))) ((List Int) × (List (List Int))))
  | (i, missing, v1) =>
    if (decide (i < (r4.length : Int))) = true then
      ((iter (s_FillDay_L1 day r3 r4 i v1) ((-1), 0)).bind fun (try_2 : Int) =>
      if (decide (try_2 < 0)) = true then
        (idx r4 i).bind fun e9 =>
        (chk (missing.length + ([e9] : List Int).length ≤ 4294967296)).bind fun u =>
        some ((missing ++ ([e9] : List Int)), v1)
      else
        (idx v1 try_2).bind fun e13 =>
        (idx r4 i).bind fun e14 =>
        (idx e13 day).bind fun e15 =>
        some (missing, (v1.set try_2.toNat (e13.set day.toNat e14)))).bind fun ((missing1, v2) : (List Int) × (List (List Int))) =>
      some (.nx ((w64 (i + 1)), missing1, v2))
    else
      some (.dn (missing, v1))
noncomputable def s_FillDay (r : Roster) (day : Int) : Option (Roster × (List Int) × Bool) :=
  (s_l14Good r).bind fun r1 =>
  (if (!r1) = true then some true else (idx r.Plan 0).bind fun e =>
  (s_l1In day 0 (w64 ((e.length : Int) - 1))).bind fun r2 =>
  some (!r2)).bind fun (v : Bool) =>
  if v = true then
    some ((⟨([] : List Span), (⟨0, 0, 0⟩ : RosterRules), ([] : List (List Int))⟩ : Roster), ([] : List Int), false)
  else
    (s_l14Own_t r).bind fun r3 =>
    (s_l14Missing r day).bind fun r4 =>
    (iter (s_FillDay_L2 day r3 r4) (0, ([] : List Int), r3.Plan)).bind fun ((missing2, v5) : (List Int) × (List (List Int))) =>
    some ((⟨r3.Shifts, r3.Rules, v5⟩ : Roster), missing2, true)
noncomputable def v_rInts_L1 (a : List Int) (b : List Int) : Int → Option (Lp (Int) (Fl (Bool) (Unit)))
  | v =>
    if (decide (v < (a.length : Int))) = true then
      (idx a v).bind fun e2 =>
      (idx b v).bind fun e3 =>
      if (e2 != e3) = true then
        some (.dn (.ret false))
      else
        some (.nx (w64 (v + 1)))
    else
      some (.dn (.go ()))
noncomputable def v_rInts (a : List Int) (b : List Int) : Option (Bool) :=
  if ((a.length : Int) != (b.length : Int)) = true then
    some false
  else
    flb (iter (v_rInts_L1 a b) 0) fun (_ : Unit) =>
    some true
noncomputable def v_rTable_L1 (a : List (List Int)) (b : List (List Int)) : Int → Option (Lp (Int) (Fl (Bool) (Unit)))
  | v =>
    if (decide (v < (a.length : Int))) = true then
      (idx a v).bind fun e2 =>
      (idx b v).bind fun e3 =>
      (v_rInts e2 e3).bind fun r1 =>
      if (!r1) = true then
        some (.dn (.ret false))
      else
        some (.nx (w64 (v + 1)))
    else
      some (.dn (.go ()))
noncomputable def v_rTable (a : List (List Int)) (b : List (List Int)) : Option (Bool) :=
  if ((a.length : Int) != (b.length : Int)) = true then
    some false
  else
    flb (iter (v_rTable_L1 a b) 0) fun (_ : Unit) =>
    some true
noncomputable def i_MissingShifts (r : Roster) (day : Int) : Option ((List Int) × Bool) :=
  (i_IsValidRoster r).bind fun r1 =>
  (if (!r1) = true then some true else (i_isRosterDay r day).bind fun r2 =>
  some (!r2)).bind fun (v : Bool) =>
  if v = true then
    some (([] : List Int), false)
  else
    (i_missingShifts r day).bind fun r3 =>
    some (r3, true)
noncomputable def s_DrawWorkedMinutes (code : List UInt8) : Option (Roster × Int) :=
  (s_l1Cur_roster (⟨code, 0, (⟨0⟩ : IK .u64)⟩ : l1Cur)).bind fun r =>
  (s_l1Cur_pick r.2 (w64 ((r.1.Plan.length : Int) + 1))).bind fun r3 =>
  (s_l1Cur_pick r3.2 12).bind fun r4 =>
  (chk ((11 : Int) ≠ 0)).bind fun u1 =>
  some ((⟨r.1.Shifts, r.1.Rules, r.1.Plan⟩ : Roster), (w64 (r3.1 - (w64 (r4.1.tdiv 11)))))
noncomputable def s_DrawBusiestWeek (code : List UInt8) : Option (Roster × Int) :=
  (s_DrawWorkedMinutes code).bind fun r =>
  some ((⟨r.1.Shifts, r.1.Rules, r.1.Plan⟩ : Roster), r.2)
noncomputable def i_isDriver (r : Roster) (driver : Int) : Option (Bool) :=
  (if (decide (0 ≤ driver)) = true then some (decide (driver < (r.Plan.length : Int))) else some false).bind fun (v : Bool) =>
  some v
noncomputable def i_BusiestWeek (r : Roster) (driver : Int) : Option (Int × Int × Bool) :=
  (i_IsValidRoster r).bind fun r1 =>
  (if (!r1) = true then some true else (i_isDriver r driver).bind fun r2 =>
  some (!r2)).bind fun (v : Bool) =>
  if v = true then
    some (0, 0, false)
  else
    (i_busiestWeek r driver).bind fun r3 =>
    some (r3.1, r3.2, true)
noncomputable def s_l14Asked (r : Roster) (driver : Int) : Option (Bool) :=
  (s_l14Good r).bind fun r1 =>
  (if r1 = true then (s_l1In driver 0 (w64 ((r.Plan.length : Int) - 1))).bind fun r2 =>
  some r2 else some false).bind fun (v : Bool) =>
  some v
noncomputable def s_BusiestWeek (r : Roster) (driver : Int) : Option (Int × Int × Bool) :=
  (s_l14Asked r driver).bind fun r1 =>
  if (!r1) = true then
    some (0, 0, false)
  else
    (s_l14Week r driver).bind fun r2 =>
    some (r2.1, r2.2, true)
noncomputable def i_WorkedMinutes (r : Roster) (driver : Int) : Option (Int × Bool) :=
  (i_IsValidRoster r).bind fun r1 =>
  (if (!r1) = true then some true else (i_isDriver r driver).bind fun r2 =>
  some (!r2)).bind fun (v : Bool) =>
  if v = true then
    some (0, false)
  else
    (i_workedMinutes r driver).bind fun r3 =>
    some (r3, true)
noncomputable def s_DrawSwapDrivers (code : List UInt8) : Option (Roster × Int × Int × Int) :=
  (s_l1Cur_roster (⟨code, 0, (⟨0⟩ : IK .u64)⟩ : l1Cur)).bind fun r =>
  (s_l1Cur_pick r.2 (r.1.Plan.length : Int)).bind fun r5 =>
  (s_l1Cur_pick r5.2 (w64 ((r.1.Plan.length : Int) + 1))).bind fun r6 =>
  (s_l1Cur_pick r6.2 12).bind fun r7 =>
  (chk ((11 : Int) ≠ 0)).bind fun u1 =>
  (idx r.1.Plan 0).bind fun e1 =>
  (s_l1Cur_pick r7.2 (w64 ((e1.length : Int) + 1))).bind fun r8 =>
  some ((⟨r.1.Shifts, r.1.Rules, r.1.Plan⟩ : Roster), r5.1, (w64 (r6.1 - (w64 (r7.1.tdiv 11)))), r8.1)
noncomputable def i_SwapDrivers (r : Roster) (a : Int) (b : Int) (day : Int) : Option (Roster × Bool) :=
  (i_IsValidRoster r).bind fun r1 =>
  (if (!r1) = true then some true else (i_isDriver r a).bind fun r2 =>
  if (!r2) = true then some true else (i_isDriver r b).bind fun r3 =>
  if (!r3) = true then some true else if (a == b) = true then some true else (i_isRosterDay r day).bind fun r4 =>
  some (!r4)).bind fun (v : Bool) =>
  if v = true then
    some ((⟨([] : List Span), (⟨0, 0, 0⟩ : RosterRules), ([] : List (List Int))⟩ : Roster), false)
  else
    (i_copyRoster r).bind fun r5 =>
    (idx r5.Plan a).bind fun e9 =>
    (idx r5.Plan b).bind fun e10 =>
    (idx r.Plan b).bind fun e11 =>
    (idx e11 day).bind fun e12 =>
    (idx r.Plan a).bind fun e13 =>
    (idx e13 day).bind fun e14 =>
    (idx e9 day).bind fun e15 =>
    (idx (r5.Plan.set a.toNat (e9.set day.toNat e12)) b).bind fun e16 =>
    (idx e16 day).bind fun e17 =>
    (i_keepsRules (⟨r5.Shifts, r5.Rules, ((r5.Plan.set a.toNat (e9.set day.toNat e12)).set b.toNat (e16.set day.toNat e14))⟩ : Roster) a).bind fun r6 =>
    (if (!r6) = true then some true else (i_keepsRules (⟨r5.Shifts, r5.Rules, ((r5.Plan.set a.toNat (e9.set day.toNat e12)).set b.toNat (e16.set day.toNat e14))⟩ : Roster) b).bind fun r7 =>
    some (!r7)).bind fun (v1 : Bool) =>
    if v1 = true then
      some ((⟨([] : List Span), (⟨0, 0, 0⟩ : RosterRules), ([] : List (List Int))⟩ : Roster), false)
    else
      some ((⟨r5.Shifts, r5.Rules, ((r5.Plan.set a.toNat (e9.set day.toNat e12)).set b.toNat (e16.set day.toNat e14))⟩ : Roster), true)
noncomputable def s_SwapDrivers (r : Roster) (a : Int) (b : Int) (day : Int) : Option (Roster × Bool) :=
  (s_l14Asked r a).bind fun r1 =>
  (if (!r1) = true then some true else (s_l14Asked r b).bind fun r2 =>
  if (!r2) = true then some true else if (a == b) = true then some true else (idx r.Plan 0).bind fun e =>
  (s_l1In day 0 (w64 ((e.length : Int) - 1))).bind fun r3 =>
  some (!r3)).bind fun (v : Bool) =>
  if v = true then
    some ((⟨([] : List Span), (⟨0, 0, 0⟩ : RosterRules), ([] : List (List Int))⟩ : Roster), false)
  else
    (s_l14Own_t r).bind fun r4 =>
    (idx r4.Plan a).bind fun e5 =>
    (idx r.Plan b).bind fun e6 =>
    (idx e6 day).bind fun e7 =>
    (idx e5 day).bind fun e8 =>
    (idx (r4.Plan.set a.toNat (e5.set day.toNat e7)) b).bind fun e13 =>
    (idx r.Plan a).bind fun e14 =>
    (idx e14 day).bind fun e15 =>
    (idx e13 day).bind fun e16 =>
    (s_l14Keeps (⟨r4.Shifts, r4.Rules, ((r4.Plan.set a.toNat (e5.set day.toNat e7)).set b.toNat (e13.set day.toNat e15))⟩ : Roster) a).bind fun r5 =>
    (if (!r5) = true then some true else (s_l14Keeps (⟨r4.Shifts, r4.Rules, ((r4.Plan.set a.toNat (e5.set day.toNat e7)).set b.toNat (e13.set day.toNat e15))⟩ : Roster) b).bind fun r6 =>
    some (!r6)).bind fun (v1 : Bool) =>
    if v1 = true then
      some ((⟨([] : List Span), (⟨0, 0, 0⟩ : RosterRules), ([] : List (List Int))⟩ : Roster), false)
    else
      some ((⟨r4.Shifts, r4.Rules, ((r4.Plan.set a.toNat (e5.set day.toNat e7)).set b.toNat (e13.set day.toNat e15))⟩ : Roster), true)
noncomputable def v_FnRosters (code : List UInt8) : Option (Bool) :=
  (v_rBig code).bind fun r =>
  if r = true then
    some true
  else
    (s_DrawFillDay code).bind fun r1 =>
    (i_FillDay r1.1 r1.2).bind fun r2 =>
    (s_FillDay r1.1 r1.2).bind fun r3 =>
    (if (!(r2.2.2 == r3.2.2)) = true then some true else (v_rInts r2.2.1 r3.2.1).bind fun r4 =>
    if (!r4) = true then some true else (v_rTable r2.1.Plan r3.1.Plan).bind fun r5 =>
    some (!r5)).bind fun (v : Bool) =>
    if v = true then
      some false
    else
      flb (if r2.2.2 = true then
        (i_MissingShifts r1.1 r1.2).bind fun r6 =>
        (i_MissingShifts r2.1 r1.2).bind fun r7 =>
        (if (!r6.2) = true then some true else if (!r7.2) = true then some true else (v_rInts r7.1 r2.2.1).bind fun r8 =>
        if (!r8) = true then some true else if (decide ((r6.1.length : Int) < (r7.1.length : Int))) = true then some true else (i_IsValidRoster r2.1).bind fun r9 =>
        some (!r9)).bind fun (v1 : Bool) =>
        if v1 = true then
          some (.ret false)
        else
          some (.go ())
      else
        some (.go ())) fun (_ : Unit) =>
      (s_DrawBusiestWeek code).bind fun r11 =>
      (i_BusiestWeek (⟨r11.1.Shifts, r11.1.Rules, r11.1.Plan⟩ : Roster) r11.2).bind fun r12 =>
      (s_BusiestWeek (⟨r11.1.Shifts, r11.1.Rules, r11.1.Plan⟩ : Roster) r11.2).bind fun r13 =>
      (if (r12.1 != r13.1) = true then some true else if (r12.2.1 != r13.2.1) = true then some true else some (!(r12.2.2 == r13.2.2))).bind fun (v2 : Bool) =>
      if v2 = true then
        some false
      else
        (i_WorkedMinutes (⟨r11.1.Shifts, r11.1.Rules, r11.1.Plan⟩ : Roster) r11.2).bind fun r14 =>
        (if (!(r14.2 == r12.2.2)) = true then some true else if r12.2.2 = true then some (decide (r14.1 < r12.2.1)) else some false).bind fun (v3 : Bool) =>
        if v3 = true then
          some false
        else
          (s_DrawSwapDrivers code).bind fun r15 =>
          (i_SwapDrivers r15.1 r15.2.1 r15.2.2.1 r15.2.2.2).bind fun r16 =>
          (s_SwapDrivers r15.1 r15.2.1 r15.2.2.1 r15.2.2.2).bind fun r17 =>
          (if (!(r16.2 == r17.2)) = true then some true else (v_rTable r16.1.Plan r17.1.Plan).bind fun r18 =>
          some (!r18)).bind fun (v4 : Bool) =>
          if v4 = true then
            some false
          else
            flb (if r16.2 = true then
              (i_SwapDrivers r16.1 r15.2.1 r15.2.2.1 r15.2.2.2).bind fun r19 =>
              (if r19.2 = true then (v_rTable r19.1.Plan r15.1.Plan).bind fun r20 =>
              some (!r20) else some false).bind fun (v5 : Bool) =>
              if v5 = true then
                some (.ret false)
              else
                some (.go ())
            else
              some (.go ())) fun (_ : Unit) =>
            some true
end Go.Proofs.Ytepdapiceklppaa
