/- Models of the functions that the law reaches: plain Lean; none where the function would panic or not end. Made by program (dec.py). -/
import Derived.Test.YtepdapiceklppaaAbEx5
namespace Go.Proofs.Ytepdapiceklppaa
open Go Go.Ab
set_option maxRecDepth 100000
set_option maxHeartbeats 4000000
set_option linter.unusedVariables false
set_option linter.unusedSimpArgs false
structure l1Cur where
  code_ : List UInt8
  at_ : Int
  seed_ : IK .u64
instance enc_l1Cur : Enc l1Cur := ⟨3, fun x => .agg [Enc.e x.code_, .sc (.int .i64 x.at_), .sc (.int .u64 x.seed_.v)], fun a b h => by
  simp only [D.agg.injEq, List.cons.injEq, and_true] at h
  obtain ⟨a1, a2, a3⟩ := a
  obtain ⟨b1, b2, b3⟩ := b
  obtain ⟨h1, h2, h3⟩ := h
  have q1 := Enc.inj (α := List UInt8) a1 b1 h1
  have q2 := Enc.inj (α := Int) a2 b2 h2
  have q3 := Enc.inj (α := IK .u64) a3 b3 h3
  subst q1; subst q2; subst q3; rfl⟩
structure Span where
  From : Int
  To : Int
instance enc_Span : Enc Span := ⟨2, fun x => .agg [.sc (.int .i64 x.From), .sc (.int .i64 x.To)], fun a b h => by
  simp only [D.agg.injEq, List.cons.injEq, and_true] at h
  obtain ⟨a1, a2⟩ := a
  obtain ⟨b1, b2⟩ := b
  obtain ⟨h1, h2⟩ := h
  have q1 := Enc.inj (α := Int) a1 b1 h1
  have q2 := Enc.inj (α := Int) a2 b2 h2
  subst q1; subst q2; rfl⟩
instance : FlatEnc Span := ⟨fun _ => flatDB_ok rfl⟩
noncomputable def v_vBig (code : List UInt8) : Option (Bool) :=
  some (decide (65536 < (code.length : Int)))
noncomputable def s_l1Cur_next (c : l1Cur) : Option (Int × l1Cur) :=
  (if (decide (c.at_ < (c.code_.length : Int))) = true then
    (idx c.code_ c.at_).bind fun e1 =>
    some (w64 ((e1.toNat : Int)))
  else
    some (0 : Int)).bind fun (v : Int) =>
  if (decide ((w64 (c.at_ + 1)) ≤ (c.code_.length : Int))) = true then
    some (v, (⟨c.code_, (w64 (c.at_ + 1)), (⟨(IntKind.u64.wrap ((IntKind.u64.wrap ((IntKind.u64.wrap (c.seed_.v * 6364136223846793005)) + (IntKind.u64.wrap (v)))) + 900900))⟩ : IK .u64)⟩ : l1Cur))
  else
    (chk ((0 : Int) ≤ 40)).bind fun u =>
    some ((w64 ((IntKind.u64.wrap ((BitVec.ofInt (IntKind.u64).bits ((IntKind.u64.wrap ((IntKind.u64.wrap ((IntKind.u64.wrap (c.seed_.v * 6364136223846793005)) + (IntKind.u64.wrap (v)))) + 900900)).fdiv (2 ^ (min (40 : Int).toNat (IntKind.u64).bits))) &&& BitVec.ofInt (IntKind.u64).bits 255).toNat : Int)))), (⟨c.code_, (w64 (c.at_ + 1)), (⟨(IntKind.u64.wrap ((IntKind.u64.wrap ((IntKind.u64.wrap (c.seed_.v * 6364136223846793005)) + (IntKind.u64.wrap (v)))) + 900900))⟩ : IK .u64)⟩ : l1Cur))
noncomputable def s_l1Cur_pick (c : l1Cur) (n : Int) : Option (Int × l1Cur) :=
  if (decide (n ≤ 1)) = true then
    some (0, c)
  else
    (s_l1Cur_next c).bind fun r =>
    (if (decide (200 < n)) = true then
      (s_l1Cur_next r.2).bind fun r1 =>
      some ((w64 ((w64 (r.1 * 256)) + r1.1)), r1.2.code_, r1.2.at_, r1.2.seed_.v)
    else
      some (r.1, r.2.code_, r.2.at_, r.2.seed_.v)).bind fun ((v, v1, v2, v3) : Int × (List UInt8) × Int × Int) =>
    (chk ((n : Int) ≠ 0)).bind fun u =>
    some ((v.tmod n), (⟨v1, v2, (⟨v3⟩ : IK .u64)⟩ : l1Cur))
noncomputable def s_l1Cur_one (c : l1Cur) (n : Int) : Option (Bool × l1Cur) :=
  (s_l1Cur_pick c n).bind fun r =>
  some ((r.1 == 0), r.2)
noncomputable def s_l1Cur_among (c : l1Cur) (list : List Int) : Option (Int × l1Cur) :=
  (s_l1Cur_pick c (list.length : Int)).bind fun r =>
  (idx list r.1).bind fun e =>
  some (e, r.2)
noncomputable def s_l1Cur_time (c : l1Cur) : Option (Int × l1Cur) :=
  (s_l1Cur_one c 16).bind fun r =>
  if r.1 = true then
    (s_l1Cur_among r.2 ([0, 1799, 1800, (-1), 1440, 1439] : List Int)).bind fun r1 =>
    some (r1.1, r1.2)
  else
    (s_l1Cur_pick r.2 240).bind fun r2 =>
    some ((w64 (360 + r2.1)), r2.2)
noncomputable def s_l1Cur_span (c : l1Cur) : Option (Span × l1Cur) :=
  (s_l1Cur_time c).bind fun r =>
  (s_l1Cur_pick r.2 90).bind fun r1 =>
  ((s_l1Cur_one r1.2 16).bind fun r2 =>
  if r2.1 = true then
    (s_l1Cur_time r2.2).bind fun r3 =>
    some (r3.2.code_, r3.2.at_, r3.2.seed_.v, r3.1)
  else
    some (r2.2.code_, r2.2.at_, r2.2.seed_.v, (w64 (r.1 + r1.1)))).bind fun ((v, v1, v2, v3) : (List UInt8) × Int × Int × Int) =>
  some ((⟨r.1, v3⟩ : Span), (⟨v, v1, (⟨v2⟩ : IK .u64)⟩ : l1Cur))
noncomputable def s_l1Cur_spans_L1 : Int × (List UInt8) × Int × Int × (List Span) → Option (Lp (Int × (List UInt8) × Int × Int × (List Span)) ((List UInt8) × Int × Int × (List Span)))
  | (v, v1, v2, v3, n) =>
    if (decide (0 < v)) = true then
      (s_l1Cur_span (⟨v1, v2, (⟨v3⟩ : IK .u64)⟩ : l1Cur)).bind fun r1 =>
      (chk (n.length + ([r1.1] : List Span).length ≤ 4294967296)).bind fun u =>
      some (.nx ((w64 (v - 1)), r1.2.code_, r1.2.at_, r1.2.seed_.v, (n ++ ([r1.1] : List Span))))
    else
      some (.dn (v1, v2, v3, n))
noncomputable def s_l1Cur_spans_L2 : (List UInt8) × Int × Int × (List Span) → Option (Lp ((List UInt8) × Int × Int × (List Span)) ((List UInt8) × Int × Int × (List Span)))
  | (v10, v11, v12, n3) =>
    (s_l1Cur_pick (⟨v10, v11, (⟨v12⟩ : IK .u64)⟩ : l1Cur) 2).bind fun r3 =>
    if (decide ((n3.length : Int) < (w64 (20 + r3.1)))) = true then
      (chk (n3.length + ([(⟨(w64 (10 * (n3.length : Int))), (w64 ((w64 (10 * (n3.length : Int))) + 5))⟩ : Span)] : List Span).length ≤ 4294967296)).bind fun u1 =>
      some (.nx (r3.2.code_, r3.2.at_, r3.2.seed_.v, (n3 ++ ([(⟨(w64 (10 * (n3.length : Int))), (w64 ((w64 (10 * (n3.length : Int))) + 5))⟩ : Span)] : List Span))))
    else
      some (.dn (r3.2.code_, r3.2.at_, r3.2.seed_.v, n3))
noncomputable def s_l1Cur_spans (c : l1Cur) : Option ((List Span) × l1Cur) :=
  (s_l1Cur_pick c 7).bind fun r =>
  (iter (s_l1Cur_spans_L1) (r.1, r.2.code_, r.2.at_, r.2.seed_.v, ([] : List Span))).bind fun ((v4, v5, v6, n1) : (List UInt8) × Int × Int × (List Span)) =>
  ((s_l1Cur_one (⟨v4, v5, (⟨v6⟩ : IK .u64)⟩ : l1Cur) 24).bind fun r2 =>
  if r2.1 = true then
    (iter (s_l1Cur_spans_L2) (r2.2.code_, r2.2.at_, r2.2.seed_.v, n1)).bind fun ((v13, v14, v15, n4) : (List UInt8) × Int × Int × (List Span)) =>
    some (v13, v14, v15, n4)
  else
    some (r2.2.code_, r2.2.at_, r2.2.seed_.v, n1)).bind fun ((v7, v8, v9, n2) : (List UInt8) × Int × Int × (List Span)) =>
  some (n2, (⟨v7, v8, (⟨v9⟩ : IK .u64)⟩ : l1Cur))
noncomputable def s_DrawFreeSpans (code : List UInt8) : Option ((List Span) × Span) :=
  (s_l1Cur_spans (⟨code, 0, (⟨0⟩ : IK .u64)⟩ : l1Cur)).bind fun r =>
  (s_l1Cur_one r.2 4).bind fun r1 =>
  if r1.1 = true then
    (s_l1Cur_span r1.2).bind fun r2 =>
    some (r.1, r2.1)
  else
    some (r.1, (⟨360, 700⟩ : Span))
noncomputable def i_within (n : Int) (lo : Int) (hi : Int) : Option (Bool) :=
  (if (decide (lo ≤ n)) = true then some (decide (n ≤ hi)) else some false).bind fun (v : Bool) =>
  some v
noncomputable def i_IsValidTime (t : Int) : Option (Bool) :=
  (i_within t 0 1799).bind fun r =>
  some r
noncomputable def i_isSpan (s : Span) : Option (Bool) :=
  (i_IsValidTime s.From).bind fun r =>
  (if r = true then (i_IsValidTime s.To).bind fun r1 =>
  if r1 = true then some (decide (s.From ≤ s.To)) else some false else some false).bind fun (v : Bool) =>
  some v
noncomputable def i_areSpans_L1 (list : List Span) : Int → Option (Lp (Int) (Fl (Bool) (Unit)))
  | v =>
    if (decide (v < (list.length : Int))) = true then
      (idx list v).bind fun e =>
      (i_isSpan e).bind fun r =>
      if (!r) = true then
        some (.dn (.ret false))
      else
        some (.nx (w64 (v + 1)))
    else
      some (.dn (.go ()))
noncomputable def i_areSpans (list : List Span) : Option (Bool) :=
  if (decide (20 < (list.length : Int))) = true then
    some false
  else
    flb (iter (i_areSpans_L1 list) (0 : Int)) fun (_ : Unit) =>
    some true
noncomputable def slices_Clone_Span (s : List Span) : Option ((List Span)) :=
  (chk (([] : List Span).length + s.length ≤ 4294967296)).bind fun u =>
  some s
noncomputable def cmp_isNaN_int (x : Int) : Option (Bool) :=
  some (x != x)
noncomputable def cmp_Compare_int (x : Int) (y_ : Int) : Option (Int) :=
  (cmp_isNaN_int x).bind fun r =>
  (cmp_isNaN_int y_).bind fun r1 =>
  if r = true then
    if r1 = true then
      some 0
    else
      some (-1)
  else
    if r1 = true then
      some 1
    else
      if (decide (x < y_)) = true then
        some (-1)
      else
        if (decide (y_ < x)) = true then
          some 1
        else
          some 0
noncomputable def i_mergeSpans_1 (a : Span) (b : Span) : Option (Int) :=
  (cmp_Compare_int a.From b.From).bind fun r =>
  some r
noncomputable def math_bits_Len64 (x : IK .u64) : Option (Int) :=
  (if (decide (4294967296 ≤ x.v)) = true then
    (chk ((0 : Int) ≤ 32)).bind fun u =>
    some ((x.v.fdiv (2 ^ (min (32 : Int).toNat (IntKind.u64).bits))), (32 : Int))
  else
    some (x.v, (0 : Int))).bind fun ((x1, v) : Int × Int) =>
  (if (decide (65536 ≤ x1)) = true then
    (chk ((0 : Int) ≤ 16)).bind fun u1 =>
    some ((x1.fdiv (2 ^ (min (16 : Int).toNat (IntKind.u64).bits))), (w64 (v + 16)))
  else
    some (x1, v)).bind fun ((x2, v1) : Int × Int) =>
  (if (decide (256 ≤ x2)) = true then
    (chk ((0 : Int) ≤ 8)).bind fun u2 =>
    some ((x2.fdiv (2 ^ (min (8 : Int).toNat (IntKind.u64).bits))), (w64 (v1 + 8)))
  else
    some (x2, v1)).bind fun ((x3, v2) : Int × Int) =>
  (chk ((0 : Int) ≤ (IntKind.u8.wrap (x3)) ∧ (IntKind.u8.wrap (x3)) < ((str [0, 1, 2, 2, 3, 3, 3, 3, 4, 4, 4, 4, 4, 4, 4, 4, 5, 5, 5, 5, 5, 5, 5, 5, 5, 5, 5, 5, 5, 5, 5, 5, 6, 6, 6, 6, 6, 6, 6, 6, 6, 6, 6, 6, 6, 6, 6, 6, 6, 6, 6, 6, 6, 6, 6, 6, 6, 6, 6, 6, 6, 6, 6, 6, 7, 7, 7, 7, 7, 7, 7, 7, 7, 7, 7, 7, 7, 7, 7, 7, 7, 7, 7, 7, 7, 7, 7, 7, 7, 7, 7, 7, 7, 7, 7, 7, 7, 7, 7, 7, 7, 7, 7, 7, 7, 7, 7, 7, 7, 7, 7, 7, 7, 7, 7, 7, 7, 7, 7, 7, 7, 7, 7, 7, 7, 7, 7, 7, 8, 8, 8, 8, 8, 8, 8, 8, 8, 8, 8, 8, 8, 8, 8, 8, 8, 8, 8, 8, 8, 8, 8, 8, 8, 8, 8, 8, 8, 8, 8, 8, 8, 8, 8, 8, 8, 8, 8, 8, 8, 8, 8, 8, 8, 8, 8, 8, 8, 8, 8, 8, 8, 8, 8, 8, 8, 8, 8, 8, 8, 8, 8, 8, 8, 8, 8, 8, 8, 8, 8, 8, 8, 8, 8, 8, 8, 8, 8, 8, 8, 8, 8, 8, 8, 8, 8, 8, 8, 8, 8, 8, 8, 8, 8, 8, 8, 8, 8, 8, 8, 8, 8, 8, 8, 8, 8, 8, 8, 8, 8, 8, 8, 8, 8, 8, 8, 8, 8, 8, 8, 8, 8, 8, 8, 8, 8, 8]).size : Int))).bind fun u3 =>
  some (w64 (v2 + (w64 ((((str [0, 1, 2, 2, 3, 3, 3, 3, 4, 4, 4, 4, 4, 4, 4, 4, 5, 5, 5, 5, 5, 5, 5, 5, 5, 5, 5, 5, 5, 5, 5, 5, 6, 6, 6, 6, 6, 6, 6, 6, 6, 6, 6, 6, 6, 6, 6, 6, 6, 6, 6, 6, 6, 6, 6, 6, 6, 6, 6, 6, 6, 6, 6, 6, 7, 7, 7, 7, 7, 7, 7, 7, 7, 7, 7, 7, 7, 7, 7, 7, 7, 7, 7, 7, 7, 7, 7, 7, 7, 7, 7, 7, 7, 7, 7, 7, 7, 7, 7, 7, 7, 7, 7, 7, 7, 7, 7, 7, 7, 7, 7, 7, 7, 7, 7, 7, 7, 7, 7, 7, 7, 7, 7, 7, 7, 7, 7, 7, 8, 8, 8, 8, 8, 8, 8, 8, 8, 8, 8, 8, 8, 8, 8, 8, 8, 8, 8, 8, 8, 8, 8, 8, 8, 8, 8, 8, 8, 8, 8, 8, 8, 8, 8, 8, 8, 8, 8, 8, 8, 8, 8, 8, 8, 8, 8, 8, 8, 8, 8, 8, 8, 8, 8, 8, 8, 8, 8, 8, 8, 8, 8, 8, 8, 8, 8, 8, 8, 8, 8, 8, 8, 8, 8, 8, 8, 8, 8, 8, 8, 8, 8, 8, 8, 8, 8, 8, 8, 8, 8, 8, 8, 8, 8, 8, 8, 8, 8, 8, 8, 8, 8, 8, 8, 8, 8, 8, 8, 8, 8, 8, 8, 8, 8, 8, 8, 8, 8, 8, 8, 8, 8, 8, 8, 8, 8, 8]).data.toList.getD (IntKind.u8.wrap (x3)).toNat 0).toNat : Int)))))
noncomputable def math_bits_Len (x : IK .u64) : Option (Int) :=
  (math_bits_Len64 x).bind fun r =>
  some r
noncomputable def slices_insertionSortCmpFunc_Span_w_L1 (a : Int) (cmp : Span → Span → Option (Int)) : Int × (List Span) → Option (Lp (Int × (List Span)) ((List Span)))
  | (v1, data2) =>
    (if (decide (a < v1)) = true then (idx data2 v1).bind fun e2 =>
    (idx data2 (w64 (v1 - 1))).bind fun e3 =>
    (cmp e2 e3).bind fun r1 =>
    some (decide (r1 < 0)) else some false).bind fun (v2 : Bool) =>
    if v2 = true then
      (idx data2 (w64 (v1 - 1))).bind fun e8 =>
      (idx data2 v1).bind fun e9 =>
      (idx data2 v1).bind fun e10 =>
      (idx (data2.set v1.toNat e8) (w64 (v1 - 1))).bind fun e11 =>
      some (.nx ((w64 (v1 - 1)), ((data2.set v1.toNat e8).set (w64 (v1 - 1)).toNat e9)))
    else
      some (.dn data2)
noncomputable def slices_insertionSortCmpFunc_Span_w_L2 (a : Int) (b : Int) (cmp : Span → Span → Option (Int)) : Int × (List Span) → Option (Lp (Int × (List Span)) ((List Span)))
  | (v, data1) =>
    if (decide (v < b)) = true then
      (iter (slices_insertionSortCmpFunc_Span_w_L1 a cmp) (v, data1)).bind fun (data3 : List Span) =>
      some (.nx ((w64 (v + 1)), data3))
    else
      some (.dn data1)
noncomputable def slices_insertionSortCmpFunc_Span_w (data : List Span) (a : Int) (b : Int) (cmp : Span → Span → Option (Int)) : Option ((List Span)) :=
  iter (slices_insertionSortCmpFunc_Span_w_L2 a b cmp) ((w64 (a + 1)), data)
noncomputable def slices_insertionSortCmpFunc_Span_w__i_mergeSpans_1 (data : List Span) (a : Int) (b : Int) : Option ((List Span)) :=
  slices_insertionSortCmpFunc_Span_w data a b (fun (z0 : Span) (z1 : Span) => i_mergeSpans_1 z0 z1)
noncomputable def slices_siftDownCmpFunc_Span_w_L1 (hi : Int) (first : Int) (cmp : Span → Span → Option (Int)) : Int × (List Span) → Option (Lp (Int × (List Span)) ((List Span)))
  | (v, data1) =>
    if (decide (hi ≤ (w64 ((w64 (2 * v)) + 1)))) = true then
      some (.dn data1)
    else
      ((if (decide ((w64 ((w64 ((w64 (2 * v)) + 1)) + 1)) < hi)) = true then (idx data1 (w64 (first + (w64 ((w64 (2 * v)) + 1))))).bind fun e3 =>
      (idx data1 (w64 ((w64 (first + (w64 ((w64 (2 * v)) + 1)))) + 1))).bind fun e4 =>
      (cmp e3 e4).bind fun r2 =>
      some (decide (r2 < 0)) else some false).bind fun (v2 : Bool) =>
      if v2 = true then
        some (w64 ((w64 ((w64 (2 * v)) + 1)) + 1))
      else
        some (w64 ((w64 (2 * v)) + 1))).bind fun (v1 : Int) =>
      (idx data1 (w64 (first + v))).bind fun e7 =>
      (idx data1 (w64 (first + v1))).bind fun e8 =>
      (cmp e7 e8).bind fun r4 =>
      if (!(decide (r4 < 0))) = true then
        some (.dn data1)
      else
        (idx data1 (w64 (first + v1))).bind fun e14 =>
        (idx data1 (w64 (first + v))).bind fun e15 =>
        (idx data1 (w64 (first + v))).bind fun e16 =>
        (idx (data1.set (w64 (first + v)).toNat e14) (w64 (first + v1))).bind fun e17 =>
        some (.nx (v1, ((data1.set (w64 (first + v)).toNat e14).set (w64 (first + v1)).toNat e15)))
noncomputable def slices_siftDownCmpFunc_Span_w (data : List Span) (lo : Int) (hi : Int) (first : Int) (cmp : Span → Span → Option (Int)) : Option ((List Span)) :=
  iter (slices_siftDownCmpFunc_Span_w_L1 hi first cmp) (lo, data)
noncomputable def slices_siftDownCmpFunc_Span_w__i_mergeSpans_1 (data : List Span) (lo : Int) (hi : Int) (first : Int) : Option ((List Span)) :=
  slices_siftDownCmpFunc_Span_w data lo hi first (fun (z0 : Span) (z1 : Span) => i_mergeSpans_1 z0 z1)
noncomputable def slices_heapSortCmpFunc_Span_w_L1 (a : Int) (b : Int) (cmp : Span → Span → Option (Int)) : Int × (List Span) → Option (Lp (Int × (List Span)) ((List Span)))
  | (v, data1) =>
    if (decide (0 ≤ v)) = true then
      (slices_siftDownCmpFunc_Span_w data1 v (w64 (b - a)) a cmp).bind fun r =>
      some (.nx ((w64 (v - 1)), r))
    else
      some (.dn data1)
noncomputable def slices_heapSortCmpFunc_Span_w_L2 (a : Int) (cmp : Span → Span → Option (Int)) : Int × (List Span) → Option (Lp (Int × (List Span)) ((List Span)))
  | (v1, data3) =>
    if (decide (0 ≤ v1)) = true then
      (idx data3 (w64 (a + v1))).bind fun e4 =>
      (idx data3 a).bind fun e5 =>
      (idx data3 a).bind fun e6 =>
      (idx (data3.set a.toNat e4) (w64 (a + v1))).bind fun e7 =>
      (slices_siftDownCmpFunc_Span_w ((data3.set a.toNat e4).set (w64 (a + v1)).toNat e5) 0 v1 a cmp).bind fun r1 =>
      some (.nx ((w64 (v1 - 1)), r1))
    else
      some (.dn data3)
noncomputable def slices_heapSortCmpFunc_Span_w (data : List Span) (a : Int) (b : Int) (cmp : Span → Span → Option (Int)) : Option ((List Span)) :=
  (chk ((2 : Int) ≠ 0)).bind fun u =>
  (iter (slices_heapSortCmpFunc_Span_w_L1 a b cmp) ((w64 ((w64 ((w64 (b - a)) - 1)).tdiv 2)), data)).bind fun (data2 : List Span) =>
  iter (slices_heapSortCmpFunc_Span_w_L2 a cmp) ((w64 ((w64 (b - a)) - 1)), data2)
noncomputable def slices_heapSortCmpFunc_Span_w__i_mergeSpans_1 (data : List Span) (a : Int) (b : Int) : Option ((List Span)) :=
  slices_heapSortCmpFunc_Span_w data a b (fun (z0 : Span) (z1 : Span) => i_mergeSpans_1 z0 z1)
noncomputable def slices_order2CmpFunc_Span (data : List Span) (a : Int) (b : Int) (swaps : Int) (cmp : Span → Span → Option (Int)) : Option (Int × Int × Int) :=
  (idx data b).bind fun e2 =>
  (idx data a).bind fun e3 =>
  (cmp e2 e3).bind fun r1 =>
  if (decide (r1 < 0)) = true then
    some (b, a, (w64 (swaps + 1)))
  else
    some (a, b, swaps)
noncomputable def slices_order2CmpFunc_Span__i_mergeSpans_1 (data : List Span) (a : Int) (b : Int) (swaps : Int) : Option (Int × Int × Int) :=
  slices_order2CmpFunc_Span data a b swaps (fun (z0 : Span) (z1 : Span) => i_mergeSpans_1 z0 z1)
noncomputable def slices_medianCmpFunc_Span (data : List Span) (a : Int) (b : Int) (c : Int) (swaps : Int) (cmp : Span → Span → Option (Int)) : Option (Int × Int) :=
  (slices_order2CmpFunc_Span data a b swaps cmp).bind fun r =>
  (slices_order2CmpFunc_Span data r.2.1 c r.2.2 cmp).bind fun r1 =>
  (slices_order2CmpFunc_Span data r.1 r1.1 r1.2.2 cmp).bind fun r2 =>
  some (r2.2.1, r2.2.2)
noncomputable def slices_medianCmpFunc_Span__i_mergeSpans_1 (data : List Span) (a : Int) (b : Int) (c : Int) (swaps : Int) : Option (Int × Int) :=
  slices_medianCmpFunc_Span data a b c swaps (fun (z0 : Span) (z1 : Span) => i_mergeSpans_1 z0 z1)
noncomputable def slices_medianAdjacentCmpFunc_Span (data : List Span) (a : Int) (swaps : Int) (cmp : Span → Span → Option (Int)) : Option (Int × Int) :=
  (slices_medianCmpFunc_Span data (w64 (a - 1)) a (w64 (a + 1)) swaps cmp).bind fun r =>
  some (r.1, r.2)
noncomputable def slices_medianAdjacentCmpFunc_Span__i_mergeSpans_1 (data : List Span) (a : Int) (swaps : Int) : Option (Int × Int) :=
  slices_medianAdjacentCmpFunc_Span data a swaps (fun (z0 : Span) (z1 : Span) => i_mergeSpans_1 z0 z1)
noncomputable def slices_choosePivotCmpFunc_Span (data : List Span) (a : Int) (b : Int) (cmp : Span → Span → Option (Int)) : Option (Int × Int) :=
  (chk ((4 : Int) ≠ 0)).bind fun u =>
  (chk ((4 : Int) ≠ 0)).bind fun u1 =>
  (chk ((4 : Int) ≠ 0)).bind fun u2 =>
  (if (decide (8 ≤ (w64 (b - a)))) = true then
    (if (decide (50 ≤ (w64 (b - a)))) = true then
      (slices_medianAdjacentCmpFunc_Span data (w64 (a + (w64 ((w64 ((w64 (b - a)).tdiv 4)) * 1)))) 0 cmp).bind fun r =>
      (slices_medianAdjacentCmpFunc_Span data (w64 (a + (w64 ((w64 ((w64 (b - a)).tdiv 4)) * 2)))) r.2 cmp).bind fun r1 =>
      (slices_medianAdjacentCmpFunc_Span data (w64 (a + (w64 ((w64 ((w64 (b - a)).tdiv 4)) * 3)))) r1.2 cmp).bind fun r2 =>
      some (r.1, r1.1, r2.1, r2.2)
    else
      some ((w64 (a + (w64 ((w64 ((w64 (b - a)).tdiv 4)) * 1)))), (w64 (a + (w64 ((w64 ((w64 (b - a)).tdiv 4)) * 2)))), (w64 (a + (w64 ((w64 ((w64 (b - a)).tdiv 4)) * 3)))), (0 : Int))).bind fun ((v2, v3, v4, v5) : Int × Int × Int × Int) =>
    (slices_medianCmpFunc_Span data v2 v3 v4 v5 cmp).bind fun r3 =>
    some (r3.1, r3.2)
  else
    some ((w64 (a + (w64 ((w64 ((w64 (b - a)).tdiv 4)) * 2)))), (0 : Int))).bind fun ((v, v1) : Int × Int) =>
  if (v1 == 0) = true then
    some (v, 1)
  else
    if (v1 == 12) = true then
      some (v, 2)
    else
      some (v, 0)
noncomputable def slices_choosePivotCmpFunc_Span__i_mergeSpans_1 (data : List Span) (a : Int) (b : Int) : Option (Int × Int) :=
  slices_choosePivotCmpFunc_Span data a b (fun (z0 : Span) (z1 : Span) => i_mergeSpans_1 z0 z1)
noncomputable def slices_reverseRangeCmpFunc_Span_w_L1 : Int × Int × (List Span) → Option (Lp (Int × Int × (List Span)) ((List Span)))
  | (v, v1, data1) =>
    if (decide (v < v1)) = true then
      (idx data1 v1).bind fun e4 =>
      (idx data1 v).bind fun e5 =>
      (idx data1 v).bind fun e6 =>
      (idx (data1.set v.toNat e4) v1).bind fun e7 =>
      some (.nx ((w64 (v + 1)), (w64 (v1 - 1)), ((data1.set v.toNat e4).set v1.toNat e5)))
    else
      some (.dn data1)
noncomputable def slices_reverseRangeCmpFunc_Span_w (data : List Span) (a : Int) (b : Int) (cmp : Span → Span → Option (Int)) : Option ((List Span)) :=
  iter (slices_reverseRangeCmpFunc_Span_w_L1) (a, (w64 (b - 1)), data)
noncomputable def slices_reverseRangeCmpFunc_Span_w__i_mergeSpans_1 (data : List Span) (a : Int) (b : Int) : Option ((List Span)) :=
  slices_reverseRangeCmpFunc_Span_w data a b (fun (z0 : Span) (z1 : Span) => i_mergeSpans_1 z0 z1)
noncomputable def slices_partialInsertionSortCmpFunc_Span_w_L1 (b : Int) (cmp : Span → Span → Option (Int)) (data1 : List Span) : Int → Option (Lp (Int) (Int))
  | v3 =>
    (if (decide (v3 < b)) = true then (idx data1 v3).bind fun e2 =>
    (idx data1 (w64 (v3 - 1))).bind fun e3 =>
    (cmp e2 e3).bind fun r1 =>
    some (!(decide (r1 < 0))) else some false).bind fun (v4 : Bool) =>
    if v4 = true then
      some (.nx (w64 (v3 + 1)))
    else
      some (.dn v3)
noncomputable def slices_partialInsertionSortCmpFunc_Span_w_L2 (cmp : Span → Span → Option (Int)) : Int × (List Span) → Option (Lp (Int × (List Span)) ((List Span)))
  | (v6, data4) =>
    if (decide (1 ≤ v6)) = true then
      (idx data4 v6).bind fun e18 =>
      (idx data4 (w64 (v6 - 1))).bind fun e19 =>
      (cmp e18 e19).bind fun r7 =>
      if (!(decide (r7 < 0))) = true then
        some (.dn data4)
      else
        (idx data4 (w64 (v6 - 1))).bind fun e24 =>
        (idx data4 v6).bind fun e25 =>
        (idx data4 v6).bind fun e26 =>
        (idx (data4.set v6.toNat e24) (w64 (v6 - 1))).bind fun e27 =>
        some (.nx ((w64 (v6 - 1)), ((data4.set v6.toNat e24).set (w64 (v6 - 1)).toNat e25)))
    else
      some (.dn data4)
noncomputable def slices_partialInsertionSortCmpFunc_Span_w_L3 (b : Int) (cmp : Span → Span → Option (Int)) : Int × (List Span) → Option (Lp (Int × (List Span)) ((List Span)))
  | (v7, data6) =>
    if (decide (v7 < b)) = true then
      (idx data6 v7).bind fun e30 =>
      (idx data6 (w64 (v7 - 1))).bind fun e31 =>
      (cmp e30 e31).bind fun r9 =>
      if (!(decide (r9 < 0))) = true then
        some (.dn data6)
      else
        (idx data6 (w64 (v7 - 1))).bind fun e36 =>
        (idx data6 v7).bind fun e37 =>
        (idx data6 v7).bind fun e38 =>
        (idx (data6.set v7.toNat e36) (w64 (v7 - 1))).bind fun e39 =>
        some (.nx ((w64 (v7 + 1)), ((data6.set v7.toNat e36).set (w64 (v7 - 1)).toNat e37)))
    else
      some (.dn data6)
noncomputable def slices_partialInsertionSortCmpFunc_Span_w_L4 (a : Int) (b : Int) (cmp : Span → Span → Option (Int)) : Int × Int × (List Span) → Option (Lp (Int × Int × (List Span)) (Fl (Bool × (List Span)) ((List Span))))
  | (v, v1, data1) =>
    if (decide (v1 < 5)) = true then
      flb ((iter (slices_partialInsertionSortCmpFunc_Span_w_L1 b cmp data1) v).bind fun (v5 : Int) =>
      if (v5 == b) = true then
        some (.ret (.dn (.ret (true, data1))))
      else
        if (decide ((w64 (b - a)) < 50)) = true then
          some (.ret (.dn (.ret (false, data1))))
        else
          (idx data1 (w64 (v5 - 1))).bind fun e12 =>
          (idx data1 v5).bind fun e13 =>
          (idx data1 v5).bind fun e14 =>
          (idx (data1.set v5.toNat e12) (w64 (v5 - 1))).bind fun e15 =>
          (if (decide (2 ≤ (w64 (v5 - a)))) = true then
            (iter (slices_partialInsertionSortCmpFunc_Span_w_L2 cmp) ((w64 (v5 - 1)), ((data1.set v5.toNat e12).set (w64 (v5 - 1)).toNat e13))).bind fun (data5 : List Span) =>
            some data5
          else
            some ((data1.set v5.toNat e12).set (w64 (v5 - 1)).toNat e13)).bind fun (data3 : List Span) =>
          if (decide (2 ≤ (w64 (b - v5)))) = true then
            (iter (slices_partialInsertionSortCmpFunc_Span_w_L3 b cmp) ((w64 (v5 + 1)), data3)).bind fun (data7 : List Span) =>
            some (.go (v5, data7))
          else
            some (.go (v5, data3))) fun ((v2, data2) : Int × (List Span)) =>
      some (.nx (v2, (w64 (v1 + 1)), data2))
    else
      some (.dn (.go data1))
noncomputable def slices_partialInsertionSortCmpFunc_Span_w (data : List Span) (a : Int) (b : Int) (cmp : Span → Span → Option (Int)) : Option (Bool × (List Span)) :=
  flb (iter (slices_partialInsertionSortCmpFunc_Span_w_L4 a b cmp) ((w64 (a + 1)), (0 : Int), data)) fun (data8 : List Span) =>
  some (false, data8)
noncomputable def slices_partialInsertionSortCmpFunc_Span_w__i_mergeSpans_1 (data : List Span) (a : Int) (b : Int) : Option (Bool × (List Span)) :=
  slices_partialInsertionSortCmpFunc_Span_w data a b (fun (z0 : Span) (z1 : Span) => i_mergeSpans_1 z0 z1)
noncomputable def slices_partitionEqualCmpFunc_Span_w_L1 (a : Int) (cmp : Span → Span → Option (Int)) (v1 : Int) (data1 : List Span) : Int → Option (Lp (Int) (Int))
  | v2 =>
    (if (decide (v2 ≤ v1)) = true then (idx data1 a).bind fun e10 =>
    (idx data1 v2).bind fun e11 =>
    (cmp e10 e11).bind fun r1 =>
    some (!(decide (r1 < 0))) else some false).bind fun (v3 : Bool) =>
    if v3 = true then
      some (.nx (w64 (v2 + 1)))
    else
      some (.dn v2)
noncomputable def slices_partitionEqualCmpFunc_Span_w_L2 (a : Int) (cmp : Span → Span → Option (Int)) (data1 : List Span) (v4 : Int) : Int → Option (Lp (Int) (Int))
  | v5 =>
    (if (decide (v4 ≤ v5)) = true then (idx data1 a).bind fun e14 =>
    (idx data1 v5).bind fun e15 =>
    (cmp e14 e15).bind fun r3 =>
    some (decide (r3 < 0)) else some false).bind fun (v6 : Bool) =>
    if v6 = true then
      some (.nx (w64 (v5 - 1)))
    else
      some (.dn v5)
noncomputable def slices_partitionEqualCmpFunc_Span_w_L3 (a : Int) (cmp : Span → Span → Option (Int)) : Int × Int × (List Span) → Option (Lp (Int × Int × (List Span)) (Int × (List Span)))
  | (v, v1, data1) =>
    (iter (slices_partitionEqualCmpFunc_Span_w_L1 a cmp v1 data1) v).bind fun (v4 : Int) =>
    (iter (slices_partitionEqualCmpFunc_Span_w_L2 a cmp data1 v4) v1).bind fun (v7 : Int) =>
    if (decide (v7 < v4)) = true then
      some (.dn (v4, data1))
    else
      (idx data1 v7).bind fun e20 =>
      (idx data1 v4).bind fun e21 =>
      (idx data1 v4).bind fun e22 =>
      (idx (data1.set v4.toNat e20) v7).bind fun e23 =>
      some (.nx ((w64 (v4 + 1)), (w64 (v7 - 1)), ((data1.set v4.toNat e20).set v7.toNat e21)))
noncomputable def slices_partitionEqualCmpFunc_Span_w (data : List Span) (a : Int) (b : Int) (pivot : Int) (cmp : Span → Span → Option (Int)) : Option (Int × (List Span)) :=
  (idx data pivot).bind fun e4 =>
  (idx data a).bind fun e5 =>
  (idx data a).bind fun e6 =>
  (idx (data.set a.toNat e4) pivot).bind fun e7 =>
  (iter (slices_partitionEqualCmpFunc_Span_w_L3 a cmp) ((w64 (a + 1)), (w64 (b - 1)), ((data.set a.toNat e4).set pivot.toNat e5))).bind fun ((v8, data2) : Int × (List Span)) =>
  some (v8, data2)
noncomputable def slices_partitionEqualCmpFunc_Span_w__i_mergeSpans_1 (data : List Span) (a : Int) (b : Int) (pivot : Int) : Option (Int × (List Span)) :=
  slices_partitionEqualCmpFunc_Span_w data a b pivot (fun (z0 : Span) (z1 : Span) => i_mergeSpans_1 z0 z1)
noncomputable def slices_partitionCmpFunc_Span_w_L1 (data : List Span) (a : Int) (b : Int) (pivot : Int) (cmp : Span → Span → Option (Int)) (e4 : Span) (e5 : Span) : Int → Option (Lp (Int) (Int))
  | v =>
    (if (decide (v ≤ (w64 (b - 1)))) = true then (idx ((data.set a.toNat e4).set pivot.toNat e5) v).bind fun e10 =>
    (idx ((data.set a.toNat e4).set pivot.toNat e5) a).bind fun e11 =>
    (cmp e10 e11).bind fun r1 =>
    some (decide (r1 < 0)) else some false).bind fun (v1 : Bool) =>
    if v1 = true then
      some (.nx (w64 (v + 1)))
    else
      some (.dn v)
noncomputable def slices_partitionCmpFunc_Span_w_L2 (data : List Span) (a : Int) (pivot : Int) (cmp : Span → Span → Option (Int)) (e4 : Span) (e5 : Span) (v2 : Int) : Int → Option (Lp (Int) (Int))
  | v3 =>
    (if (decide (v2 ≤ v3)) = true then (idx ((data.set a.toNat e4).set pivot.toNat e5) v3).bind fun e14 =>
    (idx ((data.set a.toNat e4).set pivot.toNat e5) a).bind fun e15 =>
    (cmp e14 e15).bind fun r3 =>
    some (!(decide (r3 < 0))) else some false).bind fun (v4 : Bool) =>
    if v4 = true then
      some (.nx (w64 (v3 - 1)))
    else
      some (.dn v3)
noncomputable def slices_partitionCmpFunc_Span_w_L3 (a : Int) (cmp : Span → Span → Option (Int)) (v7 : Int) (data1 : List Span) : Int → Option (Lp (Int) (Int))
  | v8 =>
    (if (decide (v8 ≤ v7)) = true then (idx data1 v8).bind fun e34 =>
    (idx data1 a).bind fun e35 =>
    (cmp e34 e35).bind fun r5 =>
    some (decide (r5 < 0)) else some false).bind fun (v9 : Bool) =>
    if v9 = true then
      some (.nx (w64 (v8 + 1)))
    else
      some (.dn v8)
noncomputable def slices_partitionCmpFunc_Span_w_L4 (a : Int) (cmp : Span → Span → Option (Int)) (data1 : List Span) (v10 : Int) : Int → Option (Lp (Int) (Int))
  | v11 =>
    (if (decide (v10 ≤ v11)) = true then (idx data1 v11).bind fun e38 =>
    (idx data1 a).bind fun e39 =>
    (cmp e38 e39).bind fun r7 =>
    some (!(decide (r7 < 0))) else some false).bind fun (v12 : Bool) =>
    if v12 = true then
      some (.nx (w64 (v11 - 1)))
    else
      some (.dn v11)
noncomputable def slices_partitionCmpFunc_Span_w_L5 (a : Int) (cmp : Span → Span → Option (Int)) : Int × Int × (List Span) → Option (Lp (Int × Int × (List Span)) (Int × (List Span)))
  | (v6, v7, data1) =>
    (iter (slices_partitionCmpFunc_Span_w_L3 a cmp v7 data1) v6).bind fun (v10 : Int) =>
    (iter (slices_partitionCmpFunc_Span_w_L4 a cmp data1 v10) v7).bind fun (v13 : Int) =>
    if (decide (v13 < v10)) = true then
      some (.dn (v13, data1))
    else
      (idx data1 v13).bind fun e44 =>
      (idx data1 v10).bind fun e45 =>
      (idx data1 v10).bind fun e46 =>
      (idx (data1.set v10.toNat e44) v13).bind fun e47 =>
      some (.nx ((w64 (v10 + 1)), (w64 (v13 - 1)), ((data1.set v10.toNat e44).set v13.toNat e45)))
noncomputable def slices_partitionCmpFunc_Span_w (data : List Span) (a : Int) (b : Int) (pivot : Int) (cmp : Span → Span → Option (Int)) : Option (Int × Bool × (List Span)) :=
  (idx data pivot).bind fun e4 =>
  (idx data a).bind fun e5 =>
  (idx data a).bind fun e6 =>
  (idx (data.set a.toNat e4) pivot).bind fun e7 =>
  (iter (slices_partitionCmpFunc_Span_w_L1 data a b pivot cmp e4 e5) (w64 (a + 1))).bind fun (v2 : Int) =>
  (iter (slices_partitionCmpFunc_Span_w_L2 data a pivot cmp e4 e5 v2) (w64 (b - 1))).bind fun (v5 : Int) =>
  if (decide (v5 < v2)) = true then
    (idx ((data.set a.toNat e4).set pivot.toNat e5) a).bind fun e20 =>
    (idx ((data.set a.toNat e4).set pivot.toNat e5) v5).bind fun e21 =>
    (idx ((data.set a.toNat e4).set pivot.toNat e5) v5).bind fun e22 =>
    (idx (((data.set a.toNat e4).set pivot.toNat e5).set v5.toNat e20) a).bind fun e23 =>
    some (v5, true, ((((data.set a.toNat e4).set pivot.toNat e5).set v5.toNat e20).set a.toNat e21))
  else
    (idx ((data.set a.toNat e4).set pivot.toNat e5) v5).bind fun e28 =>
    (idx ((data.set a.toNat e4).set pivot.toNat e5) v2).bind fun e29 =>
    (idx ((data.set a.toNat e4).set pivot.toNat e5) v2).bind fun e30 =>
    (idx (((data.set a.toNat e4).set pivot.toNat e5).set v2.toNat e28) v5).bind fun e31 =>
    (iter (slices_partitionCmpFunc_Span_w_L5 a cmp) ((w64 (v2 + 1)), (w64 (v5 - 1)), ((((data.set a.toNat e4).set pivot.toNat e5).set v2.toNat e28).set v5.toNat e29))).bind fun ((v14, data2) : Int × (List Span)) =>
    (idx data2 a).bind fun e52 =>
    (idx data2 v14).bind fun e53 =>
    (idx data2 v14).bind fun e54 =>
    (idx (data2.set v14.toNat e52) a).bind fun e55 =>
    some (v14, false, ((data2.set v14.toNat e52).set a.toNat e53))
noncomputable def slices_partitionCmpFunc_Span_w__i_mergeSpans_1 (data : List Span) (a : Int) (b : Int) (pivot : Int) : Option (Int × Bool × (List Span)) :=
  slices_partitionCmpFunc_Span_w data a b pivot (fun (z0 : Span) (z1 : Span) => i_mergeSpans_1 z0 z1)
noncomputable def slices_nextPowerOfTwo (length : Int) : Option ((IK .u64)) :=
  (math_bits_Len (⟨(IntKind.u64.wrap (length))⟩ : IK .u64)).bind fun r =>
  (chk ((0 : Int) ≤ r)).bind fun u =>
  some (⟨(IntKind.u64.wrap (1 * 2 ^ (min (r : Int).toNat (IntKind.u64).bits)))⟩ : IK .u64)
noncomputable def slices_xorshift_Next (r : IK .u64) : Option ((IK .u64) × (IK .u64)) :=
  (chk ((0 : Int) ≤ 13)).bind fun u1 =>
  (chk ((0 : Int) ≤ 7)).bind fun u3 =>
  (chk ((0 : Int) ≤ 17)).bind fun u5 =>
  some ((⟨(IntKind.u64.wrap ((BitVec.ofInt (IntKind.u64).bits (IntKind.u64.wrap ((BitVec.ofInt (IntKind.u64).bits (IntKind.u64.wrap ((BitVec.ofInt (IntKind.u64).bits r.v ^^^ BitVec.ofInt (IntKind.u64).bits (IntKind.u64.wrap (r.v * 2 ^ (min (13 : Int).toNat (IntKind.u64).bits)))).toNat : Int)) ^^^ BitVec.ofInt (IntKind.u64).bits ((IntKind.u64.wrap ((BitVec.ofInt (IntKind.u64).bits r.v ^^^ BitVec.ofInt (IntKind.u64).bits (IntKind.u64.wrap (r.v * 2 ^ (min (13 : Int).toNat (IntKind.u64).bits)))).toNat : Int)).fdiv (2 ^ (min (7 : Int).toNat (IntKind.u64).bits)))).toNat : Int)) ^^^ BitVec.ofInt (IntKind.u64).bits (IntKind.u64.wrap ((IntKind.u64.wrap ((BitVec.ofInt (IntKind.u64).bits (IntKind.u64.wrap ((BitVec.ofInt (IntKind.u64).bits r.v ^^^ BitVec.ofInt (IntKind.u64).bits (IntKind.u64.wrap (r.v * 2 ^ (min (13 : Int).toNat (IntKind.u64).bits)))).toNat : Int)) ^^^ BitVec.ofInt (IntKind.u64).bits ((IntKind.u64.wrap ((BitVec.ofInt (IntKind.u64).bits r.v ^^^ BitVec.ofInt (IntKind.u64).bits (IntKind.u64.wrap (r.v * 2 ^ (min (13 : Int).toNat (IntKind.u64).bits)))).toNat : Int)).fdiv (2 ^ (min (7 : Int).toNat (IntKind.u64).bits)))).toNat : Int)) * 2 ^ (min (17 : Int).toNat (IntKind.u64).bits)))).toNat : Int))⟩ : IK .u64), (⟨(IntKind.u64.wrap ((BitVec.ofInt (IntKind.u64).bits (IntKind.u64.wrap ((BitVec.ofInt (IntKind.u64).bits (IntKind.u64.wrap ((BitVec.ofInt (IntKind.u64).bits r.v ^^^ BitVec.ofInt (IntKind.u64).bits (IntKind.u64.wrap (r.v * 2 ^ (min (13 : Int).toNat (IntKind.u64).bits)))).toNat : Int)) ^^^ BitVec.ofInt (IntKind.u64).bits ((IntKind.u64.wrap ((BitVec.ofInt (IntKind.u64).bits r.v ^^^ BitVec.ofInt (IntKind.u64).bits (IntKind.u64.wrap (r.v * 2 ^ (min (13 : Int).toNat (IntKind.u64).bits)))).toNat : Int)).fdiv (2 ^ (min (7 : Int).toNat (IntKind.u64).bits)))).toNat : Int)) ^^^ BitVec.ofInt (IntKind.u64).bits (IntKind.u64.wrap ((IntKind.u64.wrap ((BitVec.ofInt (IntKind.u64).bits (IntKind.u64.wrap ((BitVec.ofInt (IntKind.u64).bits r.v ^^^ BitVec.ofInt (IntKind.u64).bits (IntKind.u64.wrap (r.v * 2 ^ (min (13 : Int).toNat (IntKind.u64).bits)))).toNat : Int)) ^^^ BitVec.ofInt (IntKind.u64).bits ((IntKind.u64.wrap ((BitVec.ofInt (IntKind.u64).bits r.v ^^^ BitVec.ofInt (IntKind.u64).bits (IntKind.u64.wrap (r.v * 2 ^ (min (13 : Int).toNat (IntKind.u64).bits)))).toNat : Int)).fdiv (2 ^ (min (7 : Int).toNat (IntKind.u64).bits)))).toNat : Int)) * 2 ^ (min (17 : Int).toNat (IntKind.u64).bits)))).toNat : Int))⟩ : IK .u64))
noncomputable def slices_breakPatternsCmpFunc_Span_w_L1 (a : Int) (b : Int) (r : (IK .u64)) : Int × (List Span) × Int → Option (Lp (Int × (List Span) × Int) ((List Span)))
  | (v, data1, v1) =>
    (chk ((4 : Int) ≠ 0)).bind fun u1 =>
    if (decide (v ≤ (w64 ((w64 (a + (w64 ((w64 ((w64 (b - a)).tdiv 4)) * 2)))) + 1)))) = true then
      (slices_xorshift_Next (⟨v1⟩ : IK .u64)).bind fun r1 =>
      (if (decide ((w64 (b - a)) ≤ (w64 ((IntKind.u64.wrap ((BitVec.ofInt (IntKind.u64).bits r1.1.v &&& BitVec.ofInt (IntKind.u64).bits (IntKind.u64.wrap (r.v - 1))).toNat : Int)))))) = true then
        some (w64 ((w64 ((IntKind.u64.wrap ((BitVec.ofInt (IntKind.u64).bits r1.1.v &&& BitVec.ofInt (IntKind.u64).bits (IntKind.u64.wrap (r.v - 1))).toNat : Int)))) - (w64 (b - a))))
      else
        some (w64 ((IntKind.u64.wrap ((BitVec.ofInt (IntKind.u64).bits r1.1.v &&& BitVec.ofInt (IntKind.u64).bits (IntKind.u64.wrap (r.v - 1))).toNat : Int))))).bind fun (v2 : Int) =>
      (idx data1 (w64 (a + v2))).bind fun e4 =>
      (idx data1 v).bind fun e5 =>
      (idx data1 v).bind fun e6 =>
      (idx (data1.set v.toNat e4) (w64 (a + v2))).bind fun e7 =>
      some (.nx ((w64 (v + 1)), ((data1.set v.toNat e4).set (w64 (a + v2)).toNat e5), r1.2.v))
    else
      some (.dn data1)
noncomputable def slices_breakPatternsCmpFunc_Span_w (data : List Span) (a : Int) (b : Int) (cmp : Span → Span → Option (Int)) : Option ((List Span)) :=
  if (decide (8 ≤ (w64 (b - a)))) = true then
    (slices_nextPowerOfTwo (w64 (b - a))).bind fun r =>
    (chk ((4 : Int) ≠ 0)).bind fun u =>
    iter (slices_breakPatternsCmpFunc_Span_w_L1 a b r) ((w64 ((w64 (a + (w64 ((w64 ((w64 (b - a)).tdiv 4)) * 2)))) - 1)), data, (IntKind.u64.wrap ((w64 (b - a)))))
  else
    some data
noncomputable def slices_breakPatternsCmpFunc_Span_w__i_mergeSpans_1 (data : List Span) (a : Int) (b : Int) : Option ((List Span)) :=
  slices_breakPatternsCmpFunc_Span_w data a b (fun (z0 : Span) (z1 : Span) => i_mergeSpans_1 z0 z1)
noncomputable def slices_pdqsortCmpFunc_Span_w__i_mergeSpans_1_L1 (rec_ : (List Span) → Int → Int → Int → Option ((List Span))) : Int × Int × Int × Bool × Bool × (List Span) → Option (Lp (Int × Int × Int × Bool × Bool × (List Span)) ((List Span)))
  | (a1, b1, limit1, mid, mid1, data1) =>
    if (decide ((w64 (b1 - a1)) ≤ 12)) = true then
      (slices_insertionSortCmpFunc_Span_w__i_mergeSpans_1 data1 a1 b1).bind fun r =>
      some (.dn r)
    else
      if (limit1 == 0) = true then
        (slices_heapSortCmpFunc_Span_w__i_mergeSpans_1 data1 a1 b1).bind fun r2 =>
        some (.dn r2)
      else
        (if (!mid) = true then
          (slices_breakPatternsCmpFunc_Span_w__i_mergeSpans_1 data1 a1 b1).bind fun r4 =>
          some ((w64 (limit1 - 1)), r4)
        else
          some (limit1, data1)).bind fun ((limit2, data2) : Int × (List Span)) =>
        (slices_choosePivotCmpFunc_Span__i_mergeSpans_1 data2 a1 b1).bind fun r5 =>
        (if (r5.2 == 2) = true then
          (slices_reverseRangeCmpFunc_Span_w__i_mergeSpans_1 data2 a1 b1).bind fun r6 =>
          some ((w64 ((w64 (b1 - 1)) - (w64 (r5.1 - a1)))), (1 : Int), r6)
        else
          some (r5.1, r5.2, data2)).bind fun ((leftLen, rightLen, data3) : Int × Int × (List Span)) =>
        flb ((if mid = true then if mid1 = true then some (rightLen == 1) else some false else some false).bind fun (v : Bool) =>
        if v = true then
          (slices_partialInsertionSortCmpFunc_Span_w__i_mergeSpans_1 data3 a1 b1).bind fun r7 =>
          if r7.1 = true then
            some (.ret (.dn r7.2))
          else
            some (.go r7.2)
        else
          some (.go data3)) fun (data4 : List Span) =>
        (if (decide (0 < a1)) = true then (idx data4 (w64 (a1 - 1))).bind fun e6 =>
        (idx data4 leftLen).bind fun e7 =>
        (i_mergeSpans_1 e6 e7).bind fun r11 =>
        some (!(decide (r11 < 0))) else some false).bind fun (v1 : Bool) =>
        if v1 = true then
          (slices_partitionEqualCmpFunc_Span_w__i_mergeSpans_1 data4 a1 b1 leftLen).bind fun r12 =>
          some (.nx (r12.1, b1, limit2, mid, mid1, r12.2))
        else
          (slices_partitionCmpFunc_Span_w__i_mergeSpans_1 data4 a1 b1 leftLen).bind fun r13 =>
          (chk ((8 : Int) ≠ 0)).bind fun u =>
          if (decide ((w64 (r13.1 - a1)) < (w64 (b1 - r13.1)))) = true then
            (rec_ r13.2.2 a1 r13.1 limit2).bind fun r14 =>
            some (.nx ((w64 (r13.1 + 1)), b1, limit2, (decide ((w64 ((w64 (b1 - a1)).tdiv 8)) ≤ (w64 (r13.1 - a1)))), r13.2.1, r14))
          else
            (rec_ r13.2.2 (w64 (r13.1 + 1)) b1 limit2).bind fun r15 =>
            some (.nx (a1, r13.1, limit2, (decide ((w64 ((w64 (b1 - a1)).tdiv 8)) ≤ (w64 (b1 - r13.1)))), r13.2.1, r15))
noncomputable def slices_pdqsortCmpFunc_Span_w__i_mergeSpans_1_F (rec_ : (List Span) → Int → Int → Int → Option ((List Span))) (data : List Span) (a : Int) (b : Int) (limit : Int) : Option ((List Span)) :=
  iter (slices_pdqsortCmpFunc_Span_w__i_mergeSpans_1_L1 rec_) (a, b, limit, true, true, data)
noncomputable def slices_pdqsortCmpFunc_Span_w__i_mergeSpans_1_k : Nat → (List Span) → Int → Int → Int → Option ((List Span))
  | 0 => fun _ _ _ _ => none
  | n + 1 => slices_pdqsortCmpFunc_Span_w__i_mergeSpans_1_F (slices_pdqsortCmpFunc_Span_w__i_mergeSpans_1_k n)
noncomputable def slices_pdqsortCmpFunc_Span_w__i_mergeSpans_1 (data : List Span) (a : Int) (b : Int) (limit : Int) : Option ((List Span)) := slices_pdqsortCmpFunc_Span_w__i_mergeSpans_1_k 4294967296 data a b limit
noncomputable def slices_SortFunc_Span_w__i_mergeSpans_1 (x : List Span) : Option ((List Span)) :=
  (math_bits_Len (⟨(IntKind.u64.wrap ((x.length : Int)))⟩ : IK .u64)).bind fun r =>
  (slices_pdqsortCmpFunc_Span_w__i_mergeSpans_1 x 0 (x.length : Int) r).bind fun r1 =>
  some r1
noncomputable def i_mergeSpans_L1 (r1 : (List Span)) : Int × (List Span) → Option (Lp (Int × (List Span)) ((List Span)))
  | (v, v1) =>
    if (decide (v < (r1.length : Int))) = true then
      ((idx r1 v).bind fun e =>
      if (e.From == e.To) = true then
        some v1
      else
        (if (decide (0 < (v1.length : Int))) = true then (idx v1 (w64 ((v1.length : Int) - 1))).bind fun e2 =>
        some (decide (e.From ≤ e2.To)) else some false).bind fun (v3 : Bool) =>
        if v3 = true then
          (idx v1 (w64 ((v1.length : Int) - 1))).bind fun e5 =>
          (idx v1 (w64 ((v1.length : Int) - 1))).bind fun e6 =>
          some (v1.set (w64 ((v1.length : Int) - 1)).toNat (⟨e6.From, (if e.To > e5.To then e.To else e5.To)⟩ : Span))
        else
          (chk (v1.length + ([e] : List Span).length ≤ 4294967296)).bind fun u =>
          some (v1 ++ ([e] : List Span))).bind fun (v2 : List Span) =>
      some (.nx ((w64 (v + 1)), v2))
    else
      some (.dn v1)
noncomputable def i_mergeSpans (list : List Span) : Option ((List Span)) :=
  (slices_Clone_Span list).bind fun r =>
  (slices_SortFunc_Span_w__i_mergeSpans_1 r).bind fun r1 =>
  (iter (i_mergeSpans_L1 r1) ((0 : Int), ([] : List Span))).bind fun (v4 : List Span) =>
  some v4
noncomputable def i_FreeSpans_L1 (within : Span) (r3 : (List Span)) : Int × Int × (List Span) → Option (Lp (Int × Int × (List Span)) ((List Span)))
  | (s, v1, v2) =>
    if (decide (v1 < ((r3 ++ ([(⟨within.To, within.To⟩ : Span)] : List Span)).length : Int))) = true then
      (idx (r3 ++ ([(⟨within.To, within.To⟩ : Span)] : List Span)) v1).bind fun e =>
      (if (decide (s < (if within.To < e.From then within.To else e.From))) = true then
        (chk (v2.length + ([(⟨s, (if within.To < e.From then within.To else e.From)⟩ : Span)] : List Span).length ≤ 4294967296)).bind fun u2 =>
        some (v2 ++ ([(⟨s, (if within.To < e.From then within.To else e.From)⟩ : Span)] : List Span))
      else
        some v2).bind fun (v3 : List Span) =>
      some (.nx ((if e.To > s then e.To else s), (w64 (v1 + 1)), v3))
    else
      some (.dn v2)
noncomputable def i_FreeSpans (list : List Span) (within : Span) : Option ((List Span) × Bool) :=
  (i_areSpans list).bind fun r =>
  (if (!r) = true then some true else (i_isSpan within).bind fun r1 =>
  some (!r1)).bind fun (v : Bool) =>
  if v = true then
    some (([] : List Span), false)
  else
    (i_mergeSpans list).bind fun r3 =>
    (chk (r3.length + ([(⟨within.To, within.To⟩ : Span)] : List Span).length ≤ 4294967296)).bind fun u1 =>
    (iter (i_FreeSpans_L1 within r3) (within.From, (0 : Int), ([] : List Span))).bind fun (v4 : List Span) =>
    some (v4, true)
noncomputable def s_l1In (x : Int) (a : Int) (b : Int) : Option (Bool) :=
  (if (decide (a ≤ x)) = true then some (decide (x ≤ b)) else some false).bind fun (v : Bool) =>
  some v
noncomputable def s_l4Time (t : Int) : Option (Bool) :=
  (s_l1In t 0 1799).bind fun r =>
  some r
noncomputable def s_l4Span (x : Span) : Option (Bool) :=
  (s_l4Time x.From).bind fun r =>
  (if r = true then (s_l4Time x.To).bind fun r1 =>
  if r1 = true then some (decide (x.From ≤ x.To)) else some false else some false).bind fun (v : Bool) =>
  some v
noncomputable def s_l4Spans_L1 (list : List Span) : Int → Option (Lp (Int) (Fl (Bool) (Unit)))
  | v =>
    (if (decide (v < (list.length : Int))) = true then some (decide (v ≤ 20)) else some false).bind fun (v1 : Bool) =>
    if v1 = true then
      (idx list v).bind fun e =>
      (s_l4Span e).bind fun r =>
      if (!r) = true then
        some (.dn (.ret false))
      else
        some (.nx (w64 (v + 1)))
    else
      some (.dn (.go ()))
noncomputable def s_l4Spans (list : List Span) : Option (Bool) :=
  flb (iter (s_l4Spans_L1 list) (0 : Int)) fun (_ : Unit) =>
  some (decide ((list.length : Int) ≤ 20))
noncomputable def s_l4Counts_L1 (list : List Span) (t : Int) : Int × (List Int) → Option (Lp (Int × (List Int)) ((List Int)))
  | (v, i1) =>
    (idx list t).bind fun e1 =>
    if (decide (v < e1.To)) = true then
      (idx i1 v).bind fun e2 =>
      (idx i1 v).bind fun e3 =>
      some (.nx ((w64 (v + 1)), (i1.set v.toNat (w64 (e2 + 1)))))
    else
      some (.dn i1)
noncomputable def s_l4Counts_L2 (list : List Span) : Int × (List Int) → Option (Lp (Int × (List Int)) ((List Int)))
  | (t, i) =>
    if (decide (t < (list.length : Int))) = true then
      (idx list t).bind fun e =>
      (iter (s_l4Counts_L1 list t) (e.From, i)).bind fun (i2 : List Int) =>
      some (.nx ((w64 (t + 1)), i2))
    else
      some (.dn i)
noncomputable def s_l4Counts (list : List Span) : Option ((List Int)) :=
  (chk ((0 : Int) ≤ 1800 ∧ (1800 : Int) ≤ 4294967296)).bind fun u =>
  (iter (s_l4Counts_L2 list) ((0 : Int), (List.replicate (1800 : Int).toNat (0 : Int)))).bind fun (i3 : List Int) =>
  some i3
noncomputable def s_l4Runs_L1 (counts : List Int) (within : Span) (busy : Bool) : Int × (List Span) → Option (Lp (Int × (List Span)) ((List Span)))
  | (v, x) =>
    if (decide (v < within.To)) = true then
      ((idx counts v).bind fun e =>
      if (!((decide (0 < e)) == busy)) = true then
        some x
      else
        (if (decide (0 < (x.length : Int))) = true then (idx x (w64 ((x.length : Int) - 1))).bind fun e1 =>
        some (e1.To == v) else some false).bind fun (v1 : Bool) =>
        if v1 = true then
          (idx x (w64 ((x.length : Int) - 1))).bind fun e2 =>
          (idx x (w64 ((x.length : Int) - 1))).bind fun e3 =>
          some (x.set (w64 ((x.length : Int) - 1)).toNat (⟨e2.From, (w64 (v + 1))⟩ : Span))
        else
          (chk (x.length + ([(⟨v, (w64 (v + 1))⟩ : Span)] : List Span).length ≤ 4294967296)).bind fun u =>
          some (x ++ ([(⟨v, (w64 (v + 1))⟩ : Span)] : List Span))).bind fun (x1 : List Span) =>
      some (.nx ((w64 (v + 1)), x1))
    else
      some (.dn x)
noncomputable def s_l4Runs (counts : List Int) (within : Span) (busy : Bool) : Option ((List Span)) :=
  (iter (s_l4Runs_L1 counts within busy) (within.From, ([] : List Span))).bind fun (x2 : List Span) =>
  some x2
noncomputable def s_FreeSpans (list : List Span) (within : Span) : Option ((List Span) × Bool) :=
  (s_l4Spans list).bind fun r =>
  (if (!r) = true then some true else (s_l4Span within).bind fun r1 =>
  some (!r1)).bind fun (v : Bool) =>
  if v = true then
    some (([] : List Span), false)
  else
    (s_l4Counts list).bind fun r4 =>
    (s_l4Runs r4 within false).bind fun r5 =>
    some (r5, true)
noncomputable def v_vSpans_L1 (a : List Span) (b : List Span) : Int → Option (Lp (Int) (Fl (Bool) (Unit)))
  | v =>
    if (decide (v < (a.length : Int))) = true then
      (idx a v).bind fun e2 =>
      (idx b v).bind fun e3 =>
      if (!((e2.From == e3.From) && ((e2.To == e3.To) && true))) = true then
        some (.dn (.ret false))
      else
        some (.nx (w64 (v + 1)))
    else
      some (.dn (.go ()))
noncomputable def v_vSpans (a : List Span) (b : List Span) : Option (Bool) :=
  if ((a.length : Int) != (b.length : Int)) = true then
    some false
  else
    flb (iter (v_vSpans_L1 a b) (0 : Int)) fun (_ : Unit) =>
    some true
noncomputable def i_MergeSpans (list : List Span) : Option ((List Span) × Bool) :=
  (i_areSpans list).bind fun r =>
  if (!r) = true then
    some (([] : List Span), false)
  else
    (i_mergeSpans list).bind fun r1 =>
    some (r1, true)
noncomputable def i_TotalMinutes_L1 (r1 : (List Span)) : Int × Int → Option (Lp (Int × Int) (Int))
  | (v, v1) =>
    if (decide (v1 < (r1.length : Int))) = true then
      (idx r1 v1).bind fun e =>
      some (.nx ((w64 (v + (w64 (e.To - e.From)))), (w64 (v1 + 1))))
    else
      some (.dn v)
noncomputable def i_TotalMinutes (list : List Span) : Option (Int × Bool) :=
  (i_areSpans list).bind fun r =>
  if (!r) = true then
    some (0, false)
  else
    (i_mergeSpans list).bind fun r1 =>
    (iter (i_TotalMinutes_L1 r1) ((0 : Int), (0 : Int))).bind fun (v2 : Int) =>
    some (v2, true)
noncomputable def i_BusiestTime_L1 (list : List Span) (e : Span) : Int × Int → Option (Lp (Int × Int) (Int))
  | (v3, v4) =>
    if (decide (v4 < (list.length : Int))) = true then
      ((idx list v4).bind fun e1 =>
      (if (decide (e1.From ≤ e.From)) = true then some (decide (e.From < e1.To)) else some false).bind fun (v6 : Bool) =>
      if v6 = true then
        some (w64 (v3 + 1))
      else
        some v3).bind fun (v5 : Int) =>
      some (.nx (v5, (w64 (v4 + 1))))
    else
      some (.dn v3)
noncomputable def i_BusiestTime_L2 (list : List Span) : Int × Int × Int → Option (Lp (Int × Int × Int) (Int × Int))
  | (most, v, v1) =>
    if (decide (v1 < (list.length : Int))) = true then
      ((idx list v1).bind fun e =>
      (iter (i_BusiestTime_L1 list e) ((0 : Int), (0 : Int))).bind fun (v7 : Int) =>
      (if (decide (v < v7)) = true then some true else if (v7 == v) = true then if (decide (0 < v7)) = true then some (decide (e.From < most)) else some false else some false).bind fun (v8 : Bool) =>
      if v8 = true then
        some (e.From, v7)
      else
        some (most, v)).bind fun ((most1, v2) : Int × Int) =>
      some (.nx (most1, v2, (w64 (v1 + 1))))
    else
      some (.dn (most, v))
noncomputable def i_BusiestTime (list : List Span) : Option (Int × Int × Bool) :=
  (i_areSpans list).bind fun r =>
  if (!r) = true then
    some (0, 0, false)
  else
    (iter (i_BusiestTime_L2 list) ((0 : Int), (0 : Int), (0 : Int))).bind fun ((most2, v9) : Int × Int) =>
    some (most2, v9, true)
noncomputable def s_MergeSpans (list : List Span) : Option ((List Span) × Bool) :=
  (s_l4Spans list).bind fun r =>
  if (!r) = true then
    some (([] : List Span), false)
  else
    (s_l4Counts list).bind fun r1 =>
    (s_l4Runs r1 (⟨0, 1799⟩ : Span) true).bind fun r2 =>
    some (r2, true)
noncomputable def i_OverlapOf (a : Span) (b : Span) : Option (Span × Bool × Bool) :=
  (i_isSpan a).bind fun r =>
  (if (!r) = true then some true else (i_isSpan b).bind fun r1 =>
  some (!r1)).bind fun (v : Bool) =>
  if v = true then
    some ((⟨0, 0⟩ : Span), false, false)
  else
    if (decide ((if b.To < a.To then b.To else a.To) ≤ (if b.From > a.From then b.From else a.From))) = true then
      some ((⟨0, 0⟩ : Span), false, true)
    else
      some ((⟨(if b.From > a.From then b.From else a.From), (if b.To < a.To then b.To else a.To)⟩ : Span), true, true)
noncomputable def v_FnSpans_L1 (r2 : (List Span) × Bool) (r5 : (List Span) × Bool) (k : Int) : Int → Option (Lp (Int) (Fl (Lp (Int × Int) (Fl (Bool) (Int))) (Unit)))
  | v3 =>
    (if (decide (v3 < (r2.1.length : Int))) = true then some r2.2 else some false).bind fun (v4 : Bool) =>
    if v4 = true then
      (idx r5.1 k).bind fun e15 =>
      (idx r2.1 v3).bind fun e16 =>
      (i_OverlapOf e15 e16).bind fun r12 =>
      (if (!r12.2.2) = true then some true else some r12.2.1).bind fun (v5 : Bool) =>
      if v5 = true then
        some (.dn (.ret (.dn (.ret false))))
      else
        some (.nx (w64 (v3 + 1)))
    else
      some (.dn (.go ()))
noncomputable def v_FnSpans_L2 (r2 : (List Span) × Bool) (r5 : (List Span) × Bool) : Int × Int → Option (Lp (Int × Int) (Fl (Bool) (Int)))
  | (i, k) =>
    if (decide (k < (r5.1.length : Int))) = true then
      (idx r5.1 k).bind fun e4 =>
      (idx r5.1 k).bind fun e5 =>
      (if (decide (e5.To ≤ e4.From)) = true then some true else if (decide (0 < k)) = true then (idx r5.1 (w64 (k - 1))).bind fun e6 =>
      (idx r5.1 k).bind fun e7 =>
      some (decide (e7.From ≤ e6.To)) else some false).bind fun (v2 : Bool) =>
      if v2 = true then
        some (.dn (.ret false))
      else
        (idx r5.1 k).bind fun e11 =>
        (idx r5.1 k).bind fun e12 =>
        flb (iter (v_FnSpans_L1 r2 r5 k) (0 : Int)) fun (_ : Unit) =>
        some (.nx ((w64 ((w64 (i + e11.To)) - e12.From)), (w64 (k + 1))))
    else
      some (.dn (.go i))
noncomputable def v_FnSpans (code : List UInt8) : Option (Bool) :=
  (v_vBig code).bind fun r =>
  if r = true then
    some true
  else
    (s_DrawFreeSpans code).bind fun r1 =>
    (i_FreeSpans r1.1 r1.2).bind fun r2 =>
    (s_FreeSpans r1.1 r1.2).bind fun r3 =>
    (if (!(r2.2 == r3.2)) = true then some true else (v_vSpans r2.1 r3.1).bind fun r4 =>
    some (!r4)).bind fun (v : Bool) =>
    if v = true then
      some false
    else
      (i_MergeSpans r1.1).bind fun r5 =>
      (i_TotalMinutes r1.1).bind fun r6 =>
      (i_BusiestTime r1.1).bind fun r7 =>
      (s_MergeSpans r1.1).bind fun r8 =>
      (if (!(r5.2 == r8.2)) = true then some true else (v_vSpans r5.1 r8.1).bind fun r9 =>
      if (!r9) = true then some true else if (!(r6.2 == r5.2)) = true then some true else some (!(r7.2.2 == r5.2))).bind fun (v1 : Bool) =>
      if v1 = true then
        some false
      else
        if (!r5.2) = true then
          some (r6.1 == 0)
        else
          flb (iter (v_FnSpans_L2 r2 r5) ((0 : Int), (0 : Int))) fun (i1 : Int) =>
          (if (i1 == r6.1) = true then some ((r7.2.1 == 0) == (r6.1 == 0)) else some false).bind fun (l : Bool) =>
          some l
end Go.Proofs.Ytepdapiceklppaa
