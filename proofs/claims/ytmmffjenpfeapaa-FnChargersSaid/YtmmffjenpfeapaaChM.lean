/- Models of the functions that the law reaches: plain Lean; none where the function would panic or not end. Made by program (dec.py). -/
import Derived.Test.YtmmffjenpfeapaaAbC0
namespace Go.Proofs.Ytmmffjenpfeapaa
open Go Go.Ab
set_option maxRecDepth 100000
set_option maxHeartbeats 4000000
set_option linter.unusedVariables false
set_option linter.unusedSimpArgs false
structure l1Cur where
 code_ : List UInt8
 at_ : Int
 seed_ : IK .u64
instance enc_l1Cur : Enc l1Cur := ⟨3, fun x => .agg [Enc.e x.code_, .sc (.int .i64 x.at_), .sc (.int .u64 x.seed_.v)], fun a b h => by
 simp only [D.agg.injEq, List.cons.injEq, and_true] at h
 obtain ⟨a1, a2, a3⟩ := a
 obtain ⟨b1, b2, b3⟩ := b
 obtain ⟨h1, h2, h3⟩ := h
 have q1 := Enc.inj (α := List UInt8) a1 b1 h1
 have q2 := Enc.inj (α := Int) a2 b2 h2
 have q3 := Enc.inj (α := IK .u64) a3 b3 h3
 subst q1; subst q2; subst q3; rfl⟩
structure Span where
 From : Int
 To : Int
instance enc_Span : Enc Span := ⟨2, fun x => .agg [.sc (.int .i64 x.From), .sc (.int .i64 x.To)], fun a b h => by
 simp only [D.agg.injEq, List.cons.injEq, and_true] at h
 obtain ⟨a1, a2⟩ := a
 obtain ⟨b1, b2⟩ := b
 obtain ⟨h1, h2⟩ := h
 have q1 := Enc.inj (α := Int) a1 b1 h1
 have q2 := Enc.inj (α := Int) a2 b2 h2
 subst q1; subst q2; rfl⟩
instance : BxE l1Cur := ⟨fun x y h => Enc.inj x y (congrArg D.agg h)⟩
instance : BxE Span := ⟨fun x y h => Enc.inj x y (congrArg D.agg h)⟩
instance : FlatEnc Span := ⟨fun _ => flatDB_ok rfl⟩
noncomputable def zq62 (code : List UInt8) : Option (Bool) :=
 some (decide (65536 < (code.length : Int)))
noncomputable def zq22 (c : l1Cur) : Option (Int × l1Cur) :=
 (if (decide (c.at_ < (c.code_.length : Int))) = true then
  (idx c.code_ c.at_).bind fun e1 =>
  some (w64 ((e1.toNat : Int)))
 else
  some (0 : Int)).bind fun (v : Int) =>
 if (decide ((w64 (c.at_ + 1)) ≤ (c.code_.length : Int))) = true then
  some (v, (⟨c.code_, (w64 (c.at_ + 1)), (⟨(IntKind.u64.wrap ((IntKind.u64.wrap ((IntKind.u64.wrap (c.seed_.v * 6364136223846793005)) + (IntKind.u64.wrap (v)))) + 900900))⟩ : IK .u64)⟩ : l1Cur))
 else
  (chk ((0 : Int) ≤ 40)).bind fun u =>
  some ((w64 ((IntKind.u64.wrap ((BitVec.ofInt (IntKind.u64).bits ((IntKind.u64.wrap ((IntKind.u64.wrap ((IntKind.u64.wrap (c.seed_.v * 6364136223846793005)) + (IntKind.u64.wrap (v)))) + 900900)).fdiv (2 ^ (min (40 : Int).toNat (IntKind.u64).bits))) &&& BitVec.ofInt (IntKind.u64).bits 255).toNat : Int)))), (⟨c.code_, (w64 (c.at_ + 1)), (⟨(IntKind.u64.wrap ((IntKind.u64.wrap ((IntKind.u64.wrap (c.seed_.v * 6364136223846793005)) + (IntKind.u64.wrap (v)))) + 900900))⟩ : IK .u64)⟩ : l1Cur))
noncomputable def zq23 (c : l1Cur) (n : Int) : Option (Int × l1Cur) :=
 if (decide (n ≤ 1)) = true then
  some (0, c)
 else
  (zq22 c).bind fun r =>
  (if (decide (200 < n)) = true then
   (zq22 r.2).bind fun r1 =>
   some ((w64 ((w64 (r.1 * 256)) + r1.1)), r1.2.code_, r1.2.at_, r1.2.seed_.v)
  else
   some (r.1, r.2.code_, r.2.at_, r.2.seed_.v)).bind fun ((v, v1, v2, v3) : Int × (List UInt8) × Int × Int) =>
  (chk ((n : Int) ≠ 0)).bind fun u =>
  some ((v.tmod n), (⟨v1, v2, (⟨v3⟩ : IK .u64)⟩ : l1Cur))
noncomputable def zq20 (c : l1Cur) (list : List Int) : Option (Int × l1Cur) :=
 (zq23 c (list.length : Int)).bind fun r =>
 (idx list r.1).bind fun e =>
 some (e, r.2)
noncomputable def zq21_L1 : Int × (List UInt8) × Int × Int × (List Span) → Option (Lp (Int × (List UInt8) × Int × Int × (List Span)) ((List UInt8) × Int × Int × (List Span)))
 | (from_, v, v1, v2, n) =>
  if (decide (0 < from_)) = true then
   (zq20 (⟨v, v1, (⟨v2⟩ : IK .u64)⟩ : l1Cur) ([0, 300, 305, 310, 330, 1700] : List Int)).bind fun r1 =>
   (zq20 r1.2 ([0, 5, 10, 30, 60] : List Int)).bind fun r2 =>
   (chk (n.length + ([(⟨r1.1, (w64 (r1.1 + r2.1))⟩ : Span)] : List Span).length ≤ 4294967296)).bind fun u =>
   some (.nx ((w64 (from_ - 1)), r2.2.code_, r2.2.at_, r2.2.seed_.v, (n ++ ([(⟨r1.1, (w64 (r1.1 + r2.1))⟩ : Span)] : List Span))))
  else
   some (.dn (v, v1, v2, n))
noncomputable def zq21_L2 : (List UInt8) × Int × Int × (List Span) → Option (Lp ((List UInt8) × Int × Int × (List Span)) ((List UInt8) × Int × Int × (List Span)))
 | (v9, v10, v11, n3) =>
  (zq23 (⟨v9, v10, (⟨v11⟩ : IK .u64)⟩ : l1Cur) 2).bind fun r5 =>
  if (decide ((n3.length : Int) < (w64 (20 + r5.1)))) = true then
   (chk (n3.length + ([(⟨1000, 1100⟩ : Span)] : List Span).length ≤ 4294967296)).bind fun u2 =>
   some (.nx (r5.2.code_, r5.2.at_, r5.2.seed_.v, (n3 ++ ([(⟨1000, 1100⟩ : Span)] : List Span))))
  else
   some (.dn (r5.2.code_, r5.2.at_, r5.2.seed_.v, n3))
noncomputable def zq21 (c : l1Cur) : Option ((List Span) × l1Cur) :=
 (zq23 c 7).bind fun r =>
 (iter (zq21_L1) (r.1, r.2.code_, r.2.at_, r.2.seed_.v, ([] : List Span))).bind fun ((v3, v4, v5, n1) : (List UInt8) × Int × Int × (List Span)) =>
 ((zq23 (⟨v3, v4, (⟨v5⟩ : IK .u64)⟩ : l1Cur) 40).bind fun r3 =>
 if (r3.1 == 0) = true then
  (zq20 r3.2 ([9, 1800, 1799] : List Int)).bind fun r4 =>
  (chk (n1.length + ([(⟨10, r4.1⟩ : Span)] : List Span).length ≤ 4294967296)).bind fun u1 =>
  some (r4.2.code_, r4.2.at_, r4.2.seed_.v, (n1 ++ ([(⟨10, r4.1⟩ : Span)] : List Span)))
 else
  if (r3.1 == 1) = true then
   (iter (zq21_L2) (r3.2.code_, r3.2.at_, r3.2.seed_.v, n1)).bind fun ((v12, v13, v14, n4) : (List UInt8) × Int × Int × (List Span)) =>
   some (v12, v13, v14, n4)
  else
   some (r3.2.code_, r3.2.at_, r3.2.seed_.v, n1)).bind fun ((v6, v7, v8, n2) : (List UInt8) × Int × Int × (List Span)) =>
 some (n2, (⟨v6, v7, (⟨v8⟩ : IK .u64)⟩ : l1Cur))
noncomputable def zq18 (code : List UInt8) : Option ((List Span) × Int) :=
 (zq21 (⟨code, 0, (⟨0⟩ : IK .u64)⟩ : l1Cur)).bind fun r =>
 (zq23 r.2 24).bind fun r1 =>
 (chk ((11 : Int) ≠ 0)).bind fun u =>
 (chk ((0 : Int) ≤ 0 ∧ (0 : Int) ≤ (w64 (5 + (w64 (r1.1.tdiv 11)))) ∧ (w64 (5 + (w64 (r1.1.tdiv 11)))) ≤ (([1, 1, 2, 3, 10, 0, 11] : List Int).length : Int))).bind fun u1 =>
 (zq20 r1.2 ((([1, 1, 2, 3, 10, 0, 11] : List Int).take (w64 (5 + (w64 (r1.1.tdiv 11)))).toNat).drop (0 : Int).toNat)).bind fun r2 =>
 some (r.1, r2.1)
noncomputable def zq12 (n : Int) (lo : Int) (hi : Int) : Option (Bool) :=
 (if (decide (lo ≤ n)) = true then some (decide (n ≤ hi)) else some false).bind fun (v : Bool) =>
 some v
noncomputable def zq9 (t : Int) : Option (Bool) :=
 (zq12 t 0 1799).bind fun r =>
 some r
noncomputable def zq11 (s : Span) : Option (Bool) :=
 (zq9 s.From).bind fun r =>
 (if r = true then (zq9 s.To).bind fun r1 =>
 if r1 = true then some (decide (s.From ≤ s.To)) else some false else some false).bind fun (v : Bool) =>
 some v
noncomputable def zq10_L1 (list : List Span) : Int → Option (Lp (Int) (Fl (Bool) (Unit)))
 | v =>
  if (decide (v < (list.length : Int))) = true then
   (idx list v).bind fun e =>
   (zq11 e).bind fun r =>
   if (!r) = true then
    some (.dn (.ret false))
   else
    some (.nx (w64 (v + 1)))
  else
   some (.dn (.go ()))
noncomputable def zq10 (list : List Span) : Option (Bool) :=
 if (decide (20 < (list.length : Int))) = true then
  some false
 else
  flb (iter (zq10_L1 list) (0 : Int)) fun (_ : Unit) =>
  some true
noncomputable def zq2 (x : Int) : Option (Bool) :=
 some (x != x)
noncomputable def zq0 (x : Int) (y_ : Int) : Option (Int) :=
 (zq2 x).bind fun r =>
 (zq2 y_).bind fun r1 =>
 if r = true then
  if r1 = true then
   some 0
  else
   some (-1)
 else
  if r1 = true then
   some 1
  else
   if (decide (x < y_)) = true then
    some (-1)
   else
    if (decide (y_ < x)) = true then
     some 1
    else
     some 0
noncomputable def zq6 (a : Int) (b : Int) (c1 : List Span) : Option (Int) :=
 (idx c1 a).bind fun e2 =>
 (idx c1 b).bind fun e3 =>
 (zq0 e2.From e3.From).bind fun r1 =>
 some r1
noncomputable def zq37_L1 (a : Int) (cmp : Int → Int → Option (Int)) : Int × (List Int) → Option (Lp (Int × (List Int)) ((List Int)))
 | (v1, data2) =>
  (if (decide (a < v1)) = true then (idx data2 v1).bind fun e2 =>
  (idx data2 (w64 (v1 - 1))).bind fun e3 =>
  (cmp e2 e3).bind fun r1 =>
  some (decide (r1 < 0)) else some false).bind fun (v2 : Bool) =>
  if v2 = true then
   (idx data2 (w64 (v1 - 1))).bind fun e8 =>
   (idx data2 v1).bind fun e9 =>
   (idx data2 v1).bind fun e10 =>
   (idx (data2.set v1.toNat e8) (w64 (v1 - 1))).bind fun e11 =>
   some (.nx ((w64 (v1 - 1)), ((data2.set v1.toNat e8).set (w64 (v1 - 1)).toNat e9)))
  else
   some (.dn data2)
noncomputable def zq37_L2 (a : Int) (b : Int) (cmp : Int → Int → Option (Int)) : Int × (List Int) → Option (Lp (Int × (List Int)) ((List Int)))
 | (v, data1) =>
  if (decide (v < b)) = true then
   (iter (zq37_L1 a cmp) (v, data1)).bind fun (data3 : List Int) =>
   some (.nx ((w64 (v + 1)), data3))
  else
   some (.dn data1)
noncomputable def zq37 (data : List Int) (a : Int) (b : Int) (cmp : Int → Int → Option (Int)) : Option ((List Int)) :=
 iter (zq37_L2 a b cmp) ((w64 (a + 1)), data)
noncomputable def zq38 (data : List Int) (a : Int) (b : Int) (c1 : List Span) : Option ((List Int)) :=
 zq37 data a b (fun (z0 : Int) (z1 : Int) => zq6 z0 z1 c1)
noncomputable def zq56_L1 (a : Int) (b : Int) (n : Int) : Int × (List Int) → Option (Lp (Int × (List Int)) ((List Int)))
 | (v, data1) =>
  if (decide (v < n)) = true then
   (idx data1 (w64 (b + v))).bind fun e4 =>
   (idx data1 (w64 (a + v))).bind fun e5 =>
   (idx data1 (w64 (a + v))).bind fun e6 =>
   (idx (data1.set (w64 (a + v)).toNat e4) (w64 (b + v))).bind fun e7 =>
   some (.nx ((w64 (v + 1)), ((data1.set (w64 (a + v)).toNat e4).set (w64 (b + v)).toNat e5)))
  else
   some (.dn data1)
noncomputable def zq56 (data : List Int) (a : Int) (b : Int) (n : Int) (cmp : Int → Int → Option (Int)) : Option ((List Int)) :=
 iter (zq56_L1 a b n) ((0 : Int), data)
noncomputable def zq57 (data : List Int) (a : Int) (b : Int) (n : Int) (c1 : List Span) : Option ((List Int)) :=
 zq56 data a b n (fun (z0 : Int) (z1 : Int) => zq6 z0 z1 c1)
noncomputable def zq50_L1 (m : Int) (cmp : Int → Int → Option (Int)) : Int × Int × (List Int) → Option (Lp (Int × Int × (List Int)) (Int × (List Int)))
 | (v, v1, data1) =>
  if (v != v1) = true then
   if (decide (v1 < v)) = true then
    (zq56 data1 (w64 (m - v)) m v1 cmp).bind fun r =>
    some (.nx ((w64 (v - v1)), v1, r))
   else
    (zq56 data1 (w64 (m - v)) (w64 ((w64 (m + v1)) - v)) v cmp).bind fun r1 =>
    some (.nx (v, (w64 (v1 - v)), r1))
  else
   some (.dn (v, data1))
noncomputable def zq50 (data : List Int) (a : Int) (m : Int) (b : Int) (cmp : Int → Int → Option (Int)) : Option ((List Int)) :=
 (iter (zq50_L1 m cmp) ((w64 (m - a)), (w64 (b - m)), data)).bind fun ((v2, data2) : Int × (List Int)) =>
 (zq56 data2 (w64 (m - v2)) m v2 cmp).bind fun r2 =>
 some r2
noncomputable def zq51 (data : List Int) (a : Int) (m : Int) (b : Int) (c1 : List Span) : Option ((List Int)) :=
 zq50 data a m b (fun (z0 : Int) (z1 : Int) => zq6 z0 z1 c1)
noncomputable def zq59_L1 (data : List Int) (a : Int) (c1 : List Span) : Int × Int → Option (Lp (Int × Int) (Int))
 | (j, h) =>
  if (decide (j < h)) = true then
   (chk ((0 : Int) ≤ 1)).bind fun u =>
   (idx data (w64 (((IntKind.u64.wrap ((w64 (j + h)))).fdiv (2 ^ (min (1 : Int).toNat (IntKind.u64).bits)))))).bind fun e2 =>
   (idx data a).bind fun e3 =>
   (zq6 e2 e3 c1).bind fun r1 =>
   if (decide (r1 < 0)) = true then
    some (.nx ((w64 ((w64 (((IntKind.u64.wrap ((w64 (j + h)))).fdiv (2 ^ (min (1 : Int).toNat (IntKind.u64).bits))))) + 1)), h))
   else
    some (.nx (j, (w64 (((IntKind.u64.wrap ((w64 (j + h)))).fdiv (2 ^ (min (1 : Int).toNat (IntKind.u64).bits)))))))
  else
   some (.dn j)
noncomputable def zq59_L2 (j1 : Int) : Int × (List Int) → Option (Lp (Int × (List Int)) ((List Int)))
 | (mid, data1) =>
  if (decide (mid < (w64 (j1 - 1)))) = true then
   (idx data1 (w64 (mid + 1))).bind fun e8 =>
   (idx data1 mid).bind fun e9 =>
   (idx data1 mid).bind fun e10 =>
   (idx (data1.set mid.toNat e8) (w64 (mid + 1))).bind fun e11 =>
   some (.nx ((w64 (mid + 1)), ((data1.set mid.toNat e8).set (w64 (mid + 1)).toNat e9)))
  else
   some (.dn data1)
noncomputable def zq59_L3 (data : List Int) (m : Int) (c1 : List Span) : Int × Int → Option (Lp (Int × Int) (Int))
 | (n, start) =>
  if (decide (n < start)) = true then
   (chk ((0 : Int) ≤ 1)).bind fun u1 =>
   (idx data m).bind fun e14 =>
   (idx data (w64 (((IntKind.u64.wrap ((w64 (n + start)))).fdiv (2 ^ (min (1 : Int).toNat (IntKind.u64).bits)))))).bind fun e15 =>
   (zq6 e14 e15 c1).bind fun r3 =>
   if (!(decide (r3 < 0))) = true then
    some (.nx ((w64 ((w64 (((IntKind.u64.wrap ((w64 (n + start)))).fdiv (2 ^ (min (1 : Int).toNat (IntKind.u64).bits))))) + 1)), start))
   else
    some (.nx (n, (w64 (((IntKind.u64.wrap ((w64 (n + start)))).fdiv (2 ^ (min (1 : Int).toNat (IntKind.u64).bits)))))))
  else
   some (.dn n)
noncomputable def zq59_L4 (n1 : Int) : Int × (List Int) → Option (Lp (Int × (List Int)) ((List Int)))
 | (p, data3) =>
  if (decide (n1 < p)) = true then
   (idx data3 (w64 (p - 1))).bind fun e20 =>
   (idx data3 p).bind fun e21 =>
   (idx data3 p).bind fun e22 =>
   (idx (data3.set p.toNat e20) (w64 (p - 1))).bind fun e23 =>
   some (.nx ((w64 (p - 1)), ((data3.set p.toNat e20).set (w64 (p - 1)).toNat e21)))
  else
   some (.dn data3)
noncomputable def zq59_L5 (data : List Int) (a : Int) (m : Int) (b : Int) (c1 : List Span) : Int × Int → Option (Lp (Int × Int) (Int))
 | (v2, v3) =>
  if (decide (v2 < v3)) = true then
   (chk ((0 : Int) ≤ 1)).bind fun u3 =>
   (idx data (w64 ((w64 ((w64 ((w64 (((IntKind.u64.wrap ((w64 (a + b)))).fdiv (2 ^ (min (1 : Int).toNat (IntKind.u64).bits))))) + m)) - 1)) - (w64 (((IntKind.u64.wrap ((w64 (v2 + v3)))).fdiv (2 ^ (min (1 : Int).toNat (IntKind.u64).bits)))))))).bind fun e26 =>
   (idx data (w64 (((IntKind.u64.wrap ((w64 (v2 + v3)))).fdiv (2 ^ (min (1 : Int).toNat (IntKind.u64).bits)))))).bind fun e27 =>
   (zq6 e26 e27 c1).bind fun r5 =>
   if (!(decide (r5 < 0))) = true then
    some (.nx ((w64 ((w64 (((IntKind.u64.wrap ((w64 (v2 + v3)))).fdiv (2 ^ (min (1 : Int).toNat (IntKind.u64).bits))))) + 1)), v3))
   else
    some (.nx (v2, (w64 (((IntKind.u64.wrap ((w64 (v2 + v3)))).fdiv (2 ^ (min (1 : Int).toNat (IntKind.u64).bits)))))))
  else
   some (.dn v2)
noncomputable def zq59_F (rec_ : (List Int) → Int → Int → Int → (List Span) → Option ((List Int))) (data : List Int) (a : Int) (m : Int) (b : Int) (c1 : List Span) : Option ((List Int)) :=
 if ((w64 (m - a)) == 1) = true then
  (iter (zq59_L1 data a c1) (m, b)).bind fun (j1 : Int) =>
  (iter (zq59_L2 j1) (a, data)).bind fun (data2 : List Int) =>
  some data2
 else
  if ((w64 (b - m)) == 1) = true then
   (iter (zq59_L3 data m c1) (a, m)).bind fun (n1 : Int) =>
   (iter (zq59_L4 n1) (m, data)).bind fun (data4 : List Int) =>
   some data4
  else
   (chk ((0 : Int) ≤ 1)).bind fun u2 =>
   (if (decide ((w64 (((IntKind.u64.wrap ((w64 (a + b)))).fdiv (2 ^ (min (1 : Int).toNat (IntKind.u64).bits))))) < m)) = true then
    some ((w64 ((w64 ((w64 (((IntKind.u64.wrap ((w64 (a + b)))).fdiv (2 ^ (min (1 : Int).toNat (IntKind.u64).bits))))) + m)) - b)), (w64 (((IntKind.u64.wrap ((w64 (a + b)))).fdiv (2 ^ (min (1 : Int).toNat (IntKind.u64).bits))))))
   else
    some (a, m)).bind fun ((v, v1) : Int × Int) =>
   (iter (zq59_L5 data a m b c1) (v, v1)).bind fun (v4 : Int) =>
   ((if (decide (v4 < m)) = true then some (decide (m < (w64 ((w64 ((w64 (((IntKind.u64.wrap ((w64 (a + b)))).fdiv (2 ^ (min (1 : Int).toNat (IntKind.u64).bits))))) + m)) - v4)))) else some false).bind fun (v5 : Bool) =>
   if v5 = true then
    (zq51 data v4 m (w64 ((w64 ((w64 (((IntKind.u64.wrap ((w64 (a + b)))).fdiv (2 ^ (min (1 : Int).toNat (IntKind.u64).bits))))) + m)) - v4)) c1).bind fun r6 =>
    some r6
   else
    some data).bind fun (data5 : List Int) =>
   ((if (decide (a < v4)) = true then some (decide (v4 < (w64 (((IntKind.u64.wrap ((w64 (a + b)))).fdiv (2 ^ (min (1 : Int).toNat (IntKind.u64).bits))))))) else some false).bind fun (v6 : Bool) =>
   if v6 = true then
    (rec_ data5 a v4 (w64 (((IntKind.u64.wrap ((w64 (a + b)))).fdiv (2 ^ (min (1 : Int).toNat (IntKind.u64).bits))))) c1).bind fun r7 =>
    some r7
   else
    some data5).bind fun (data6 : List Int) =>
   (if (decide ((w64 (((IntKind.u64.wrap ((w64 (a + b)))).fdiv (2 ^ (min (1 : Int).toNat (IntKind.u64).bits))))) < (w64 ((w64 ((w64 (((IntKind.u64.wrap ((w64 (a + b)))).fdiv (2 ^ (min (1 : Int).toNat (IntKind.u64).bits))))) + m)) - v4)))) = true then some (decide ((w64 ((w64 ((w64 (((IntKind.u64.wrap ((w64 (a + b)))).fdiv (2 ^ (min (1 : Int).toNat (IntKind.u64).bits))))) + m)) - v4)) < b)) else some false).bind fun (v7 : Bool) =>
   if v7 = true then
    (rec_ data6 (w64 (((IntKind.u64.wrap ((w64 (a + b)))).fdiv (2 ^ (min (1 : Int).toNat (IntKind.u64).bits))))) (w64 ((w64 ((w64 (((IntKind.u64.wrap ((w64 (a + b)))).fdiv (2 ^ (min (1 : Int).toNat (IntKind.u64).bits))))) + m)) - v4)) b c1).bind fun r8 =>
    some r8
   else
    some data6
noncomputable def zq59_k : Nat → (List Int) → Int → Int → Int → (List Span) → Option ((List Int))
 | 0 => fun _ _ _ _ _ => none
 | n + 1 => zq59_F (zq59_k n)
noncomputable def zq59 (data : List Int) (a : Int) (m : Int) (b : Int) (c1 : List Span) : Option ((List Int)) := zq59_k 4294967296 data a m b c1
noncomputable def zq54_L1 (n : Int) (c1 : List Span) : Int × Int × (List Int) → Option (Lp (Int × Int × (List Int)) (Int × (List Int)))
 | (v, v1, data1) =>
  if (decide (v1 ≤ n)) = true then
   (zq38 data1 v v1 c1).bind fun r =>
   some (.nx (v1, (w64 (v1 + 20)), r))
  else
   some (.dn (v, data1))
noncomputable def zq54_L2 (n : Int) (c1 : List Span) (m : Int) : Int × Int × (List Int) → Option (Lp (Int × Int × (List Int)) (Int × (List Int)))
 | (v3, v4, data4) =>
  if (decide (v4 ≤ n)) = true then
   (zq59 data4 v3 (w64 (v3 + m)) v4 c1).bind fun r2 =>
   some (.nx (v4, (w64 (v4 + (w64 (2 * m)))), r2))
  else
   some (.dn (v3, data4))
noncomputable def zq54_L3 (n : Int) (c1 : List Span) : Int × (List Int) → Option (Lp (Int × (List Int)) ((List Int)))
 | (m, data3) =>
  if (decide (m < n)) = true then
   (iter (zq54_L2 n c1 m) ((0 : Int), (w64 (2 * m)), data3)).bind fun ((v5, data5) : Int × (List Int)) =>
   (if (decide ((w64 (v5 + m)) < n)) = true then
    (zq59 data5 v5 (w64 (v5 + m)) n c1).bind fun r3 =>
    some r3
   else
    some data5).bind fun (data6 : List Int) =>
   some (.nx ((w64 (m * 2)), data6))
  else
   some (.dn data3)
noncomputable def zq54 (data : List Int) (n : Int) (c1 : List Span) : Option ((List Int)) :=
 (iter (zq54_L1 n c1) ((0 : Int), (20 : Int), data)).bind fun ((v2, data2) : Int × (List Int)) =>
 (zq38 data2 v2 n c1).bind fun r1 =>
 iter (zq54_L3 n c1) ((20 : Int), r1)
noncomputable def zq31 (x : List Int) (c1 : List Span) : Option ((List Int)) :=
 (zq54 x (x.length : Int) c1).bind fun r =>
 some r
noncomputable def zq5_L1 (list : List Span) : Int × (List Int) → Option (Lp (Int × (List Int)) ((List Int)))
 | (v1, free) =>
  if (decide (v1 < ((List.replicate (list.length : Int).toNat (0 : Int)).length : Int))) = true then
   (idx free v1).bind fun e =>
   some (.nx ((w64 (v1 + 1)), (free.set v1.toNat v1)))
  else
   some (.dn free)
noncomputable def zq5_L2 (last : List Int) : Int × Int → Option (Lp (Int × Int) (Int))
 | (v4, v5) =>
  if (decide (v5 < (last.length : Int))) = true then
   ((idx last v5).bind fun e4 =>
   (idx last v4).bind fun e5 =>
   if (decide (e4 < e5)) = true then
    some v5
   else
    some v4).bind fun (v6 : Int) =>
   some (.nx (v6, (w64 (v5 + 1))))
  else
   some (.dn v4)
noncomputable def zq5_L3 (list : List Span) (r2 : (List Int)) : Int × Int × (List Int) × (List Int) → Option (Lp (Int × Int × (List Int) × (List Int)) (Fl ((List Int) × Bool) ((List Int))))
 | (i, v2, last, v3) =>
  if (decide (v2 < (r2.length : Int))) = true then
   (idx r2 v2).bind fun e1 =>
   (iter (zq5_L2 last) ((0 : Int), (0 : Int))).bind fun (v7 : Int) =>
   (idx list e1).bind fun e8 =>
   (idx last v7).bind fun e9 =>
   if (decide (1799 < (if e9 > (if e8.From > i then e8.From else i) then e9 else (if e8.From > i then e8.From else i)))) = true then
    some (.dn (.ret (([] : List Int), false)))
   else
    (idx v3 e1).bind fun e11 =>
    (idx list e1).bind fun e15 =>
    (idx list e1).bind fun e16 =>
    (idx last v7).bind fun e17 =>
    some (.nx ((if e9 > (if e8.From > i then e8.From else i) then e9 else (if e8.From > i then e8.From else i)), (w64 (v2 + 1)), (last.set v7.toNat (w64 ((w64 ((if e9 > (if e8.From > i then e8.From else i) then e9 else (if e8.From > i then e8.From else i)) + e15.To)) - e16.From))), (v3.set e1.toNat (if e9 > (if e8.From > i then e8.From else i) then e9 else (if e8.From > i then e8.From else i)))))
  else
   some (.dn (.go v3))
noncomputable def zq5 (list : List Span) (chargers : Int) : Option ((List Int) × Bool) :=
 (zq10 list).bind fun r =>
 (if (!r) = true then some true else (zq12 chargers 1 10).bind fun r1 =>
 some (!r1)).bind fun (v : Bool) =>
 if v = true then
  some (([] : List Int), false)
 else
  (chk ((0 : Int) ≤ (list.length : Int) ∧ ((list.length : Int) : Int) ≤ 4294967296)).bind fun u =>
  (iter (zq5_L1 list) ((0 : Int), (List.replicate (list.length : Int).toNat (0 : Int)))).bind fun (free1 : List Int) =>
  (zq31 free1 list).bind fun r2 =>
  (chk ((0 : Int) ≤ chargers ∧ (chargers : Int) ≤ 4294967296)).bind fun u1 =>
  (chk ((0 : Int) ≤ (list.length : Int) ∧ ((list.length : Int) : Int) ≤ 4294967296)).bind fun u2 =>
  flb (iter (zq5_L3 list r2) ((0 : Int), (0 : Int), (List.replicate chargers.toNat (0 : Int)), (List.replicate (list.length : Int).toNat (0 : Int)))) fun (v8 : List Int) =>
  some (v8, true)
noncomputable def zq24 (x : Int) (a : Int) (b : Int) : Option (Bool) :=
 (if (decide (a ≤ x)) = true then some (decide (x ≤ b)) else some false).bind fun (v : Bool) =>
 some v
noncomputable def zq29 (t : Int) : Option (Bool) :=
 (zq24 t 0 1799).bind fun r =>
 some r
noncomputable def zq28 (x : Span) : Option (Bool) :=
 (zq29 x.From).bind fun r =>
 (if r = true then (zq29 x.To).bind fun r1 =>
 if r1 = true then some (decide (x.From ≤ x.To)) else some false else some false).bind fun (v : Bool) =>
 some v
noncomputable def zq26 (a : Int) (b : Int) : Option (Int) :=
 if (decide (b < a)) = true then
  some a
 else
  some b
noncomputable def zq16_L1 (list : List Span) (out : Int) (k : List Int) : Int → Option (Lp (Int) (Int))
 | free =>
  (if (decide (0 < free)) = true then (idx k (w64 (free - 1))).bind fun e5 =>
  (idx list e5).bind fun e6 =>
  (idx list out).bind fun e7 =>
  some (decide (e7.From < e6.From)) else some false).bind fun (v1 : Bool) =>
  if v1 = true then
   some (.nx (w64 (free - 1)))
  else
   some (.dn free)
noncomputable def zq16_L2 (list : List Span) : Int × (List Int) → Option (Lp (Int × (List Int)) (Fl ((List Int) × Bool) ((List Int))))
 | (out, k) =>
  if (decide (out < (list.length : Int))) = true then
   (idx list out).bind fun e =>
   (zq28 e).bind fun r1 =>
   if (!r1) = true then
    some (.dn (.ret (([] : List Int), false)))
   else
    (iter (zq16_L1 list out k) (k.length : Int)).bind fun (free1 : Int) =>
    (chk ((0 : Int) ≤ 0 ∧ (0 : Int) ≤ free1 ∧ free1 ≤ (k.length : Int))).bind fun u5 =>
    (chk (([] : List Int).length + ((k.take free1.toNat).drop (0 : Int).toNat).length ≤ 4294967296)).bind fun u6 =>
    (chk ((([] : List Int) ++ ((k.take free1.toNat).drop (0 : Int).toNat)).length + ([out] : List Int).length ≤ 4294967296)).bind fun u7 =>
    (chk ((0 : Int) ≤ free1 ∧ free1 ≤ (k.length : Int))).bind fun u8 =>
    (chk (((([] : List Int) ++ ((k.take free1.toNat).drop (0 : Int).toNat)) ++ ([out] : List Int)).length + (k.drop free1.toNat).length ≤ 4294967296)).bind fun u9 =>
    some (.nx ((w64 (out + 1)), (((([] : List Int) ++ ((k.take free1.toNat).drop (0 : Int).toNat)) ++ ([out] : List Int)) ++ (k.drop free1.toNat))))
  else
   some (.dn (.go k))
noncomputable def zq16_L3 (chargers : Int) (k2 : List Int) : Int × Int → Option (Lp (Int × Int) (Int))
 | (t, v2) =>
  if (decide (v2 < chargers)) = true then
   ((idx k2 v2).bind fun e12 =>
   (idx k2 t).bind fun e13 =>
   if (decide (e12 < e13)) = true then
    some v2
   else
    some t).bind fun (t1 : Int) =>
   some (.nx (t1, (w64 (v2 + 1))))
  else
   some (.dn t)
noncomputable def zq16_L4 (list : List Span) (chargers : Int) (k1 : List Int) : Int × Int × (List Int) × (List Int) → Option (Lp (Int × Int × (List Int) × (List Int)) (Fl ((List Int) × Bool) ((List Int))))
 | (x, best, last, k2) =>
  if (decide (best < (k1.length : Int))) = true then
   (idx k1 best).bind fun e8 =>
   (idx list e8).bind fun e9 =>
   (iter (zq16_L3 chargers k2) ((0 : Int), (1 : Int))).bind fun (t2 : Int) =>
   (idx k2 t2).bind fun e15 =>
   (zq26 e9.From e15).bind fun r5 =>
   (zq26 r5 x).bind fun r6 =>
   if (decide (1799 < r6)) = true then
    some (.dn (.ret (([] : List Int), false)))
   else
    (idx k1 best).bind fun e17 =>
    (idx last e17).bind fun e18 =>
    (idx k2 t2).bind fun e19 =>
    some (.nx (r6, (w64 (best + 1)), (last.set e17.toNat r6), (k2.set t2.toNat (w64 ((w64 (r6 + e9.To)) - e9.From)))))
  else
   some (.dn (.go last))
noncomputable def zq16 (list : List Span) (chargers : Int) : Option ((List Int) × Bool) :=
 (if (decide (20 < (list.length : Int))) = true then some true else (zq24 chargers 1 10).bind fun r =>
 some (!r)).bind fun (v : Bool) =>
 if v = true then
  some (([] : List Int), false)
 else
  flb (iter (zq16_L2 list) ((0 : Int), ([] : List Int))) fun (k1 : List Int) =>
  (chk ((0 : Int) ≤ (list.length : Int) ∧ ((list.length : Int) : Int) ≤ 4294967296)).bind fun u10 =>
  (chk ((0 : Int) ≤ chargers ∧ (chargers : Int) ≤ 4294967296)).bind fun u11 =>
  flb (iter (zq16_L4 list chargers k1) ((0 : Int), (0 : Int), (List.replicate (list.length : Int).toNat (0 : Int)), (List.replicate chargers.toNat (0 : Int)))) fun (last1 : List Int) =>
  some (last1, true)
noncomputable def zq63_L1 (a : List Int) (b : List Int) : Int → Option (Lp (Int) (Fl (Bool) (Unit)))
 | v =>
  if (decide (v < (a.length : Int))) = true then
   (idx a v).bind fun e2 =>
   (idx b v).bind fun e3 =>
   if (e2 != e3) = true then
    some (.dn (.ret false))
   else
    some (.nx (w64 (v + 1)))
  else
   some (.dn (.go ()))
noncomputable def zq63 (a : List Int) (b : List Int) : Option (Bool) :=
 if ((a.length : Int) != (b.length : Int)) = true then
  some false
 else
  flb (iter (zq63_L1 a b) (0 : Int)) fun (_ : Unit) =>
  some true
noncomputable def zq3_L1 (list : List Span) (e : Span) : Int × Int → Option (Lp (Int × Int) (Int))
 | (v3, v4) =>
  if (decide (v4 < (list.length : Int))) = true then
   ((idx list v4).bind fun e1 =>
   (if (decide (e1.From ≤ e.From)) = true then some (decide (e.From < e1.To)) else some false).bind fun (v6 : Bool) =>
   if v6 = true then
    some (w64 (v3 + 1))
   else
    some v3).bind fun (v5 : Int) =>
   some (.nx (v5, (w64 (v4 + 1))))
  else
   some (.dn v3)
noncomputable def zq3_L2 (list : List Span) : Int × Int × Int → Option (Lp (Int × Int × Int) (Int × Int))
 | (most, v, v1) =>
  if (decide (v1 < (list.length : Int))) = true then
   ((idx list v1).bind fun e =>
   (iter (zq3_L1 list e) ((0 : Int), (0 : Int))).bind fun (v7 : Int) =>
   (if (decide (v < v7)) = true then some true else if (v7 == v) = true then if (decide (0 < v7)) = true then some (decide (e.From < most)) else some false else some false).bind fun (v8 : Bool) =>
   if v8 = true then
    some (e.From, v7)
   else
    some (most, v)).bind fun ((most1, v2) : Int × Int) =>
   some (.nx (most1, v2, (w64 (v1 + 1))))
  else
   some (.dn (most, v))
noncomputable def zq3 (list : List Span) : Option (Int × Int × Bool) :=
 (zq10 list).bind fun r =>
 if (!r) = true then
  some (0, 0, false)
 else
  (iter (zq3_L2 list) ((0 : Int), (0 : Int), (0 : Int))).bind fun ((most2, v9) : Int × Int) =>
  some (most2, v9, true)
noncomputable def zq4 (list : List Span) : Option (Int × Int × Bool) :=
 (zq3 list).bind fun r =>
 some (r.2.1, r.1, r.2.2)
noncomputable def zq15_L1 (list : List Span) : Int → Option (Lp (Int) (Fl (Int × Int × Bool) (Unit)))
 | most =>
  if (decide (most < (list.length : Int))) = true then
   (idx list most).bind fun e =>
   (zq28 e).bind fun r =>
   if (!r) = true then
    some (.dn (.ret (0, 0, false)))
   else
    some (.nx (w64 (most + 1)))
  else
   some (.dn (.go ()))
noncomputable def zq15_L2 (list : List Span) (n : Int) : Int × Int → Option (Lp (Int × Int) (Int))
 | (i, v) =>
  if (decide (v < (list.length : Int))) = true then
   ((idx list v).bind fun e2 =>
   (if (decide (e2.From ≤ n)) = true then (idx list v).bind fun e3 =>
   some (decide (n < e3.To)) else some false).bind fun (v1 : Bool) =>
   if v1 = true then
    some (w64 (i + 1))
   else
    some i).bind fun (i1 : Int) =>
   some (.nx (i1, (w64 (v + 1))))
  else
   some (.dn i)
noncomputable def zq15_L3 (list : List Span) : Int × Int × Int → Option (Lp (Int × Int × Int) (Int × Int))
 | (first, t, n) =>
  if (decide (n ≤ 1799)) = true then
   ((iter (zq15_L2 list n) ((0 : Int), (0 : Int))).bind fun (i2 : Int) =>
   if (decide (first < i2)) = true then
    some (i2, n)
   else
    some (first, t)).bind fun ((first1, t1) : Int × Int) =>
   some (.nx (first1, t1, (w64 (n + 1))))
  else
   some (.dn (first, t))
noncomputable def zq15 (list : List Span) : Option (Int × Int × Bool) :=
 if (decide (20 < (list.length : Int))) = true then
  some (0, 0, false)
 else
  flb (iter (zq15_L1 list) (0 : Int)) fun (_ : Unit) =>
  (iter (zq15_L3 list) ((0 : Int), (0 : Int), (0 : Int))).bind fun ((first2, t2) : Int × Int) =>
  some (first2, t2, true)
noncomputable def zq19_L1 : Int × (List UInt8) × Int × Int × (List Int) → Option (Lp (Int × (List UInt8) × Int × Int × (List Int)) ((List UInt8) × Int × Int × (List Int)))
 | (from_, v, v1, v2, i) =>
  if (decide (from_ < 30)) = true then
   (zq20 (⟨v, v1, (⟨v2⟩ : IK .u64)⟩ : l1Cur) ([10, 20, 20, 30, 0, 1000] : List Int)).bind fun r =>
   (chk (i.length + ([r.1] : List Int).length ≤ 4294967296)).bind fun u =>
   some (.nx ((w64 (from_ + 1)), r.2.code_, r.2.at_, r.2.seed_.v, (i ++ ([r.1] : List Int))))
  else
   some (.dn (v, v1, v2, i))
noncomputable def zq19 (code : List UInt8) : Option ((List Int) × Int × Int × Int) :=
 (iter (zq19_L1) ((0 : Int), code, (0 : Int), (0 : Int), ([] : List Int))).bind fun ((v3, v4, v5, i1) : (List UInt8) × Int × Int × (List Int)) =>
 ((zq23 (⟨v3, v4, (⟨v5⟩ : IK .u64)⟩ : l1Cur) 40).bind fun r1 =>
 if (r1.1 == 0) = true then
  (chk ((0 : Int) ≤ 1 ∧ 1 ≤ (i1.length : Int))).bind fun u1 =>
  some ((i1.drop (1 : Int).toNat), r1.2.code_, r1.2.at_, r1.2.seed_.v)
 else
  if (r1.1 == 1) = true then
   (zq20 r1.2 ([(-1), 1001] : List Int)).bind fun r2 =>
   (idx i1 3).bind fun e =>
   some ((i1.set (3 : Int).toNat r2.1), r2.2.code_, r2.2.at_, r2.2.seed_.v)
  else
   some (i1, r1.2.code_, r1.2.at_, r1.2.seed_.v)).bind fun ((i2, v6, v7, v8) : (List Int) × (List UInt8) × Int × Int) =>
 (zq20 (⟨v6, v7, (⟨v8⟩ : IK .u64)⟩ : l1Cur) ([0, 50, 110, 1700] : List Int)).bind fun r3 =>
 (zq20 r3.2 ([0, 5, 20, 61, 99] : List Int)).bind fun r4 =>
 (zq20 r4.2 ([0, 20, 61, 90, 99, 130] : List Int)).bind fun r5 =>
 some (i2, r3.1, (w64 (r3.1 + r5.1)), r4.1)
noncomputable def zq8 (a : Int) (b : Int) (c1 : List Int) : Option (Int) :=
 (chk ((60 : Int) ≠ 0)).bind fun u2 =>
 (idx c1 (w64 (a.tdiv 60))).bind fun e2 =>
 (chk ((60 : Int) ≠ 0)).bind fun u3 =>
 (idx c1 (w64 (b.tdiv 60))).bind fun e3 =>
 (zq0 e2 e3).bind fun r1 =>
 some r1
noncomputable def zq39 (data : List Int) (a : Int) (b : Int) (c1 : List Int) : Option ((List Int)) :=
 zq37 data a b (fun (z0 : Int) (z1 : Int) => zq8 z0 z1 c1)
noncomputable def zq58 (data : List Int) (a : Int) (b : Int) (n : Int) (c1 : List Int) : Option ((List Int)) :=
 zq56 data a b n (fun (z0 : Int) (z1 : Int) => zq8 z0 z1 c1)
noncomputable def zq52 (data : List Int) (a : Int) (m : Int) (b : Int) (c1 : List Int) : Option ((List Int)) :=
 zq50 data a m b (fun (z0 : Int) (z1 : Int) => zq8 z0 z1 c1)
noncomputable def zq60_L1 (data : List Int) (a : Int) (c1 : List Int) : Int × Int → Option (Lp (Int × Int) (Int))
 | (j, h) =>
  if (decide (j < h)) = true then
   (chk ((0 : Int) ≤ 1)).bind fun u =>
   (idx data (w64 (((IntKind.u64.wrap ((w64 (j + h)))).fdiv (2 ^ (min (1 : Int).toNat (IntKind.u64).bits)))))).bind fun e2 =>
   (idx data a).bind fun e3 =>
   (zq8 e2 e3 c1).bind fun r1 =>
   if (decide (r1 < 0)) = true then
    some (.nx ((w64 ((w64 (((IntKind.u64.wrap ((w64 (j + h)))).fdiv (2 ^ (min (1 : Int).toNat (IntKind.u64).bits))))) + 1)), h))
   else
    some (.nx (j, (w64 (((IntKind.u64.wrap ((w64 (j + h)))).fdiv (2 ^ (min (1 : Int).toNat (IntKind.u64).bits)))))))
  else
   some (.dn j)
noncomputable def zq60_L2 (j1 : Int) : Int × (List Int) → Option (Lp (Int × (List Int)) ((List Int)))
 | (mid, data1) =>
  if (decide (mid < (w64 (j1 - 1)))) = true then
   (idx data1 (w64 (mid + 1))).bind fun e8 =>
   (idx data1 mid).bind fun e9 =>
   (idx data1 mid).bind fun e10 =>
   (idx (data1.set mid.toNat e8) (w64 (mid + 1))).bind fun e11 =>
   some (.nx ((w64 (mid + 1)), ((data1.set mid.toNat e8).set (w64 (mid + 1)).toNat e9)))
  else
   some (.dn data1)
noncomputable def zq60_L3 (data : List Int) (m : Int) (c1 : List Int) : Int × Int → Option (Lp (Int × Int) (Int))
 | (n, start) =>
  if (decide (n < start)) = true then
   (chk ((0 : Int) ≤ 1)).bind fun u1 =>
   (idx data m).bind fun e14 =>
   (idx data (w64 (((IntKind.u64.wrap ((w64 (n + start)))).fdiv (2 ^ (min (1 : Int).toNat (IntKind.u64).bits)))))).bind fun e15 =>
   (zq8 e14 e15 c1).bind fun r3 =>
   if (!(decide (r3 < 0))) = true then
    some (.nx ((w64 ((w64 (((IntKind.u64.wrap ((w64 (n + start)))).fdiv (2 ^ (min (1 : Int).toNat (IntKind.u64).bits))))) + 1)), start))
   else
    some (.nx (n, (w64 (((IntKind.u64.wrap ((w64 (n + start)))).fdiv (2 ^ (min (1 : Int).toNat (IntKind.u64).bits)))))))
  else
   some (.dn n)
noncomputable def zq60_L4 (n1 : Int) : Int × (List Int) → Option (Lp (Int × (List Int)) ((List Int)))
 | (p, data3) =>
  if (decide (n1 < p)) = true then
   (idx data3 (w64 (p - 1))).bind fun e20 =>
   (idx data3 p).bind fun e21 =>
   (idx data3 p).bind fun e22 =>
   (idx (data3.set p.toNat e20) (w64 (p - 1))).bind fun e23 =>
   some (.nx ((w64 (p - 1)), ((data3.set p.toNat e20).set (w64 (p - 1)).toNat e21)))
  else
   some (.dn data3)
noncomputable def zq60_L5 (data : List Int) (a : Int) (m : Int) (b : Int) (c1 : List Int) : Int × Int → Option (Lp (Int × Int) (Int))
 | (v2, v3) =>
  if (decide (v2 < v3)) = true then
   (chk ((0 : Int) ≤ 1)).bind fun u3 =>
   (idx data (w64 ((w64 ((w64 ((w64 (((IntKind.u64.wrap ((w64 (a + b)))).fdiv (2 ^ (min (1 : Int).toNat (IntKind.u64).bits))))) + m)) - 1)) - (w64 (((IntKind.u64.wrap ((w64 (v2 + v3)))).fdiv (2 ^ (min (1 : Int).toNat (IntKind.u64).bits)))))))).bind fun e26 =>
   (idx data (w64 (((IntKind.u64.wrap ((w64 (v2 + v3)))).fdiv (2 ^ (min (1 : Int).toNat (IntKind.u64).bits)))))).bind fun e27 =>
   (zq8 e26 e27 c1).bind fun r5 =>
   if (!(decide (r5 < 0))) = true then
    some (.nx ((w64 ((w64 (((IntKind.u64.wrap ((w64 (v2 + v3)))).fdiv (2 ^ (min (1 : Int).toNat (IntKind.u64).bits))))) + 1)), v3))
   else
    some (.nx (v2, (w64 (((IntKind.u64.wrap ((w64 (v2 + v3)))).fdiv (2 ^ (min (1 : Int).toNat (IntKind.u64).bits)))))))
  else
   some (.dn v2)
noncomputable def zq60_F (rec_ : (List Int) → Int → Int → Int → (List Int) → Option ((List Int))) (data : List Int) (a : Int) (m : Int) (b : Int) (c1 : List Int) : Option ((List Int)) :=
 if ((w64 (m - a)) == 1) = true then
  (iter (zq60_L1 data a c1) (m, b)).bind fun (j1 : Int) =>
  (iter (zq60_L2 j1) (a, data)).bind fun (data2 : List Int) =>
  some data2
 else
  if ((w64 (b - m)) == 1) = true then
   (iter (zq60_L3 data m c1) (a, m)).bind fun (n1 : Int) =>
   (iter (zq60_L4 n1) (m, data)).bind fun (data4 : List Int) =>
   some data4
  else
   (chk ((0 : Int) ≤ 1)).bind fun u2 =>
   (if (decide ((w64 (((IntKind.u64.wrap ((w64 (a + b)))).fdiv (2 ^ (min (1 : Int).toNat (IntKind.u64).bits))))) < m)) = true then
    some ((w64 ((w64 ((w64 (((IntKind.u64.wrap ((w64 (a + b)))).fdiv (2 ^ (min (1 : Int).toNat (IntKind.u64).bits))))) + m)) - b)), (w64 (((IntKind.u64.wrap ((w64 (a + b)))).fdiv (2 ^ (min (1 : Int).toNat (IntKind.u64).bits))))))
   else
    some (a, m)).bind fun ((v, v1) : Int × Int) =>
   (iter (zq60_L5 data a m b c1) (v, v1)).bind fun (v4 : Int) =>
   ((if (decide (v4 < m)) = true then some (decide (m < (w64 ((w64 ((w64 (((IntKind.u64.wrap ((w64 (a + b)))).fdiv (2 ^ (min (1 : Int).toNat (IntKind.u64).bits))))) + m)) - v4)))) else some false).bind fun (v5 : Bool) =>
   if v5 = true then
    (zq52 data v4 m (w64 ((w64 ((w64 (((IntKind.u64.wrap ((w64 (a + b)))).fdiv (2 ^ (min (1 : Int).toNat (IntKind.u64).bits))))) + m)) - v4)) c1).bind fun r6 =>
    some r6
   else
    some data).bind fun (data5 : List Int) =>
   ((if (decide (a < v4)) = true then some (decide (v4 < (w64 (((IntKind.u64.wrap ((w64 (a + b)))).fdiv (2 ^ (min (1 : Int).toNat (IntKind.u64).bits))))))) else some false).bind fun (v6 : Bool) =>
   if v6 = true then
    (rec_ data5 a v4 (w64 (((IntKind.u64.wrap ((w64 (a + b)))).fdiv (2 ^ (min (1 : Int).toNat (IntKind.u64).bits))))) c1).bind fun r7 =>
    some r7
   else
    some data5).bind fun (data6 : List Int) =>
   (if (decide ((w64 (((IntKind.u64.wrap ((w64 (a + b)))).fdiv (2 ^ (min (1 : Int).toNat (IntKind.u64).bits))))) < (w64 ((w64 ((w64 (((IntKind.u64.wrap ((w64 (a + b)))).fdiv (2 ^ (min (1 : Int).toNat (IntKind.u64).bits))))) + m)) - v4)))) = true then some (decide ((w64 ((w64 ((w64 (((IntKind.u64.wrap ((w64 (a + b)))).fdiv (2 ^ (min (1 : Int).toNat (IntKind.u64).bits))))) + m)) - v4)) < b)) else some false).bind fun (v7 : Bool) =>
   if v7 = true then
    (rec_ data6 (w64 (((IntKind.u64.wrap ((w64 (a + b)))).fdiv (2 ^ (min (1 : Int).toNat (IntKind.u64).bits))))) (w64 ((w64 ((w64 (((IntKind.u64.wrap ((w64 (a + b)))).fdiv (2 ^ (min (1 : Int).toNat (IntKind.u64).bits))))) + m)) - v4)) b c1).bind fun r8 =>
    some r8
   else
    some data6
noncomputable def zq60_k : Nat → (List Int) → Int → Int → Int → (List Int) → Option ((List Int))
 | 0 => fun _ _ _ _ _ => none
 | n + 1 => zq60_F (zq60_k n)
noncomputable def zq60 (data : List Int) (a : Int) (m : Int) (b : Int) (c1 : List Int) : Option ((List Int)) := zq60_k 4294967296 data a m b c1
noncomputable def zq55_L1 (n : Int) (c1 : List Int) : Int × Int × (List Int) → Option (Lp (Int × Int × (List Int)) (Int × (List Int)))
 | (v, v1, data1) =>
  if (decide (v1 ≤ n)) = true then
   (zq39 data1 v v1 c1).bind fun r =>
   some (.nx (v1, (w64 (v1 + 20)), r))
  else
   some (.dn (v, data1))
noncomputable def zq55_L2 (n : Int) (c1 : List Int) (m : Int) : Int × Int × (List Int) → Option (Lp (Int × Int × (List Int)) (Int × (List Int)))
 | (v3, v4, data4) =>
  if (decide (v4 ≤ n)) = true then
   (zq60 data4 v3 (w64 (v3 + m)) v4 c1).bind fun r2 =>
   some (.nx (v4, (w64 (v4 + (w64 (2 * m)))), r2))
  else
   some (.dn (v3, data4))
noncomputable def zq55_L3 (n : Int) (c1 : List Int) : Int × (List Int) → Option (Lp (Int × (List Int)) ((List Int)))
 | (m, data3) =>
  if (decide (m < n)) = true then
   (iter (zq55_L2 n c1 m) ((0 : Int), (w64 (2 * m)), data3)).bind fun ((v5, data5) : Int × (List Int)) =>
   (if (decide ((w64 (v5 + m)) < n)) = true then
    (zq60 data5 v5 (w64 (v5 + m)) n c1).bind fun r3 =>
    some r3
   else
    some data5).bind fun (data6 : List Int) =>
   some (.nx ((w64 (m * 2)), data6))
  else
   some (.dn data3)
noncomputable def zq55 (data : List Int) (n : Int) (c1 : List Int) : Option ((List Int)) :=
 (iter (zq55_L1 n c1) ((0 : Int), (20 : Int), data)).bind fun ((v2, data2) : Int × (List Int)) =>
 (zq39 data2 v2 n c1).bind fun r1 =>
 iter (zq55_L3 n c1) ((20 : Int), r1)
noncomputable def zq32 (x : List Int) (c1 : List Int) : Option ((List Int)) :=
 (zq55 x (x.length : Int) c1).bind fun r =>
 some r
noncomputable def zq30 (s : List Int) : Option ((List Int)) :=
 (chk (([] : List Int).length + s.length ≤ 4294967296)).bind fun u =>
 some s
noncomputable def zq14 (x : IK .u64) : Option (Int) :=
 (if (decide (4294967296 ≤ x.v)) = true then
  (chk ((0 : Int) ≤ 32)).bind fun u =>
  some ((x.v.fdiv (2 ^ (min (32 : Int).toNat (IntKind.u64).bits))), (32 : Int))
 else
  some (x.v, (0 : Int))).bind fun ((x1, v) : Int × Int) =>
 (if (decide (65536 ≤ x1)) = true then
  (chk ((0 : Int) ≤ 16)).bind fun u1 =>
  some ((x1.fdiv (2 ^ (min (16 : Int).toNat (IntKind.u64).bits))), (w64 (v + 16)))
 else
  some (x1, v)).bind fun ((x2, v1) : Int × Int) =>
 (if (decide (256 ≤ x2)) = true then
  (chk ((0 : Int) ≤ 8)).bind fun u2 =>
  some ((x2.fdiv (2 ^ (min (8 : Int).toNat (IntKind.u64).bits))), (w64 (v1 + 8)))
 else
  some (x2, v1)).bind fun ((x3, v2) : Int × Int) =>
 (chk ((0 : Int) ≤ (IntKind.u8.wrap (x3)) ∧ (IntKind.u8.wrap (x3)) < ((str [0, 1, 2, 2, 3, 3, 3, 3, 4, 4, 4, 4, 4, 4, 4, 4, 5, 5, 5, 5, 5, 5, 5, 5, 5, 5, 5, 5, 5, 5, 5, 5, 6, 6, 6, 6, 6, 6, 6, 6, 6, 6, 6, 6, 6, 6, 6, 6, 6, 6, 6, 6, 6, 6, 6, 6, 6, 6, 6, 6, 6, 6, 6, 6, 7, 7, 7, 7, 7, 7, 7, 7, 7, 7, 7, 7, 7, 7, 7, 7, 7, 7, 7, 7, 7, 7, 7, 7, 7, 7, 7, 7, 7, 7, 7, 7, 7, 7, 7, 7, 7, 7, 7, 7, 7, 7, 7, 7, 7, 7, 7, 7, 7, 7, 7, 7, 7, 7, 7, 7, 7, 7, 7, 7, 7, 7, 7, 7, 8, 8, 8, 8, 8, 8, 8, 8, 8, 8, 8, 8, 8, 8, 8, 8, 8, 8, 8, 8, 8, 8, 8, 8, 8, 8, 8, 8, 8, 8, 8, 8, 8, 8, 8, 8, 8, 8, 8, 8, 8, 8, 8, 8, 8, 8, 8, 8, 8, 8, 8, 8, 8, 8, 8, 8, 8, 8, 8, 8, 8, 8, 8, 8, 8, 8, 8, 8, 8, 8, 8, 8, 8, 8, 8, 8, 8, 8, 8, 8, 8, 8, 8, 8, 8, 8, 8, 8, 8, 8, 8, 8, 8, 8, 8, 8, 8, 8, 8, 8, 8, 8, 8, 8, 8, 8, 8, 8, 8, 8, 8, 8, 8, 8, 8, 8, 8, 8, 8, 8, 8, 8, 8, 8, 8, 8, 8, 8]).size : Int))).bind fun u3 =>
 some (w64 (v2 + (w64 ((((str [0, 1, 2, 2, 3, 3, 3, 3, 4, 4, 4, 4, 4, 4, 4, 4, 5, 5, 5, 5, 5, 5, 5, 5, 5, 5, 5, 5, 5, 5, 5, 5, 6, 6, 6, 6, 6, 6, 6, 6, 6, 6, 6, 6, 6, 6, 6, 6, 6, 6, 6, 6, 6, 6, 6, 6, 6, 6, 6, 6, 6, 6, 6, 6, 7, 7, 7, 7, 7, 7, 7, 7, 7, 7, 7, 7, 7, 7, 7, 7, 7, 7, 7, 7, 7, 7, 7, 7, 7, 7, 7, 7, 7, 7, 7, 7, 7, 7, 7, 7, 7, 7, 7, 7, 7, 7, 7, 7, 7, 7, 7, 7, 7, 7, 7, 7, 7, 7, 7, 7, 7, 7, 7, 7, 7, 7, 7, 7, 8, 8, 8, 8, 8, 8, 8, 8, 8, 8, 8, 8, 8, 8, 8, 8, 8, 8, 8, 8, 8, 8, 8, 8, 8, 8, 8, 8, 8, 8, 8, 8, 8, 8, 8, 8, 8, 8, 8, 8, 8, 8, 8, 8, 8, 8, 8, 8, 8, 8, 8, 8, 8, 8, 8, 8, 8, 8, 8, 8, 8, 8, 8, 8, 8, 8, 8, 8, 8, 8, 8, 8, 8, 8, 8, 8, 8, 8, 8, 8, 8, 8, 8, 8, 8, 8, 8, 8, 8, 8, 8, 8, 8, 8, 8, 8, 8, 8, 8, 8, 8, 8, 8, 8, 8, 8, 8, 8, 8, 8, 8, 8, 8, 8, 8, 8, 8, 8, 8, 8, 8, 8, 8, 8, 8, 8, 8, 8]).data.toList.getD (IntKind.u8.wrap (x3)).toNat 0).toNat : Int)))))
noncomputable def zq13 (x : IK .u64) : Option (Int) :=
 (zq14 x).bind fun r =>
 some r
noncomputable def zq1 (x : Int) (y_ : Int) : Option (Bool) :=
 (zq2 x).bind fun r =>
 (if r = true then (zq2 y_).bind fun r1 =>
 if (!r1) = true then some true else some (decide (x < y_)) else some (decide (x < y_))).bind fun (v : Bool) =>
 some v
noncomputable def zq40_L1 (a : Int) : Int × (List Int) → Option (Lp (Int × (List Int)) ((List Int)))
 | (v1, data2) =>
  (if (decide (a < v1)) = true then (idx data2 v1).bind fun e2 =>
  (idx data2 (w64 (v1 - 1))).bind fun e3 =>
  (zq1 e2 e3).bind fun r1 =>
  some r1 else some false).bind fun (v2 : Bool) =>
  if v2 = true then
   (idx data2 (w64 (v1 - 1))).bind fun e8 =>
   (idx data2 v1).bind fun e9 =>
   (idx data2 v1).bind fun e10 =>
   (idx (data2.set v1.toNat e8) (w64 (v1 - 1))).bind fun e11 =>
   some (.nx ((w64 (v1 - 1)), ((data2.set v1.toNat e8).set (w64 (v1 - 1)).toNat e9)))
  else
   some (.dn data2)
noncomputable def zq40_L2 (a : Int) (b : Int) : Int × (List Int) → Option (Lp (Int × (List Int)) ((List Int)))
 | (v, data1) =>
  if (decide (v < b)) = true then
   (iter (zq40_L1 a) (v, data1)).bind fun (data3 : List Int) =>
   some (.nx ((w64 (v + 1)), data3))
  else
   some (.dn data1)
noncomputable def zq40 (data : List Int) (a : Int) (b : Int) : Option ((List Int)) :=
 iter (zq40_L2 a b) ((w64 (a + 1)), data)
noncomputable def zq53_L1 (hi : Int) (first : Int) : Int × (List Int) → Option (Lp (Int × (List Int)) ((List Int)))
 | (v, data1) =>
  if (decide (hi ≤ (w64 ((w64 (2 * v)) + 1)))) = true then
   some (.dn data1)
  else
   ((if (decide ((w64 ((w64 ((w64 (2 * v)) + 1)) + 1)) < hi)) = true then (idx data1 (w64 (first + (w64 ((w64 (2 * v)) + 1))))).bind fun e3 =>
   (idx data1 (w64 ((w64 (first + (w64 ((w64 (2 * v)) + 1)))) + 1))).bind fun e4 =>
   (zq1 e3 e4).bind fun r2 =>
   some r2 else some false).bind fun (v2 : Bool) =>
   if v2 = true then
    some (w64 ((w64 ((w64 (2 * v)) + 1)) + 1))
   else
    some (w64 ((w64 (2 * v)) + 1))).bind fun (v1 : Int) =>
   (idx data1 (w64 (first + v))).bind fun e7 =>
   (idx data1 (w64 (first + v1))).bind fun e8 =>
   (zq1 e7 e8).bind fun r4 =>
   if (!r4) = true then
    some (.dn data1)
   else
    (idx data1 (w64 (first + v1))).bind fun e14 =>
    (idx data1 (w64 (first + v))).bind fun e15 =>
    (idx data1 (w64 (first + v))).bind fun e16 =>
    (idx (data1.set (w64 (first + v)).toNat e14) (w64 (first + v1))).bind fun e17 =>
    some (.nx (v1, ((data1.set (w64 (first + v)).toNat e14).set (w64 (first + v1)).toNat e15)))
noncomputable def zq53 (data : List Int) (lo : Int) (hi : Int) (first : Int) : Option ((List Int)) :=
 iter (zq53_L1 hi first) (lo, data)
noncomputable def zq36_L1 (a : Int) (b : Int) : Int × (List Int) → Option (Lp (Int × (List Int)) ((List Int)))
 | (v, data1) =>
  if (decide (0 ≤ v)) = true then
   (zq53 data1 v (w64 (b - a)) a).bind fun r =>
   some (.nx ((w64 (v - 1)), r))
  else
   some (.dn data1)
noncomputable def zq36_L2 (a : Int) : Int × (List Int) → Option (Lp (Int × (List Int)) ((List Int)))
 | (v1, data3) =>
  if (decide (0 ≤ v1)) = true then
   (idx data3 (w64 (a + v1))).bind fun e4 =>
   (idx data3 a).bind fun e5 =>
   (idx data3 a).bind fun e6 =>
   (idx (data3.set a.toNat e4) (w64 (a + v1))).bind fun e7 =>
   (zq53 ((data3.set a.toNat e4).set (w64 (a + v1)).toNat e5) 0 v1 a).bind fun r1 =>
   some (.nx ((w64 (v1 - 1)), r1))
  else
   some (.dn data3)
noncomputable def zq36 (data : List Int) (a : Int) (b : Int) : Option ((List Int)) :=
 (chk ((2 : Int) ≠ 0)).bind fun u =>
 (iter (zq36_L1 a b) ((w64 ((w64 ((w64 (b - a)) - 1)).tdiv 2)), data)).bind fun (data2 : List Int) =>
 iter (zq36_L2 a) ((w64 ((w64 (b - a)) - 1)), data2)
noncomputable def zq44 (data : List Int) (a : Int) (b : Int) (swaps : Int) : Option (Int × Int × Int) :=
 (idx data b).bind fun e2 =>
 (idx data a).bind fun e3 =>
 (zq1 e2 e3).bind fun r1 =>
 if r1 = true then
  some (b, a, (w64 (swaps + 1)))
 else
  some (a, b, swaps)
noncomputable def zq42 (data : List Int) (a : Int) (b : Int) (c : Int) (swaps : Int) : Option (Int × Int) :=
 (zq44 data a b swaps).bind fun r =>
 (zq44 data r.2.1 c r.2.2).bind fun r1 =>
 (zq44 data r.1 r1.1 r1.2.2).bind fun r2 =>
 some (r2.2.1, r2.2.2)
noncomputable def zq41 (data : List Int) (a : Int) (swaps : Int) : Option (Int × Int) :=
 (zq42 data (w64 (a - 1)) a (w64 (a + 1)) swaps).bind fun r =>
 some (r.1, r.2)
noncomputable def zq35 (data : List Int) (a : Int) (b : Int) : Option (Int × Int) :=
 (chk ((4 : Int) ≠ 0)).bind fun u =>
 (chk ((4 : Int) ≠ 0)).bind fun u1 =>
 (chk ((4 : Int) ≠ 0)).bind fun u2 =>
 (if (decide (8 ≤ (w64 (b - a)))) = true then
  (if (decide (50 ≤ (w64 (b - a)))) = true then
   (zq41 data (w64 (a + (w64 ((w64 ((w64 (b - a)).tdiv 4)) * 1)))) 0).bind fun r =>
   (zq41 data (w64 (a + (w64 ((w64 ((w64 (b - a)).tdiv 4)) * 2)))) r.2).bind fun r1 =>
   (zq41 data (w64 (a + (w64 ((w64 ((w64 (b - a)).tdiv 4)) * 3)))) r1.2).bind fun r2 =>
   some (r.1, r1.1, r2.1, r2.2)
  else
   some ((w64 (a + (w64 ((w64 ((w64 (b - a)).tdiv 4)) * 1)))), (w64 (a + (w64 ((w64 ((w64 (b - a)).tdiv 4)) * 2)))), (w64 (a + (w64 ((w64 ((w64 (b - a)).tdiv 4)) * 3)))), (0 : Int))).bind fun ((v2, v3, v4, v5) : Int × Int × Int × Int) =>
  (zq42 data v2 v3 v4 v5).bind fun r3 =>
  some (r3.1, r3.2)
 else
  some ((w64 (a + (w64 ((w64 ((w64 (b - a)).tdiv 4)) * 2)))), (0 : Int))).bind fun ((v, v1) : Int × Int) =>
 if (v1 == 0) = true then
  some (v, 1)
 else
  if (v1 == 12) = true then
   some (v, 2)
  else
   some (v, 0)
noncomputable def zq49_L1 : Int × Int × (List Int) → Option (Lp (Int × Int × (List Int)) ((List Int)))
 | (v, v1, data1) =>
  if (decide (v < v1)) = true then
   (idx data1 v1).bind fun e4 =>
   (idx data1 v).bind fun e5 =>
   (idx data1 v).bind fun e6 =>
   (idx (data1.set v.toNat e4) v1).bind fun e7 =>
   some (.nx ((w64 (v + 1)), (w64 (v1 - 1)), ((data1.set v.toNat e4).set v1.toNat e5)))
  else
   some (.dn data1)
noncomputable def zq49 (data : List Int) (a : Int) (b : Int) : Option ((List Int)) :=
 iter (zq49_L1) (a, (w64 (b - 1)), data)
noncomputable def zq45_L1 (b : Int) (data1 : List Int) : Int → Option (Lp (Int) (Int))
 | j2 =>
  (if (decide (j2 < b)) = true then (idx data1 j2).bind fun e2 =>
  (idx data1 (w64 (j2 - 1))).bind fun e3 =>
  (zq1 e2 e3).bind fun r1 =>
  some (!r1) else some false).bind fun (v1 : Bool) =>
  if v1 = true then
   some (.nx (w64 (j2 + 1)))
  else
   some (.dn j2)
noncomputable def zq45_L2 : Int × (List Int) → Option (Lp (Int × (List Int)) ((List Int)))
 | (v2, data4) =>
  if (decide (1 ≤ v2)) = true then
   (idx data4 v2).bind fun e18 =>
   (idx data4 (w64 (v2 - 1))).bind fun e19 =>
   (zq1 e18 e19).bind fun r7 =>
   if (!r7) = true then
    some (.dn data4)
   else
    (idx data4 (w64 (v2 - 1))).bind fun e24 =>
    (idx data4 v2).bind fun e25 =>
    (idx data4 v2).bind fun e26 =>
    (idx (data4.set v2.toNat e24) (w64 (v2 - 1))).bind fun e27 =>
    some (.nx ((w64 (v2 - 1)), ((data4.set v2.toNat e24).set (w64 (v2 - 1)).toNat e25)))
  else
   some (.dn data4)
noncomputable def zq45_L3 (b : Int) : Int × (List Int) → Option (Lp (Int × (List Int)) ((List Int)))
 | (v3, data6) =>
  if (decide (v3 < b)) = true then
   (idx data6 v3).bind fun e30 =>
   (idx data6 (w64 (v3 - 1))).bind fun e31 =>
   (zq1 e30 e31).bind fun r9 =>
   if (!r9) = true then
    some (.dn data6)
   else
    (idx data6 (w64 (v3 - 1))).bind fun e36 =>
    (idx data6 v3).bind fun e37 =>
    (idx data6 v3).bind fun e38 =>
    (idx (data6.set v3.toNat e36) (w64 (v3 - 1))).bind fun e39 =>
    some (.nx ((w64 (v3 + 1)), ((data6.set v3.toNat e36).set (w64 (v3 - 1)).toNat e37)))
  else
   some (.dn data6)
noncomputable def zq45_L4 (a : Int) (b : Int) : Int × Int × (List Int) → Option (Lp (Int × Int × (List Int)) (Fl (Bool × (List Int)) ((List Int))))
 | (j, v, data1) =>
  if (decide (v < 5)) = true then
   flb ((iter (zq45_L1 b data1) j).bind fun (j3 : Int) =>
   if (j3 == b) = true then
    some (.ret (.dn (.ret (true, data1))))
   else
    if (decide ((w64 (b - a)) < 50)) = true then
     some (.ret (.dn (.ret (false, data1))))
    else
     (idx data1 (w64 (j3 - 1))).bind fun e12 =>
     (idx data1 j3).bind fun e13 =>
     (idx data1 j3).bind fun e14 =>
     (idx (data1.set j3.toNat e12) (w64 (j3 - 1))).bind fun e15 =>
     (if (decide (2 ≤ (w64 (j3 - a)))) = true then
      (iter (zq45_L2) ((w64 (j3 - 1)), ((data1.set j3.toNat e12).set (w64 (j3 - 1)).toNat e13))).bind fun (data5 : List Int) =>
      some data5
     else
      some ((data1.set j3.toNat e12).set (w64 (j3 - 1)).toNat e13)).bind fun (data3 : List Int) =>
     if (decide (2 ≤ (w64 (b - j3)))) = true then
      (iter (zq45_L3 b) ((w64 (j3 + 1)), data3)).bind fun (data7 : List Int) =>
      some (.go (j3, data7))
     else
      some (.go (j3, data3))) fun ((j1, data2) : Int × (List Int)) =>
   some (.nx (j1, (w64 (v + 1)), data2))
  else
   some (.dn (.go data1))
noncomputable def zq45 (data : List Int) (a : Int) (b : Int) : Option (Bool × (List Int)) :=
 flb (iter (zq45_L4 a b) ((w64 (a + 1)), (0 : Int), data)) fun (data8 : List Int) =>
 some (false, data8)
noncomputable def zq46_L1 (a : Int) (v1 : Int) (data1 : List Int) : Int → Option (Lp (Int) (Int))
 | v2 =>
  (if (decide (v2 ≤ v1)) = true then (idx data1 a).bind fun e10 =>
  (idx data1 v2).bind fun e11 =>
  (zq1 e10 e11).bind fun r1 =>
  some (!r1) else some false).bind fun (v3 : Bool) =>
  if v3 = true then
   some (.nx (w64 (v2 + 1)))
  else
   some (.dn v2)
noncomputable def zq46_L2 (a : Int) (data1 : List Int) (v4 : Int) : Int → Option (Lp (Int) (Int))
 | v5 =>
  (if (decide (v4 ≤ v5)) = true then (idx data1 a).bind fun e14 =>
  (idx data1 v5).bind fun e15 =>
  (zq1 e14 e15).bind fun r3 =>
  some r3 else some false).bind fun (v6 : Bool) =>
  if v6 = true then
   some (.nx (w64 (v5 - 1)))
  else
   some (.dn v5)
noncomputable def zq46_L3 (a : Int) : Int × Int × (List Int) → Option (Lp (Int × Int × (List Int)) (Int × (List Int)))
 | (v, v1, data1) =>
  (iter (zq46_L1 a v1 data1) v).bind fun (v4 : Int) =>
  (iter (zq46_L2 a data1 v4) v1).bind fun (v7 : Int) =>
  if (decide (v7 < v4)) = true then
   some (.dn (v4, data1))
  else
   (idx data1 v7).bind fun e20 =>
   (idx data1 v4).bind fun e21 =>
   (idx data1 v4).bind fun e22 =>
   (idx (data1.set v4.toNat e20) v7).bind fun e23 =>
   some (.nx ((w64 (v4 + 1)), (w64 (v7 - 1)), ((data1.set v4.toNat e20).set v7.toNat e21)))
noncomputable def zq46 (data : List Int) (a : Int) (b : Int) (pivot : Int) : Option (Int × (List Int)) :=
 (idx data pivot).bind fun e4 =>
 (idx data a).bind fun e5 =>
 (idx data a).bind fun e6 =>
 (idx (data.set a.toNat e4) pivot).bind fun e7 =>
 (iter (zq46_L3 a) ((w64 (a + 1)), (w64 (b - 1)), ((data.set a.toNat e4).set pivot.toNat e5))).bind fun ((v8, data2) : Int × (List Int)) =>
 some (v8, data2)
noncomputable def zq47_L1 (data : List Int) (a : Int) (b : Int) (pivot : Int) (e4 : Int) (e5 : Int) : Int → Option (Lp (Int) (Int))
 | v =>
  (if (decide (v ≤ (w64 (b - 1)))) = true then (idx ((data.set a.toNat e4).set pivot.toNat e5) v).bind fun e10 =>
  (idx ((data.set a.toNat e4).set pivot.toNat e5) a).bind fun e11 =>
  (zq1 e10 e11).bind fun r1 =>
  some r1 else some false).bind fun (v1 : Bool) =>
  if v1 = true then
   some (.nx (w64 (v + 1)))
  else
   some (.dn v)
noncomputable def zq47_L2 (data : List Int) (a : Int) (pivot : Int) (e4 : Int) (e5 : Int) (v2 : Int) : Int → Option (Lp (Int) (Int))
 | v3 =>
  (if (decide (v2 ≤ v3)) = true then (idx ((data.set a.toNat e4).set pivot.toNat e5) v3).bind fun e14 =>
  (idx ((data.set a.toNat e4).set pivot.toNat e5) a).bind fun e15 =>
  (zq1 e14 e15).bind fun r3 =>
  some (!r3) else some false).bind fun (v4 : Bool) =>
  if v4 = true then
   some (.nx (w64 (v3 - 1)))
  else
   some (.dn v3)
noncomputable def zq47_L3 (a : Int) (v7 : Int) (data1 : List Int) : Int → Option (Lp (Int) (Int))
 | v8 =>
  (if (decide (v8 ≤ v7)) = true then (idx data1 v8).bind fun e34 =>
  (idx data1 a).bind fun e35 =>
  (zq1 e34 e35).bind fun r5 =>
  some r5 else some false).bind fun (v9 : Bool) =>
  if v9 = true then
   some (.nx (w64 (v8 + 1)))
  else
   some (.dn v8)
noncomputable def zq47_L4 (a : Int) (data1 : List Int) (v10 : Int) : Int → Option (Lp (Int) (Int))
 | v11 =>
  (if (decide (v10 ≤ v11)) = true then (idx data1 v11).bind fun e38 =>
  (idx data1 a).bind fun e39 =>
  (zq1 e38 e39).bind fun r7 =>
  some (!r7) else some false).bind fun (v12 : Bool) =>
  if v12 = true then
   some (.nx (w64 (v11 - 1)))
  else
   some (.dn v11)
noncomputable def zq47_L5 (a : Int) : Int × Int × (List Int) → Option (Lp (Int × Int × (List Int)) (Int × (List Int)))
 | (v6, v7, data1) =>
  (iter (zq47_L3 a v7 data1) v6).bind fun (v10 : Int) =>
  (iter (zq47_L4 a data1 v10) v7).bind fun (v13 : Int) =>
  if (decide (v13 < v10)) = true then
   some (.dn (v13, data1))
  else
   (idx data1 v13).bind fun e44 =>
   (idx data1 v10).bind fun e45 =>
   (idx data1 v10).bind fun e46 =>
   (idx (data1.set v10.toNat e44) v13).bind fun e47 =>
   some (.nx ((w64 (v10 + 1)), (w64 (v13 - 1)), ((data1.set v10.toNat e44).set v13.toNat e45)))
noncomputable def zq47 (data : List Int) (a : Int) (b : Int) (pivot : Int) : Option (Int × Bool × (List Int)) :=
 (idx data pivot).bind fun e4 =>
 (idx data a).bind fun e5 =>
 (idx data a).bind fun e6 =>
 (idx (data.set a.toNat e4) pivot).bind fun e7 =>
 (iter (zq47_L1 data a b pivot e4 e5) (w64 (a + 1))).bind fun (v2 : Int) =>
 (iter (zq47_L2 data a pivot e4 e5 v2) (w64 (b - 1))).bind fun (v5 : Int) =>
 if (decide (v5 < v2)) = true then
  (idx ((data.set a.toNat e4).set pivot.toNat e5) a).bind fun e20 =>
  (idx ((data.set a.toNat e4).set pivot.toNat e5) v5).bind fun e21 =>
  (idx ((data.set a.toNat e4).set pivot.toNat e5) v5).bind fun e22 =>
  (idx (((data.set a.toNat e4).set pivot.toNat e5).set v5.toNat e20) a).bind fun e23 =>
  some (v5, true, ((((data.set a.toNat e4).set pivot.toNat e5).set v5.toNat e20).set a.toNat e21))
 else
  (idx ((data.set a.toNat e4).set pivot.toNat e5) v5).bind fun e28 =>
  (idx ((data.set a.toNat e4).set pivot.toNat e5) v2).bind fun e29 =>
  (idx ((data.set a.toNat e4).set pivot.toNat e5) v2).bind fun e30 =>
  (idx (((data.set a.toNat e4).set pivot.toNat e5).set v2.toNat e28) v5).bind fun e31 =>
  (iter (zq47_L5 a) ((w64 (v2 + 1)), (w64 (v5 - 1)), ((((data.set a.toNat e4).set pivot.toNat e5).set v2.toNat e28).set v5.toNat e29))).bind fun ((v14, data2) : Int × (List Int)) =>
  (idx data2 a).bind fun e52 =>
  (idx data2 v14).bind fun e53 =>
  (idx data2 v14).bind fun e54 =>
  (idx (data2.set v14.toNat e52) a).bind fun e55 =>
  some (v14, false, ((data2.set v14.toNat e52).set a.toNat e53))
noncomputable def zq43 (length : Int) : Option ((IK .u64)) :=
 (zq13 (⟨(IntKind.u64.wrap (length))⟩ : IK .u64)).bind fun r =>
 (chk ((0 : Int) ≤ r)).bind fun u =>
 some (⟨(IntKind.u64.wrap (1 * 2 ^ (min (r : Int).toNat (IntKind.u64).bits)))⟩ : IK .u64)
noncomputable def zq61 (r : IK .u64) : Option ((IK .u64) × (IK .u64)) :=
 (chk ((0 : Int) ≤ 13)).bind fun u1 =>
 (chk ((0 : Int) ≤ 7)).bind fun u3 =>
 (chk ((0 : Int) ≤ 17)).bind fun u5 =>
 some ((⟨(IntKind.u64.wrap ((BitVec.ofInt (IntKind.u64).bits (IntKind.u64.wrap ((BitVec.ofInt (IntKind.u64).bits (IntKind.u64.wrap ((BitVec.ofInt (IntKind.u64).bits r.v ^^^ BitVec.ofInt (IntKind.u64).bits (IntKind.u64.wrap (r.v * 2 ^ (min (13 : Int).toNat (IntKind.u64).bits)))).toNat : Int)) ^^^ BitVec.ofInt (IntKind.u64).bits ((IntKind.u64.wrap ((BitVec.ofInt (IntKind.u64).bits r.v ^^^ BitVec.ofInt (IntKind.u64).bits (IntKind.u64.wrap (r.v * 2 ^ (min (13 : Int).toNat (IntKind.u64).bits)))).toNat : Int)).fdiv (2 ^ (min (7 : Int).toNat (IntKind.u64).bits)))).toNat : Int)) ^^^ BitVec.ofInt (IntKind.u64).bits (IntKind.u64.wrap ((IntKind.u64.wrap ((BitVec.ofInt (IntKind.u64).bits (IntKind.u64.wrap ((BitVec.ofInt (IntKind.u64).bits r.v ^^^ BitVec.ofInt (IntKind.u64).bits (IntKind.u64.wrap (r.v * 2 ^ (min (13 : Int).toNat (IntKind.u64).bits)))).toNat : Int)) ^^^ BitVec.ofInt (IntKind.u64).bits ((IntKind.u64.wrap ((BitVec.ofInt (IntKind.u64).bits r.v ^^^ BitVec.ofInt (IntKind.u64).bits (IntKind.u64.wrap (r.v * 2 ^ (min (13 : Int).toNat (IntKind.u64).bits)))).toNat : Int)).fdiv (2 ^ (min (7 : Int).toNat (IntKind.u64).bits)))).toNat : Int)) * 2 ^ (min (17 : Int).toNat (IntKind.u64).bits)))).toNat : Int))⟩ : IK .u64), (⟨(IntKind.u64.wrap ((BitVec.ofInt (IntKind.u64).bits (IntKind.u64.wrap ((BitVec.ofInt (IntKind.u64).bits (IntKind.u64.wrap ((BitVec.ofInt (IntKind.u64).bits r.v ^^^ BitVec.ofInt (IntKind.u64).bits (IntKind.u64.wrap (r.v * 2 ^ (min (13 : Int).toNat (IntKind.u64).bits)))).toNat : Int)) ^^^ BitVec.ofInt (IntKind.u64).bits ((IntKind.u64.wrap ((BitVec.ofInt (IntKind.u64).bits r.v ^^^ BitVec.ofInt (IntKind.u64).bits (IntKind.u64.wrap (r.v * 2 ^ (min (13 : Int).toNat (IntKind.u64).bits)))).toNat : Int)).fdiv (2 ^ (min (7 : Int).toNat (IntKind.u64).bits)))).toNat : Int)) ^^^ BitVec.ofInt (IntKind.u64).bits (IntKind.u64.wrap ((IntKind.u64.wrap ((BitVec.ofInt (IntKind.u64).bits (IntKind.u64.wrap ((BitVec.ofInt (IntKind.u64).bits r.v ^^^ BitVec.ofInt (IntKind.u64).bits (IntKind.u64.wrap (r.v * 2 ^ (min (13 : Int).toNat (IntKind.u64).bits)))).toNat : Int)) ^^^ BitVec.ofInt (IntKind.u64).bits ((IntKind.u64.wrap ((BitVec.ofInt (IntKind.u64).bits r.v ^^^ BitVec.ofInt (IntKind.u64).bits (IntKind.u64.wrap (r.v * 2 ^ (min (13 : Int).toNat (IntKind.u64).bits)))).toNat : Int)).fdiv (2 ^ (min (7 : Int).toNat (IntKind.u64).bits)))).toNat : Int)) * 2 ^ (min (17 : Int).toNat (IntKind.u64).bits)))).toNat : Int))⟩ : IK .u64))
noncomputable def zq34_L1 (a : Int) (b : Int) (r : (IK .u64)) : Int × (List Int) × Int → Option (Lp (Int × (List Int) × Int) ((List Int)))
 | (v, data1, v1) =>
  (chk ((4 : Int) ≠ 0)).bind fun u1 =>
  if (decide (v ≤ (w64 ((w64 (a + (w64 ((w64 ((w64 (b - a)).tdiv 4)) * 2)))) + 1)))) = true then
   (zq61 (⟨v1⟩ : IK .u64)).bind fun r1 =>
   (if (decide ((w64 (b - a)) ≤ (w64 ((IntKind.u64.wrap ((BitVec.ofInt (IntKind.u64).bits r1.1.v &&& BitVec.ofInt (IntKind.u64).bits (IntKind.u64.wrap (r.v - 1))).toNat : Int)))))) = true then
    some (w64 ((w64 ((IntKind.u64.wrap ((BitVec.ofInt (IntKind.u64).bits r1.1.v &&& BitVec.ofInt (IntKind.u64).bits (IntKind.u64.wrap (r.v - 1))).toNat : Int)))) - (w64 (b - a))))
   else
    some (w64 ((IntKind.u64.wrap ((BitVec.ofInt (IntKind.u64).bits r1.1.v &&& BitVec.ofInt (IntKind.u64).bits (IntKind.u64.wrap (r.v - 1))).toNat : Int))))).bind fun (v2 : Int) =>
   (idx data1 (w64 (a + v2))).bind fun e4 =>
   (idx data1 v).bind fun e5 =>
   (idx data1 v).bind fun e6 =>
   (idx (data1.set v.toNat e4) (w64 (a + v2))).bind fun e7 =>
   some (.nx ((w64 (v + 1)), ((data1.set v.toNat e4).set (w64 (a + v2)).toNat e5), r1.2.v))
  else
   some (.dn data1)
noncomputable def zq34 (data : List Int) (a : Int) (b : Int) : Option ((List Int)) :=
 if (decide (8 ≤ (w64 (b - a)))) = true then
  (zq43 (w64 (b - a))).bind fun r =>
  (chk ((4 : Int) ≠ 0)).bind fun u =>
  iter (zq34_L1 a b r) ((w64 ((w64 (a + (w64 ((w64 ((w64 (b - a)).tdiv 4)) * 2)))) - 1)), data, (IntKind.u64.wrap ((w64 (b - a)))))
 else
  some data
noncomputable def zq48_L1 (rec_ : (List Int) → Int → Int → Int → Option ((List Int))) : Int × Int × Int × Bool × Bool × (List Int) → Option (Lp (Int × Int × Int × Bool × Bool × (List Int)) ((List Int)))
 | (a1, b1, limit1, hint, mid, data1) =>
  if (decide ((w64 (b1 - a1)) ≤ 12)) = true then
   (zq40 data1 a1 b1).bind fun r =>
   some (.dn r)
  else
   if (limit1 == 0) = true then
    (zq36 data1 a1 b1).bind fun r2 =>
    some (.dn r2)
   else
    (if (!hint) = true then
     (zq34 data1 a1 b1).bind fun r4 =>
     some ((w64 (limit1 - 1)), r4)
    else
     some (limit1, data1)).bind fun ((limit2, data2) : Int × (List Int)) =>
    (zq35 data2 a1 b1).bind fun r5 =>
    (if (r5.2 == 2) = true then
     (zq49 data2 a1 b1).bind fun r6 =>
     some ((w64 ((w64 (b1 - 1)) - (w64 (r5.1 - a1)))), (1 : Int), r6)
    else
     some (r5.1, r5.2, data2)).bind fun ((alreadyPartitioned, leftLen, data3) : Int × Int × (List Int)) =>
    flb ((if hint = true then if mid = true then some (leftLen == 1) else some false else some false).bind fun (v : Bool) =>
    if v = true then
     (zq45 data3 a1 b1).bind fun r7 =>
     if r7.1 = true then
      some (.ret (.dn r7.2))
     else
      some (.go r7.2)
    else
     some (.go data3)) fun (data4 : List Int) =>
    (if (decide (0 < a1)) = true then (idx data4 (w64 (a1 - 1))).bind fun e6 =>
    (idx data4 alreadyPartitioned).bind fun e7 =>
    (zq1 e6 e7).bind fun r11 =>
    some (!r11) else some false).bind fun (v1 : Bool) =>
    if v1 = true then
     (zq46 data4 a1 b1 alreadyPartitioned).bind fun r12 =>
     some (.nx (r12.1, b1, limit2, hint, mid, r12.2))
    else
     (zq47 data4 a1 b1 alreadyPartitioned).bind fun r13 =>
     (chk ((8 : Int) ≠ 0)).bind fun u =>
     if (decide ((w64 (r13.1 - a1)) < (w64 (b1 - r13.1)))) = true then
      (rec_ r13.2.2 a1 r13.1 limit2).bind fun r14 =>
      some (.nx ((w64 (r13.1 + 1)), b1, limit2, (decide ((w64 ((w64 (b1 - a1)).tdiv 8)) ≤ (w64 (r13.1 - a1)))), r13.2.1, r14))
     else
      (rec_ r13.2.2 (w64 (r13.1 + 1)) b1 limit2).bind fun r15 =>
      some (.nx (a1, r13.1, limit2, (decide ((w64 ((w64 (b1 - a1)).tdiv 8)) ≤ (w64 (b1 - r13.1)))), r13.2.1, r15))
noncomputable def zq48_F (rec_ : (List Int) → Int → Int → Int → Option ((List Int))) (data : List Int) (a : Int) (b : Int) (limit : Int) : Option ((List Int)) :=
 iter (zq48_L1 rec_) (a, b, limit, true, true, data)
noncomputable def zq48_k : Nat → (List Int) → Int → Int → Int → Option ((List Int))
 | 0 => fun _ _ _ _ => none
 | n + 1 => zq48_F (zq48_k n)
noncomputable def zq48 (data : List Int) (a : Int) (b : Int) (limit : Int) : Option ((List Int)) := zq48_k 4294967296 data a b limit
noncomputable def zq33 (x : List Int) : Option ((List Int)) :=
 (zq13 (⟨(IntKind.u64.wrap ((x.length : Int)))⟩ : IK .u64)).bind fun r =>
 (zq48 x 0 (x.length : Int) r).bind fun r1 =>
 some r1
noncomputable def zq7_L1 (prices : List Int) : Int → Option (Lp (Int) (Fl ((List Int) × Int × Bool) (Unit)))
 | v1 =>
  if (decide (v1 < (prices.length : Int))) = true then
   (idx prices v1).bind fun e =>
   (zq12 e 0 1000).bind fun r3 =>
   if (!r3) = true then
    some (.dn (.ret (([] : List Int), 0, false)))
   else
    some (.nx (w64 (v1 + 1)))
  else
   some (.dn (.go ()))
noncomputable def zq7_L2 (from_ : Int) (to_ : Int) : Int × (List Int) → Option (Lp (Int × (List Int)) ((List Int)))
 | (v2, v3) =>
  if (decide (v2 < ((List.replicate (w64 (to_ - from_)).toNat (0 : Int)).length : Int))) = true then
   (idx v3 v2).bind fun e2 =>
   some (.nx ((w64 (v2 + 1)), (v3.set v2.toNat (w64 (from_ + v2)))))
  else
   some (.dn v3)
noncomputable def zq7_L3 (prices : List Int) (r7 : (List Int)) : Int × Int → Option (Lp (Int × Int) (Int))
 | (v5, v6) =>
  if (decide (v6 < (r7.length : Int))) = true then
   (idx r7 v6).bind fun e3 =>
   (chk ((60 : Int) ≠ 0)).bind fun u2 =>
   (idx prices (w64 (e3.tdiv 60))).bind fun e4 =>
   some (.nx ((w64 (v5 + e4)), (w64 (v6 + 1))))
  else
   some (.dn v5)
noncomputable def zq7 (prices : List Int) (from_ : Int) (to_ : Int) (minutes : Int) : Option ((List Int) × Int × Bool) :=
 (if ((prices.length : Int) != 30) = true then some true else (zq9 from_).bind fun r =>
 if (!r) = true then some true else (zq9 to_).bind fun r1 =>
 if (!r1) = true then some true else if (decide (to_ < from_)) = true then some true else (zq12 minutes 0 (if 200 < (w64 (to_ - from_)) then 200 else (w64 (to_ - from_)))).bind fun r2 =>
 some (!r2)).bind fun (v : Bool) =>
 if v = true then
  some (([] : List Int), 0, false)
 else
  flb (iter (zq7_L1 prices) (0 : Int)) fun (_ : Unit) =>
  (chk ((0 : Int) ≤ (w64 (to_ - from_)) ∧ ((w64 (to_ - from_)) : Int) ≤ 4294967296)).bind fun u =>
  (iter (zq7_L2 from_ to_) ((0 : Int), (List.replicate (w64 (to_ - from_)).toNat (0 : Int)))).bind fun (v4 : List Int) =>
  (zq32 v4 prices).bind fun r5 =>
  (chk ((0 : Int) ≤ 0 ∧ (0 : Int) ≤ minutes ∧ minutes ≤ (r5.length : Int))).bind fun u1 =>
  (zq30 ((r5.take minutes.toNat).drop (0 : Int).toNat)).bind fun r6 =>
  (zq33 r6).bind fun r7 =>
  (iter (zq7_L3 prices r7) ((0 : Int), (0 : Int))).bind fun (v7 : Int) =>
  some (r7, v7, true)
noncomputable def zq25 (a : Int) (b : Int) : Option (Int) :=
 if (decide (a < b)) = true then
  some a
 else
  some b
noncomputable def zq27_L1 (l : List Int) (n : Int) : Int → Option (Lp (Int) (Int))
 | v =>
  (if (decide (v < (l.length : Int))) = true then (idx l v).bind fun e =>
  some (decide (e < n)) else some false).bind fun (v1 : Bool) =>
  if v1 = true then
   some (.nx (w64 (v + 1)))
  else
   some (.dn v)
noncomputable def zq27 (l : List Int) (n : Int) : Option ((List Int)) :=
 (iter (zq27_L1 l n) (0 : Int)).bind fun (v2 : Int) =>
 (if (decide (v2 < (l.length : Int))) = true then (idx l v2).bind fun e1 =>
 some (e1 == n) else some false).bind fun (v3 : Bool) =>
 if v3 = true then
  some l
 else
  (chk ((0 : Int) ≤ 0 ∧ (0 : Int) ≤ v2 ∧ v2 ≤ (l.length : Int))).bind fun u5 =>
  (chk (([] : List Int).length + ((l.take v2.toNat).drop (0 : Int).toNat).length ≤ 4294967296)).bind fun u6 =>
  (chk ((([] : List Int) ++ ((l.take v2.toNat).drop (0 : Int).toNat)).length + ([n] : List Int).length ≤ 4294967296)).bind fun u7 =>
  (chk ((0 : Int) ≤ v2 ∧ v2 ≤ (l.length : Int))).bind fun u8 =>
  (chk (((([] : List Int) ++ ((l.take v2.toNat).drop (0 : Int).toNat)) ++ ([n] : List Int)).length + (l.drop v2.toNat).length ≤ 4294967296)).bind fun u9 =>
  some (((([] : List Int) ++ ((l.take v2.toNat).drop (0 : Int).toNat)) ++ ([n] : List Int)) ++ (l.drop v2.toNat))
noncomputable def zq17_L1 (prices : List Int) : Int → Option (Lp (Int) (Fl ((List Int) × Int × Bool) (Unit)))
 | t =>
  if (decide (t < 30)) = true then
   (idx prices t).bind fun e =>
   (zq24 e 0 1000).bind fun r4 =>
   if (!r4) = true then
    some (.dn (.ret (([] : List Int), 0, false)))
   else
    some (.nx (w64 (t + 1)))
  else
   some (.dn (.go ()))
noncomputable def zq17_L2 (prices : List Int) (to_ : Int) (minutes : Int) (v3 : Int) : (List Int) × Int × Int → Option (Lp ((List Int) × Int × Int) ((List Int) × Int))
 | (v4, v5, v6) =>
  (if (decide (v6 < to_)) = true then some (decide ((v4.length : Int) < minutes)) else some false).bind fun (v7 : Bool) =>
  if v7 = true then
   ((chk ((60 : Int) ≠ 0)).bind fun u =>
   (idx prices (w64 (v6.tdiv 60))).bind fun e2 =>
   if (e2 == v3) = true then
    (zq27 v4 v6).bind fun r6 =>
    some (r6, (w64 (v5 + v3)))
   else
    some (v4, v5)).bind fun ((v8, v9) : (List Int) × Int) =>
   some (.nx (v8, v9, (w64 (v6 + 1))))
  else
   some (.dn (v4, v5))
noncomputable def zq17_L3 (prices : List Int) (from_ : Int) (to_ : Int) (minutes : Int) : (List Int) × Int × Int → Option (Lp ((List Int) × Int × Int) ((List Int) × Int))
 | (v1, v2, v3) =>
  if (decide (v3 ≤ 1000)) = true then
   (iter (zq17_L2 prices to_ minutes v3) (v1, v2, from_)).bind fun ((v10, v11) : (List Int) × Int) =>
   some (.nx (v10, v11, (w64 (v3 + 1))))
  else
   some (.dn (v1, v2))
noncomputable def zq17 (prices : List Int) (from_ : Int) (to_ : Int) (minutes : Int) : Option ((List Int) × Int × Bool) :=
 (if ((prices.length : Int) != 30) = true then some true else (zq29 from_).bind fun r =>
 if (!r) = true then some true else (zq29 to_).bind fun r1 =>
 if (!r1) = true then some true else (zq25 (w64 (to_ - from_)) 200).bind fun r2 =>
 (zq24 minutes 0 r2).bind fun r3 =>
 some (!r3)).bind fun (v : Bool) =>
 if v = true then
  some (([] : List Int), 0, false)
 else
  flb (iter (zq17_L1 prices) (0 : Int)) fun (_ : Unit) =>
  (iter (zq17_L3 prices from_ to_ minutes) (([] : List Int), (0 : Int), (0 : Int))).bind fun ((v12, v13) : (List Int) × Int) =>
  some (v12, v13, true)
noncomputable def v_FnChargers_L1 (r1 : (List Span) × Int) (r2 : (List Int) × Bool) : Int → Option (Lp (Int) (Fl (Bool) (Unit)))
 | peak =>
  (if (decide (peak < (r2.1.length : Int))) = true then some r2.2 else some false).bind fun (v1 : Bool) =>
  if v1 = true then
   (idx r2.1 peak).bind fun e2 =>
   (idx r1.1 peak).bind fun e3 =>
   if (decide (e2 < e3.From)) = true then
    some (.dn (.ret false))
   else
    some (.nx (w64 (peak + 1)))
  else
   some (.dn (.go ()))
noncomputable def v_FnChargers_L2 (r1 : (List Span) × Int) : Bool × Int → Option (Lp (Bool × Int) (Bool))
 | (i, free) =>
  if (decide (free < (r1.1.length : Int))) = true then
   if i = true then (idx r1.1 free).bind fun e7 =>
   (idx r1.1 free).bind fun e8 =>
   some (.nx ((decide (e7.From < e8.To)), (w64 (free + 1)))) else some (.nx (false, (w64 (free + 1))))
  else
   some (.dn i)
noncomputable def v_FnChargers_L3 (r1 : (List Span) × Int) (r8 : (List Int) × Bool) : Int → Option (Lp (Int) (Fl (Fl (Bool) (Unit)) (Unit)))
 | prices =>
  if (decide (prices < (r8.1.length : Int))) = true then
   (idx r8.1 prices).bind fun e12 =>
   (idx r1.1 prices).bind fun e13 =>
   if (e12 != e13.From) = true then
    some (.dn (.ret (.ret false)))
   else
    some (.nx (w64 (prices + 1)))
  else
   some (.dn (.go ()))
noncomputable def v_FnChargers_L4 (r12 : (List Int) × Int × Int × Int) (r13 : (List Int) × Int × Bool) : Int × Int → Option (Lp (Int × Int) (Int))
 | (i2, v6) =>
  if (decide (v6 < (r13.1.length : Int))) = true then
   (idx r13.1 v6).bind fun e16 =>
   (chk ((60 : Int) ≠ 0)).bind fun u =>
   (idx r12.1 (w64 (e16.tdiv 60))).bind fun e17 =>
   some (.nx ((w64 (i2 + e17)), (w64 (v6 + 1))))
  else
   some (.dn i2)
noncomputable def v_FnChargers (code : List UInt8) : Option (Bool) :=
 (zq62 code).bind fun r =>
 if r = true then
  some true
 else
  (zq18 code).bind fun r1 =>
  (zq5 r1.1 r1.2).bind fun r2 =>
  (zq16 r1.1 r1.2).bind fun r3 =>
  (if (!(r2.2 == r3.2)) = true then some true else (zq63 r2.1 r3.1).bind fun r4 =>
  some (!r4)).bind fun (v : Bool) =>
  if v = true then
   some false
  else
   flb (iter (v_FnChargers_L1 r1 r2) (0 : Int)) fun (_ : Unit) =>
   (zq4 r1.1).bind fun r6 =>
   (zq15 r1.1).bind fun r7 =>
   (if (r6.1 != r7.1) = true then some true else if (r6.2.1 != r7.2.1) = true then some true else some (!(r6.2.2 == r7.2.2))).bind fun (v2 : Bool) =>
   if v2 = true then
    some false
   else
    (iter (v_FnChargers_L2 r1) (true, (0 : Int))).bind fun (i1 : Bool) =>
    flb ((if r6.2.2 = true then if i1 = true then if (decide (1 ≤ r6.1)) = true then some (decide (r6.1 ≤ 10)) else some false else some false else some false).bind fun (v3 : Bool) =>
    if v3 = true then
     (zq5 r1.1 r6.1).bind fun r8 =>
     if (!r8.2) = true then
      some (.ret false)
     else
      flb (iter (v_FnChargers_L3 r1 r8) (0 : Int)) fun (_ : Unit) =>
      some (.go ())
    else
     some (.go ())) fun (_ : Unit) =>
    (zq19 code).bind fun r12 =>
    (zq7 r12.1 r12.2.1 r12.2.2.1 r12.2.2.2).bind fun r13 =>
    (zq17 r12.1 r12.2.1 r12.2.2.1 r12.2.2.2).bind fun r14 =>
    (if (!(r13.2.2 == r14.2.2)) = true then some true else if (r13.2.1 != r14.2.1) = true then some true else (zq63 r13.1 r14.1).bind fun r15 =>
    some (!r15)).bind fun (v5 : Bool) =>
    if v5 = true then
     some false
    else
     (iter (v_FnChargers_L4 r12 r13) ((0 : Int), (0 : Int))).bind fun (i3 : Int) =>
     (if (!r13.2.2) = true then some true else if ((r13.1.length : Int) == r12.2.2.2) = true then some (i3 == r13.2.1) else some false).bind fun (list : Bool) =>
     some list
end Go.Proofs.Ytmmffjenpfeapaa
