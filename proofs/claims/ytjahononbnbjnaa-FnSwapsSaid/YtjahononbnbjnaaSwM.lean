/- Models of the functions that the law reaches: plain Lean; none where the function would panic or not end. Made by program (dec.py). -/
import Derived.Test.YtjahononbnbjnaaAbC0
import Derived.Test.YtjahononbnbjnaaAbMp
import Derived.Test.YtjahononbnbjnaaAbIns
import Derived.Test.YtjahononbnbjnaaAbGro
namespace Go.Proofs.Ytjahononbnbjnaa
open Go Go.Ab
set_option maxRecDepth 100000
set_option maxHeartbeats 4000000
set_option linter.unusedVariables false
set_option linter.unusedSimpArgs false
structure l1Cur where
 code_ : List UInt8
 at_ : Int
 seed_ : IK .u64
instance enc_l1Cur : Enc l1Cur := ⟨3, fun x => .agg [Enc.e x.code_, .sc (.int .i64 x.at_), .sc (.int .u64 x.seed_.v)], fun a b h => by
 simp only [D.agg.injEq, List.cons.injEq, and_true] at h
 obtain ⟨a1, a2, a3⟩ := a
 obtain ⟨b1, b2, b3⟩ := b
 obtain ⟨h1, h2, h3⟩ := h
 have q1 := Enc.inj (α := List UInt8) a1 b1 h1
 have q2 := Enc.inj (α := Int) a2 b2 h2
 have q3 := Enc.inj (α := IK .u64) a3 b3 h3
 subst q1; subst q2; subst q3; rfl⟩
structure Line where
 Name : ByteArray
 Stops : List Int
 Runs : List Int
instance enc_Line : Enc Line := ⟨3, fun x => .agg [.sc (.string x.Name), Enc.e x.Stops, Enc.e x.Runs], fun a b h => by
 simp only [D.agg.injEq, List.cons.injEq, and_true] at h
 obtain ⟨a1, a2, a3⟩ := a
 obtain ⟨b1, b2, b3⟩ := b
 obtain ⟨h1, h2, h3⟩ := h
 have q1 := Enc.inj (α := ByteArray) a1 b1 h1
 have q2 := Enc.inj (α := List Int) a2 b2 h2
 have q3 := Enc.inj (α := List Int) a3 b3 h3
 subst q1; subst q2; subst q3; rfl⟩
structure Network where
 Stops : List ByteArray
 Lines : List Line
instance enc_Network : Enc Network := ⟨2, fun x => .agg [Enc.e x.Stops, Enc.e x.Lines], fun a b h => by
 simp only [D.agg.injEq, List.cons.injEq, and_true] at h
 obtain ⟨a1, a2⟩ := a
 obtain ⟨b1, b2⟩ := b
 obtain ⟨h1, h2⟩ := h
 have q1 := Enc.inj (α := List ByteArray) a1 b1 h1
 have q2 := Enc.inj (α := List Line) a2 b2 h2
 subst q1; subst q2; rfl⟩
structure Trip where
 Id : Int
 Line : Int
 Start : Int
instance enc_Trip : Enc Trip := ⟨3, fun x => .agg [.sc (.int .i64 x.Id), .sc (.int .i64 x.Line), .sc (.int .i64 x.Start)], fun a b h => by
 simp only [D.agg.injEq, List.cons.injEq, and_true] at h
 obtain ⟨a1, a2, a3⟩ := a
 obtain ⟨b1, b2, b3⟩ := b
 obtain ⟨h1, h2, h3⟩ := h
 have q1 := Enc.inj (α := Int) a1 b1 h1
 have q2 := Enc.inj (α := Int) a2 b2 h2
 have q3 := Enc.inj (α := Int) a3 b3 h3
 subst q1; subst q2; subst q3; rfl⟩
structure Timetable where
 Network : Network
 Trips : List Trip
instance enc_Timetable : Enc Timetable := ⟨3, fun x => .agg [Enc.e x.Network.Stops, Enc.e x.Network.Lines, Enc.e x.Trips], fun a b h => by
 simp only [D.agg.injEq, List.cons.injEq, and_true] at h
 obtain ⟨⟨a1, a2⟩, a3⟩ := a
 obtain ⟨⟨b1, b2⟩, b3⟩ := b
 obtain ⟨h1, h2, h3⟩ := h
 have q1 := Enc.inj (α := List ByteArray) a1 b1 h1
 have q2 := Enc.inj (α := List Line) a2 b2 h2
 have q3 := Enc.inj (α := List Trip) a3 b3 h3
 subst q1; subst q2; subst q3; rfl⟩
structure Fleet where
 Dead : List (List Int)
 Turn : Int
instance enc_Fleet : Enc Fleet := ⟨2, fun x => .agg [Enc.e x.Dead, .sc (.int .i64 x.Turn)], fun a b h => by
 simp only [D.agg.injEq, List.cons.injEq, and_true] at h
 obtain ⟨a1, a2⟩ := a
 obtain ⟨b1, b2⟩ := b
 obtain ⟨h1, h2⟩ := h
 have q1 := Enc.inj (α := List (List Int)) a1 b1 h1
 have q2 := Enc.inj (α := Int) a2 b2 h2
 subst q1; subst q2; rfl⟩
structure l11Plan where
 t_ : Timetable
 f_ : Fleet
 known_ : List (List Int)
instance enc_l11Plan : Enc l11Plan := ⟨6, fun x => .agg [Enc.e x.t_.Network.Stops, Enc.e x.t_.Network.Lines, Enc.e x.t_.Trips, Enc.e x.f_.Dead, .sc (.int .i64 x.f_.Turn), Enc.e x.known_], fun a b h => by
 simp only [D.agg.injEq, List.cons.injEq, and_true] at h
 obtain ⟨⟨⟨a1, a2⟩, a3⟩, ⟨a4, a5⟩, a6⟩ := a
 obtain ⟨⟨⟨b1, b2⟩, b3⟩, ⟨b4, b5⟩, b6⟩ := b
 obtain ⟨h1, h2, h3, h4, h5, h6⟩ := h
 have q1 := Enc.inj (α := List ByteArray) a1 b1 h1
 have q2 := Enc.inj (α := List Line) a2 b2 h2
 have q3 := Enc.inj (α := List Trip) a3 b3 h3
 have q4 := Enc.inj (α := List (List Int)) a4 b4 h4
 have q5 := Enc.inj (α := Int) a5 b5 h5
 have q6 := Enc.inj (α := List (List Int)) a6 b6 h6
 subst q1; subst q2; subst q3; subst q4; subst q5; subst q6; rfl⟩
structure links where
 count_ : Int
 dead_ : Int
instance enc_links : Enc links := ⟨2, fun x => .agg [.sc (.int .i64 x.count_), .sc (.int .i64 x.dead_)], fun a b h => by
 simp only [D.agg.injEq, List.cons.injEq, and_true] at h
 obtain ⟨a1, a2⟩ := a
 obtain ⟨b1, b2⟩ := b
 obtain ⟨h1, h2⟩ := h
 have q1 := Enc.inj (α := Int) a1 b1 h1
 have q2 := Enc.inj (α := Int) a2 b2 h2
 subst q1; subst q2; rfl⟩
structure linker where
 t_ : Timetable
 f_ : Fleet
 memo_ : List ((Int × Int) × links)
instance enc_linker : Enc linker := ⟨6, fun x => .agg [Enc.e x.t_.Network.Stops, Enc.e x.t_.Network.Lines, Enc.e x.t_.Trips, Enc.e x.f_.Dead, .sc (.int .i64 x.f_.Turn), Enc.e x.memo_], fun a b h => by
 simp only [D.agg.injEq, List.cons.injEq, and_true] at h
 obtain ⟨⟨⟨a1, a2⟩, a3⟩, ⟨a4, a5⟩, a6⟩ := a
 obtain ⟨⟨⟨b1, b2⟩, b3⟩, ⟨b4, b5⟩, b6⟩ := b
 obtain ⟨h1, h2, h3, h4, h5, h6⟩ := h
 have q1 := Enc.inj (α := List ByteArray) a1 b1 h1
 have q2 := Enc.inj (α := List Line) a2 b2 h2
 have q3 := Enc.inj (α := List Trip) a3 b3 h3
 have q4 := Enc.inj (α := List (List Int)) a4 b4 h4
 have q5 := Enc.inj (α := Int) a5 b5 h5
 have q6 := Enc.inj (α := List ((Int × Int) × links)) a6 b6 h6
 subst q1; subst q2; subst q3; subst q4; subst q5; subst q6; rfl⟩
instance : BxE l1Cur := ⟨fun x y h => Enc.inj x y (congrArg D.agg h)⟩
instance : BxE Line := ⟨fun x y h => Enc.inj x y (congrArg D.agg h)⟩
instance : BxE Network := ⟨fun x y h => Enc.inj x y (congrArg D.agg h)⟩
instance : BxE Trip := ⟨fun x y h => Enc.inj x y (congrArg D.agg h)⟩
instance : BxE Timetable := ⟨fun x y h => Enc.inj x y (congrArg D.agg h)⟩
instance : BxE Fleet := ⟨fun x y h => Enc.inj x y (congrArg D.agg h)⟩
instance : BxE l11Plan := ⟨fun x y h => Enc.inj x y (congrArg D.agg h)⟩
instance : BxE links := ⟨fun x y h => Enc.inj x y (congrArg D.agg h)⟩
instance : BxE linker := ⟨fun x y h => Enc.inj x y (congrArg D.agg h)⟩
instance : FlatEnc Trip := ⟨fun _ => flatDB_ok rfl⟩
instance : FlatEnc links := ⟨fun _ => flatDB_ok rfl⟩
noncomputable def zq98 (code : List UInt8) : Option (Bool) :=
 some (decide (65536 < (code.length : Int)))
noncomputable def zq58 (c : l1Cur) : Option (Int × l1Cur) :=
 (if (decide (c.at_ < (c.code_.length : Int))) = true then
  (idx c.code_ c.at_).bind fun e1 =>
  some (w64 ((e1.toNat : Int)))
 else
  some (0 : Int)).bind fun (v : Int) =>
 if (decide ((w64 (c.at_ + 1)) ≤ (c.code_.length : Int))) = true then
  some (v, (⟨c.code_, (w64 (c.at_ + 1)), (⟨(IntKind.u64.wrap ((IntKind.u64.wrap ((IntKind.u64.wrap (c.seed_.v * 6364136223846793005)) + (IntKind.u64.wrap (v)))) + 900900))⟩ : IK .u64)⟩ : l1Cur))
 else
  (chk ((0 : Int) ≤ 40)).bind fun u =>
  some ((w64 ((IntKind.u64.wrap ((BitVec.ofInt (IntKind.u64).bits ((IntKind.u64.wrap ((IntKind.u64.wrap ((IntKind.u64.wrap (c.seed_.v * 6364136223846793005)) + (IntKind.u64.wrap (v)))) + 900900)).fdiv (2 ^ (min (40 : Int).toNat (IntKind.u64).bits))) &&& BitVec.ofInt (IntKind.u64).bits 255).toNat : Int)))), (⟨c.code_, (w64 (c.at_ + 1)), (⟨(IntKind.u64.wrap ((IntKind.u64.wrap ((IntKind.u64.wrap (c.seed_.v * 6364136223846793005)) + (IntKind.u64.wrap (v)))) + 900900))⟩ : IK .u64)⟩ : l1Cur))
noncomputable def zq62 (c : l1Cur) (n : Int) : Option (Int × l1Cur) :=
 if (decide (n ≤ 1)) = true then
  some (0, c)
 else
  (zq58 c).bind fun r =>
  (if (decide (200 < n)) = true then
   (zq58 r.2).bind fun r1 =>
   some ((w64 ((w64 (r.1 * 256)) + r1.1)), r1.2.code_, r1.2.at_, r1.2.seed_.v)
  else
   some (r.1, r.2.code_, r.2.at_, r.2.seed_.v)).bind fun ((v, v1, v2, v3) : Int × (List UInt8) × Int × Int) =>
  (chk ((n : Int) ≠ 0)).bind fun u =>
  some ((v.tmod n), (⟨v1, v2, (⟨v3⟩ : IK .u64)⟩ : l1Cur))
noncomputable def zq61 (c : l1Cur) (n : Int) : Option (Bool × l1Cur) :=
 (zq62 c n).bind fun r =>
 some ((r.1 == 0), r.2)
noncomputable def zq70_F (rec_ : Int → Option (ByteArray)) (n : Int) : Option (ByteArray) :=
 if (decide (n < 0)) = true then
  (rec_ (w64 (0 - n))).bind fun r =>
  (chk ((str [45]).size + r.size ≤ 4294967296)).bind fun u =>
  some ((str [45]) ++ r)
 else
  if (decide (n < 10)) = true then
   (chk ((0 : Int) ≤ n ∧ (n : Int) ≤ (w64 (n + 1)) ∧ (w64 (n + 1)) ≤ ((str [48, 49, 50, 51, 52, 53, 54, 55, 56, 57]).size : Int))).bind fun u1 =>
   some ((str [48, 49, 50, 51, 52, 53, 54, 55, 56, 57]).extract n.toNat (w64 (n + 1)).toNat)
  else
   (chk ((10 : Int) ≠ 0)).bind fun u7 =>
   (rec_ (w64 (n.tdiv 10))).bind fun r2 =>
   (chk ((10 : Int) ≠ 0)).bind fun u8 =>
   (chk ((10 : Int) ≠ 0)).bind fun u9 =>
   (chk ((0 : Int) ≤ (n.tmod 10) ∧ ((n.tmod 10) : Int) ≤ (w64 ((n.tmod 10) + 1)) ∧ (w64 ((n.tmod 10) + 1)) ≤ ((str [48, 49, 50, 51, 52, 53, 54, 55, 56, 57]).size : Int))).bind fun u10 =>
   (chk (r2.size + ((str [48, 49, 50, 51, 52, 53, 54, 55, 56, 57]).extract (n.tmod 10).toNat (w64 ((n.tmod 10) + 1)).toNat).size ≤ 4294967296)).bind fun u11 =>
   some (r2 ++ ((str [48, 49, 50, 51, 52, 53, 54, 55, 56, 57]).extract (n.tmod 10).toNat (w64 ((n.tmod 10) + 1)).toNat))
noncomputable def zq70_k : Nat → Int → Option (ByteArray)
 | 0 => fun _ => none
 | n + 1 => zq70_F (zq70_k n)
noncomputable def zq70 (n : Int) : Option (ByteArray) := zq70_k 4294967296 n
noncomputable def zq82_L1 (x : Line) (stop : Int) : Int → Option (Lp (Int) (Fl (Int) (Unit)))
 | v =>
  if (decide (v < (x.Stops.length : Int))) = true then
   (idx x.Stops v).bind fun e =>
   if (e == stop) = true then
    some (.dn (.ret v))
   else
    some (.nx (w64 (v + 1)))
  else
   some (.dn (.go ()))
noncomputable def zq82 (x : Line) (stop : Int) : Option (Int) :=
 flb (iter (zq82_L1 x stop) (0 : Int)) fun (_ : Unit) =>
 some (-1)
noncomputable def zq54_L1 (name : ByteArray) (stops : Int) : Int × Int × (List UInt8) × Int × Int × (List Int) → Option (Lp (Int × Int × (List UInt8) × Int × Int × (List Int)) ((List UInt8) × Int × Int × (List Int)))
 | (v, v1, v2, v3, v4, v5) =>
  if (decide (0 < v1)) = true then
   ((zq82 (⟨name, v5, ([] : List Int)⟩ : Line) v).bind fun r2 =>
   if (decide (r2 < 0)) = true then
    (chk (v5.length + ([v] : List Int).length ≤ 4294967296)).bind fun u =>
    some (v5 ++ ([v] : List Int))
   else
    some v5).bind fun (v6 : List Int) =>
   (zq62 (⟨v2, v3, (⟨v4⟩ : IK .u64)⟩ : l1Cur) 2).bind fun r3 =>
   (chk ((stops : Int) ≠ 0)).bind fun u1 =>
   some (.nx (((w64 ((w64 (v + 1)) + r3.1)).tmod stops), (w64 (v1 - 1)), r3.2.code_, r3.2.at_, r3.2.seed_.v, v6))
  else
   some (.dn (v2, v3, v4, v5))
noncomputable def zq54_L2 (v11 : List Int) : Int × (List UInt8) × Int × Int × (List Int) → Option (Lp (Int × (List UInt8) × Int × Int × (List Int)) ((List UInt8) × Int × Int × (List Int)))
 | (v12, v13, v14, v15, v16) =>
  if (decide (v12 < (v11.length : Int))) = true then
   (zq62 (⟨v13, v14, (⟨v15⟩ : IK .u64)⟩ : l1Cur) 12).bind fun r5 =>
   (chk (v16.length + ([(w64 (3 + r5.1))] : List Int).length ≤ 4294967296)).bind fun u7 =>
   some (.nx ((w64 (v12 + 1)), r5.2.code_, r5.2.at_, r5.2.seed_.v, (v16 ++ ([(w64 (3 + r5.1))] : List Int))))
  else
   some (.dn (v13, v14, v15, v16))
noncomputable def zq54 (c : l1Cur) (name : ByteArray) (stops : Int) : Option (Line × l1Cur) :=
 (zq62 c stops).bind fun r =>
 (zq62 r.2 3).bind fun r1 =>
 (iter (zq54_L1 name stops) (r.1, (w64 (2 + r1.1)), r1.2.code_, r1.2.at_, r1.2.seed_.v, ([] : List Int))).bind fun ((v7, v8, v9, v10) : (List UInt8) × Int × Int × (List Int)) =>
 (if (decide ((v10.length : Int) < 2)) = true then
  (idx v10 0).bind fun e1 =>
  (chk ((stops : Int) ≠ 0)).bind fun u4 =>
  (chk (v10.length + ([((w64 (e1 + 1)).tmod stops)] : List Int).length ≤ 4294967296)).bind fun u5 =>
  some (v10 ++ ([((w64 (e1 + 1)).tmod stops)] : List Int))
 else
  some v10).bind fun (v11 : List Int) =>
 (iter (zq54_L2 v11) ((1 : Int), v7, v8, v9, ([] : List Int))).bind fun ((v17, v18, v19, v20) : (List UInt8) × Int × Int × (List Int)) =>
 some ((⟨name, v11, v20⟩ : Line), (⟨v17, v18, (⟨v19⟩ : IK .u64)⟩ : l1Cur))
noncomputable def zq55_L1 (name : ByteArray) (stops : Int) : Int × Int × (List UInt8) × Int × Int × (List Int) → Option (Lp (Int × Int × (List UInt8) × Int × Int × (List Int)) ((List UInt8) × Int × Int × (List Int)))
 | (v, v1, v2, v3, v4, v5) =>
  if (decide (0 < v1)) = true then
   ((zq82 (⟨name, v5, ([] : List Int)⟩ : Line) v).bind fun r2 =>
   if (decide (r2 < 0)) = true then
    (chk (v5.length + ([v] : List Int).length ≤ 4294967296)).bind fun u =>
    some (v5 ++ ([v] : List Int))
   else
    some v5).bind fun (v6 : List Int) =>
   (zq62 (⟨v2, v3, (⟨v4⟩ : IK .u64)⟩ : l1Cur) 2).bind fun r3 =>
   (chk ((stops : Int) ≠ 0)).bind fun u1 =>
   some (.nx (((w64 ((w64 (v + 1)) + r3.1)).tmod stops), (w64 (v1 - 1)), r3.2.code_, r3.2.at_, r3.2.seed_.v, v6))
  else
   some (.dn (v2, v3, v4, v5))
noncomputable def zq55_L2 (v11 : List Int) : Int × (List UInt8) × Int × Int × (List Int) → Option (Lp (Int × (List UInt8) × Int × Int × (List Int)) ((List UInt8) × Int × Int × (List Int)))
 | (v12, v13, v14, v15, v16) =>
  if (decide (v12 < (v11.length : Int))) = true then
   (zq62 (⟨v13, v14, (⟨v15⟩ : IK .u64)⟩ : l1Cur) 12).bind fun r5 =>
   (chk (v16.length + ([(w64 (3 + r5.1))] : List Int).length ≤ 4294967296)).bind fun u7 =>
   some (.nx ((w64 (v12 + 1)), r5.2.code_, r5.2.at_, r5.2.seed_.v, (v16 ++ ([(w64 (3 + r5.1))] : List Int))))
  else
   some (.dn (v13, v14, v15, v16))
noncomputable def zq55 (c : l1Cur) (name : ByteArray) (stops : Int) : Option (Line × l1Cur) :=
 (zq62 c stops).bind fun r =>
 (zq62 r.2 3).bind fun r1 =>
 (iter (zq55_L1 name stops) (r.1, (w64 (2 + r1.1)), r1.2.code_, r1.2.at_, r1.2.seed_.v, ([] : List Int))).bind fun ((v7, v8, v9, v10) : (List UInt8) × Int × Int × (List Int)) =>
 (if (decide ((v10.length : Int) < 2)) = true then
  (idx v10 0).bind fun e1 =>
  (chk ((stops : Int) ≠ 0)).bind fun u4 =>
  (chk (v10.length + ([((w64 (e1 + 1)).tmod stops)] : List Int).length ≤ 4294967296)).bind fun u5 =>
  some (v10 ++ ([((w64 (e1 + 1)).tmod stops)] : List Int))
 else
  some v10).bind fun (v11 : List Int) =>
 (iter (zq55_L2 v11) ((1 : Int), v7, v8, v9, ([] : List Int))).bind fun ((v17, v18, v19, v20) : (List UInt8) × Int × Int × (List Int)) =>
 some ((⟨name, v11, v20⟩ : Line), (⟨v17, v18, (⟨v19⟩ : IK .u64)⟩ : l1Cur))
noncomputable def zq73_L1 (list : List Int) : Int × (List Int) → Option (Lp (Int × (List Int)) ((List Int)))
 | (v, i) =>
  if (decide (0 ≤ v)) = true then
   (idx list v).bind fun e =>
   (chk (i.length + ([e] : List Int).length ≤ 4294967296)).bind fun u =>
   some (.nx ((w64 (v - 1)), (i ++ ([e] : List Int))))
  else
   some (.dn i)
noncomputable def zq73 (list : List Int) : Option ((List Int)) :=
 (iter (zq73_L1 list) ((w64 ((list.length : Int) - 1)), ([] : List Int))).bind fun (i1 : List Int) =>
 some i1
noncomputable def zq74_L1 (list : List Int) : Int × (List Int) → Option (Lp (Int × (List Int)) ((List Int)))
 | (v, i) =>
  if (decide (0 ≤ v)) = true then
   (idx list v).bind fun e =>
   (chk (i.length + ([e] : List Int).length ≤ 4294967296)).bind fun u =>
   some (.nx ((w64 (v - 1)), (i ++ ([e] : List Int))))
  else
   some (.dn i)
noncomputable def zq74 (list : List Int) : Option ((List Int)) :=
 (iter (zq74_L1 list) ((w64 ((list.length : Int) - 1)), ([] : List Int))).bind fun (i1 : List Int) =>
 some i1
noncomputable def zq71 (l : List Int) : Option ((List Int)) :=
 (chk (([] : List Int).length + l.length ≤ 4294967296)).bind fun u =>
 some (([] : List Int) ++ l)
noncomputable def zq72 (l : List Int) : Option ((List Int)) :=
 (chk (([] : List Int).length + l.length ≤ 4294967296)).bind fun u =>
 some (([] : List Int) ++ l)
noncomputable def zq80_L1 (n : Network) : Int × (List Line) → Option (Lp (Int × (List Line)) ((List Line)))
 | (v, v1) =>
  if (decide (v < (n.Lines.length : Int))) = true then
   (idx n.Lines v).bind fun e3 =>
   (idx n.Lines v).bind fun e4 =>
   (zq72 e4.Stops).bind fun r2 =>
   (idx n.Lines v).bind fun e5 =>
   (zq72 e5.Runs).bind fun r3 =>
   (chk (v1.length + ([(⟨e3.Name, r2, r3⟩ : Line)] : List Line).length ≤ 4294967296)).bind fun u2 =>
   some (.nx ((w64 (v + 1)), (v1 ++ ([(⟨e3.Name, r2, r3⟩ : Line)] : List Line))))
  else
   some (.dn v1)
noncomputable def zq80 (n : Network) : Option (Network) :=
 (chk (([] : List ByteArray).length + n.Stops.length ≤ 4294967296)).bind fun u =>
 (iter (zq80_L1 n) ((0 : Int), ([] : List Line))).bind fun (v2 : List Line) =>
 some (⟨(([] : List ByteArray) ++ n.Stops), v2⟩ : Network)
noncomputable def zq56_L1 (r : Int × l1Cur) : Int × (List UInt8) × Int × Int × (List Line) → Option (Lp (Int × (List UInt8) × Int × Int × (List Line)) ((List UInt8) × Int × Int × (List Line)))
 | (x, v, v1, v2, v3) =>
  if (decide (0 < x)) = true then
   (zq70 x).bind fun r4 =>
   (chk ((str [108]).size + r4.size ≤ 4294967296)).bind fun u3 =>
   (zq55 (⟨v, v1, (⟨v2⟩ : IK .u64)⟩ : l1Cur) ((str [108]) ++ r4) (w64 (2 + r.1))).bind fun r5 =>
   (chk (v3.length + ([r5.1] : List Line).length ≤ 4294967296)).bind fun u4 =>
   some (.nx ((w64 (x - 1)), r5.2.code_, r5.2.at_, r5.2.seed_.v, (v3 ++ ([r5.1] : List Line))))
  else
   some (.dn (v, v1, v2, v3))
noncomputable def zq56 (c : l1Cur) : Option (Network × l1Cur) :=
 (zq62 c 5).bind fun r =>
 (chk ((0 : Int) ≤ 0 ∧ (0 : Int) ≤ (w64 (2 + r.1)) ∧ (w64 (2 + r.1)) ≤ (([(str [112, 111, 114, 116]), (str [109, 105, 108, 108]), (str [112, 97, 114, 107]), (str [104, 97, 108, 108]), (str [100, 111, 99, 107]), (str [102, 97, 105, 114])] : List ByteArray).length : Int))).bind fun u =>
 (zq62 r.2 3).bind fun r1 =>
 (iter (zq56_L1 r) ((w64 (1 + r1.1)), r1.2.code_, r1.2.at_, r1.2.seed_.v, ([] : List Line))).bind fun ((v4, v5, v6, v7) : (List UInt8) × Int × Int × (List Line)) =>
 ((zq61 (⟨v4, v5, (⟨v6⟩ : IK .u64)⟩ : l1Cur) 2).bind fun r6 =>
 if r6.1 = true then
  (idx v7 0).bind fun e =>
  (zq74 e.Stops).bind fun r9 =>
  (zq74 e.Runs).bind fun r10 =>
  (chk (v7.length + ([(⟨(str [114, 49]), r9, r10⟩ : Line)] : List Line).length ≤ 4294967296)).bind fun u6 =>
  some (r6.2.code_, r6.2.at_, r6.2.seed_.v, (v7 ++ ([(⟨(str [114, 49]), r9, r10⟩ : Line)] : List Line)))
 else
  some (r6.2.code_, r6.2.at_, r6.2.seed_.v, v7)).bind fun ((v8, v9, v10, v11) : (List UInt8) × Int × Int × (List Line)) =>
 (zq80 (⟨((([(str [112, 111, 114, 116]), (str [109, 105, 108, 108]), (str [112, 97, 114, 107]), (str [104, 97, 108, 108]), (str [100, 111, 99, 107]), (str [102, 97, 105, 114])] : List ByteArray).take (w64 (2 + r.1)).toNat).drop (0 : Int).toNat), v11⟩ : Network)).bind fun r11 =>
 some ((⟨r11.Stops, r11.Lines⟩ : Network), (⟨v8, v9, (⟨v10⟩ : IK .u64)⟩ : l1Cur))
noncomputable def zq64_L1 (r : Network × l1Cur) : Int × Int × (List UInt8) × Int × Int × (List Trip) → Option (Lp (Int × Int × (List UInt8) × Int × Int × (List Trip)) ((List UInt8) × Int × Int × (List Trip)))
 | (n, v, v1, v2, v3, v4) =>
  if (decide (0 < v)) = true then
   (zq62 (⟨v1, v2, (⟨v3⟩ : IK .u64)⟩ : l1Cur) 3).bind fun r2 =>
   (zq62 r2.2 (r.1.Lines.length : Int)).bind fun r5 =>
   (zq62 r5.2 24).bind fun r6 =>
   (chk (v4.length + ([(⟨(w64 ((w64 (n + 1)) + r2.1)), r5.1, (w64 (360 + (w64 (5 * r6.1))))⟩ : Trip)] : List Trip).length ≤ 4294967296)).bind fun u1 =>
   some (.nx ((w64 ((w64 (n + 1)) + r2.1)), (w64 (v - 1)), r6.2.code_, r6.2.at_, r6.2.seed_.v, (v4 ++ ([(⟨(w64 ((w64 (n + 1)) + r2.1)), r5.1, (w64 (360 + (w64 (5 * r6.1))))⟩ : Trip)] : List Trip))))
  else
   some (.dn (v1, v2, v3, v4))
noncomputable def zq64 (c : l1Cur) : Option (Timetable × l1Cur) :=
 (zq56 c).bind fun r =>
 (zq62 r.2 8).bind fun r1 =>
 (iter (zq64_L1 r) ((0 : Int), r1.1, r1.2.code_, r1.2.at_, r1.2.seed_.v, ([] : List Trip))).bind fun ((v5, v6, v7, v8) : (List UInt8) × Int × Int × (List Trip)) =>
 some ((⟨(⟨r.1.Stops, r.1.Lines⟩ : Network), v8⟩ : Timetable), (⟨v5, v6, (⟨v7⟩ : IK .u64)⟩ : l1Cur))
noncomputable def zq48 (c : l1Cur) (list : List Int) : Option (Int × l1Cur) :=
 (zq62 c (list.length : Int)).bind fun r =>
 (idx list r.1).bind fun e =>
 some (e, r.2)
noncomputable def zq59 (c : l1Cur) (list : List ByteArray) : Option (ByteArray × l1Cur) :=
 (zq62 c (list.length : Int)).bind fun r =>
 (idx list r.1).bind fun e =>
 some (e, r.2)
noncomputable def zq60 (c : l1Cur) (list : List ByteArray) : Option (ByteArray × l1Cur) :=
 (zq62 c (list.length : Int)).bind fun r =>
 (idx list r.1).bind fun e =>
 some (e, r.2)
noncomputable def zq81_L1 (n : Network) : Int × (List Line) → Option (Lp (Int × (List Line)) ((List Line)))
 | (v, v1) =>
  if (decide (v < (n.Lines.length : Int))) = true then
   (idx n.Lines v).bind fun e3 =>
   (idx n.Lines v).bind fun e4 =>
   (zq71 e4.Stops).bind fun r2 =>
   (idx n.Lines v).bind fun e5 =>
   (zq71 e5.Runs).bind fun r3 =>
   (chk (v1.length + ([(⟨e3.Name, r2, r3⟩ : Line)] : List Line).length ≤ 4294967296)).bind fun u2 =>
   some (.nx ((w64 (v + 1)), (v1 ++ ([(⟨e3.Name, r2, r3⟩ : Line)] : List Line))))
  else
   some (.dn v1)
noncomputable def zq81 (n : Network) : Option (Network) :=
 (chk (([] : List ByteArray).length + n.Stops.length ≤ 4294967296)).bind fun u =>
 (iter (zq81_L1 n) ((0 : Int), ([] : List Line))).bind fun (v2 : List Line) =>
 some (⟨(([] : List ByteArray) ++ n.Stops), v2⟩ : Network)
noncomputable def zq57_L1 (r : Int × l1Cur) : Int × (List UInt8) × Int × Int × (List Line) → Option (Lp (Int × (List UInt8) × Int × Int × (List Line)) ((List UInt8) × Int × Int × (List Line)))
 | (x, v, v1, v2, v3) =>
  if (decide (0 < x)) = true then
   (zq70 x).bind fun r4 =>
   (chk ((str [108]).size + r4.size ≤ 4294967296)).bind fun u3 =>
   (zq55 (⟨v, v1, (⟨v2⟩ : IK .u64)⟩ : l1Cur) ((str [108]) ++ r4) (w64 (2 + r.1))).bind fun r5 =>
   (chk (v3.length + ([r5.1] : List Line).length ≤ 4294967296)).bind fun u4 =>
   some (.nx ((w64 (x - 1)), r5.2.code_, r5.2.at_, r5.2.seed_.v, (v3 ++ ([r5.1] : List Line))))
  else
   some (.dn (v, v1, v2, v3))
noncomputable def zq57 (c : l1Cur) : Option (Network × l1Cur) :=
 (zq62 c 5).bind fun r =>
 (chk ((0 : Int) ≤ 0 ∧ (0 : Int) ≤ (w64 (2 + r.1)) ∧ (w64 (2 + r.1)) ≤ (([(str [112, 111, 114, 116]), (str [109, 105, 108, 108]), (str [112, 97, 114, 107]), (str [104, 97, 108, 108]), (str [100, 111, 99, 107]), (str [102, 97, 105, 114])] : List ByteArray).length : Int))).bind fun u =>
 (zq62 r.2 3).bind fun r1 =>
 (iter (zq57_L1 r) ((w64 (1 + r1.1)), r1.2.code_, r1.2.at_, r1.2.seed_.v, ([] : List Line))).bind fun ((v4, v5, v6, v7) : (List UInt8) × Int × Int × (List Line)) =>
 ((zq61 (⟨v4, v5, (⟨v6⟩ : IK .u64)⟩ : l1Cur) 2).bind fun r6 =>
 if r6.1 = true then
  (idx v7 0).bind fun e =>
  (zq74 e.Stops).bind fun r9 =>
  (zq74 e.Runs).bind fun r10 =>
  (chk (v7.length + ([(⟨(str [114, 49]), r9, r10⟩ : Line)] : List Line).length ≤ 4294967296)).bind fun u6 =>
  some (r6.2.code_, r6.2.at_, r6.2.seed_.v, (v7 ++ ([(⟨(str [114, 49]), r9, r10⟩ : Line)] : List Line)))
 else
  some (r6.2.code_, r6.2.at_, r6.2.seed_.v, v7)).bind fun ((v8, v9, v10, v11) : (List UInt8) × Int × Int × (List Line)) =>
 (zq81 (⟨((([(str [112, 111, 114, 116]), (str [109, 105, 108, 108]), (str [112, 97, 114, 107]), (str [104, 97, 108, 108]), (str [100, 111, 99, 107]), (str [102, 97, 105, 114])] : List ByteArray).take (w64 (2 + r.1)).toNat).drop (0 : Int).toNat), v11⟩ : Network)).bind fun r11 =>
 some ((⟨r11.Stops, r11.Lines⟩ : Network), (⟨v8, v9, (⟨v10⟩ : IK .u64)⟩ : l1Cur))
noncomputable def zq49 (c : l1Cur) (list : List Int) : Option (Int × l1Cur) :=
 (zq62 c (list.length : Int)).bind fun r =>
 (idx list r.1).bind fun e =>
 some (e, r.2)
noncomputable def zq50_L1 (r : Network × l1Cur) : Int × (List UInt8) × Int × Int × (List Line) → Option (Lp (Int × (List UInt8) × Int × Int × (List Line)) ((List UInt8) × Int × Int × (List Line)))
 | (v7, v8, v9, v10, v11) =>
  (zq62 (⟨v8, v9, (⟨v10⟩ : IK .u64)⟩ : l1Cur) 2).bind fun r16 =>
  (if (decide ((v11.length : Int) < (w64 (5 + r16.1)))) = true then some (decide (v7 < 7)) else some false).bind fun (v12 : Bool) =>
  if v12 = true then
   (zq70 v7).bind fun r19 =>
   (chk ((str [120]).size + r19.size ≤ 4294967296)).bind fun u3 =>
   (zq54 r16.2 ((str [120]) ++ r19) (r.1.Stops.length : Int)).bind fun r20 =>
   (chk (v11.length + ([(⟨r20.1.Name, r20.1.Stops, r20.1.Runs⟩ : Line)] : List Line).length ≤ 4294967296)).bind fun u4 =>
   some (.nx ((w64 (v7 + 1)), r20.2.code_, r20.2.at_, r20.2.seed_.v, (v11 ++ ([(⟨r20.1.Name, r20.1.Stops, r20.1.Runs⟩ : Line)] : List Line))))
  else
   some (.dn (r16.2.code_, r16.2.at_, r16.2.seed_.v, v11))
noncomputable def zq50 (c : l1Cur) : Option (Network × l1Cur) :=
 (zq57 c).bind fun r =>
 (zq62 r.2 (r.1.Lines.length : Int)).bind fun r1 =>
 (idx r.1.Lines r1.1).bind fun e =>
 flb ((zq62 r1.2 24).bind fun r2 =>
 if (r2.1 == 0) = true then
  (zq60 r2.2 ([(str [109, 105, 108, 108]), (str []), (str [65]), (str [97, 98, 99, 100, 101, 102, 103, 104]), (str [97, 98, 99, 100, 101, 102, 103, 104, 105])] : List ByteArray)).bind fun r4 =>
  (idx r.1.Stops 0).bind fun e2 =>
  some (.go (r4.2.code_, r4.2.at_, r4.2.seed_.v, e.Name, (r.1.Stops.set (0 : Int).toNat r4.1), r.1.Lines, e.Runs))
 else
  if (r2.1 == 1) = true then
   (zq60 r2.2 ([(str [114, 49]), (str [108, 49]), (str []), (str [88])] : List ByteArray)).bind fun r5 =>
   some (.go (r5.2.code_, r5.2.at_, r5.2.seed_.v, r5.1, r.1.Stops, r.1.Lines, e.Runs))
  else
   if (r2.1 == 2) = true then
    (zq62 r2.2 (e.Stops.length : Int)).bind fun r8 =>
    (zq62 r8.2 10).bind fun r9 =>
    (idx e.Stops r8.1).bind fun e4 =>
    some (.go (r9.2.code_, r9.2.at_, r9.2.seed_.v, e.Name, r.1.Stops, (r.1.Lines.set r1.1.toNat (⟨e.Name, (e.Stops.set r8.1.toNat (w64 (r9.1 - 1))), e.Runs⟩ : Line)), ((⟨e.Name, (e.Stops.set r8.1.toNat (w64 (r9.1 - 1))), e.Runs⟩ : Line).Runs)))
   else
    if (r2.1 == 3) = true then
     (zq62 r2.2 (e.Runs.length : Int)).bind fun r12 =>
     (zq49 r12.2 ([0, 60, 61, (-1)] : List Int)).bind fun r13 =>
     (idx e.Runs r12.1).bind fun e6 =>
     some (.go (r13.2.code_, r13.2.at_, r13.2.seed_.v, e.Name, r.1.Stops, (r.1.Lines.set r1.1.toNat (⟨e.Name, e.Stops, (e.Runs.set r12.1.toNat r13.1)⟩ : Line)), ((⟨e.Name, e.Stops, (e.Runs.set r12.1.toNat r13.1)⟩ : Line).Runs)))
    else
     if (r2.1 == 4) = true then
      (chk (e.Runs.length + ([3] : List Int).length ≤ 4294967296)).bind fun u =>
      some (.go (r2.2.code_, r2.2.at_, r2.2.seed_.v, e.Name, r.1.Stops, r.1.Lines, (e.Runs ++ ([3] : List Int))))
     else
      if (r2.1 == 5) = true then
       some (.ret ((⟨r.1.Stops, ([] : List Line)⟩ : Network), r2.2))
      else
       if (r2.1 == 6) = true then
        (iter (zq50_L1 r) ((0 : Int), r2.2.code_, r2.2.at_, r2.2.seed_.v, r.1.Lines)).bind fun ((v13, v14, v15, v16) : (List UInt8) × Int × Int × (List Line)) =>
        some (.ret ((⟨r.1.Stops, v16⟩ : Network), (⟨v13, v14, (⟨v15⟩ : IK .u64)⟩ : l1Cur)))
       else
        some (.go (r2.2.code_, r2.2.at_, r2.2.seed_.v, e.Name, r.1.Stops, r.1.Lines, e.Runs))) fun ((v, v1, v2, v3, v4, v5, v6) : (List UInt8) × Int × Int × ByteArray × (List ByteArray) × (List Line) × (List Int)) =>
 (idx v5 r1.1).bind fun e9 =>
 some ((⟨v4, (v5.set r1.1.toNat (⟨v3, e9.Stops, v6⟩ : Line))⟩ : Network), (⟨v, v1, (⟨v2⟩ : IK .u64)⟩ : l1Cur))
noncomputable def zq51_L1 : Int × (List UInt8) × Int × Int × (List Trip) → Option (Lp (Int × (List UInt8) × Int × Int × (List Trip)) ((List UInt8) × Int × Int × (List Trip)))
 | (v8, v9, v10, v11, v12) =>
  (zq62 (⟨v9, v10, (⟨v11⟩ : IK .u64)⟩ : l1Cur) 2).bind fun r8 =>
  (if (decide ((v12.length : Int) < (w64 (12 + r8.1)))) = true then some (decide (v8 < 14)) else some false).bind fun (v13 : Bool) =>
  if v13 = true then
   (chk (v12.length + ([(⟨(w64 (100 + v8)), 0, (w64 (400 + v8))⟩ : Trip)] : List Trip).length ≤ 4294967296)).bind fun u =>
   some (.nx ((w64 (v8 + 1)), r8.2.code_, r8.2.at_, r8.2.seed_.v, (v12 ++ ([(⟨(w64 (100 + v8)), 0, (w64 (400 + v8))⟩ : Trip)] : List Trip))))
  else
   some (.dn (r8.2.code_, r8.2.at_, r8.2.seed_.v, v12))
noncomputable def zq51 (c : l1Cur) : Option (Timetable × l1Cur) :=
 (zq64 c).bind fun r =>
 if ((r.1.Trips.length : Int) == 0) = true then
  some ((⟨(⟨r.1.Network.Stops, r.1.Network.Lines⟩ : Network), r.1.Trips⟩ : Timetable), r.2)
 else
  (zq62 r.2 (r.1.Trips.length : Int)).bind fun r1 =>
  (idx r.1.Trips r1.1).bind fun e =>
  flb ((zq62 r1.2 24).bind fun r2 =>
  if (r2.1 == 0) = true then
   (zq48 r2.2 ([0, 999, 1000, 2] : List Int)).bind fun r3 =>
   some (.go (r3.2.code_, r3.2.at_, r3.2.seed_.v, r.1.Network.Lines, r3.1, e.Line, e.Start, r.1.Network.Stops))
  else
   if (r2.1 == 1) = true then
    (zq62 r2.2 7).bind fun r4 =>
    some (.go (r4.2.code_, r4.2.at_, r4.2.seed_.v, r.1.Network.Lines, e.Id, (w64 (r4.1 - 1)), e.Start, r.1.Network.Stops))
   else
    if (r2.1 == 2) = true then
     (zq48 r2.2 ([(-1), 0, 1799, 1798, 1800] : List Int)).bind fun r5 =>
     some (.go (r5.2.code_, r5.2.at_, r5.2.seed_.v, r.1.Network.Lines, e.Id, e.Line, r5.1, r.1.Network.Stops))
    else
     if (r2.1 == 3) = true then
      (zq50 r2.2).bind fun r6 =>
      some (.go (r6.2.code_, r6.2.at_, r6.2.seed_.v, r6.1.Lines, e.Id, e.Line, e.Start, r6.1.Stops))
     else
      if (r2.1 == 4) = true then
       (iter (zq51_L1) ((0 : Int), r2.2.code_, r2.2.at_, r2.2.seed_.v, r.1.Trips)).bind fun ((v14, v15, v16, v17) : (List UInt8) × Int × Int × (List Trip)) =>
       some (.ret ((⟨(⟨r.1.Network.Stops, r.1.Network.Lines⟩ : Network), v17⟩ : Timetable), (⟨v14, v15, (⟨v16⟩ : IK .u64)⟩ : l1Cur)))
      else
       some (.go (r2.2.code_, r2.2.at_, r2.2.seed_.v, r.1.Network.Lines, e.Id, e.Line, e.Start, r.1.Network.Stops))) fun ((v, v1, v2, v3, v4, v5, v6, v7) : (List UInt8) × Int × Int × (List Line) × Int × Int × Int × (List ByteArray)) =>
  (idx r.1.Trips r1.1).bind fun e2 =>
  some ((⟨(⟨v7, v3⟩ : Network), (r.1.Trips.set r1.1.toNat (⟨v4, v5, v6⟩ : Trip))⟩ : Timetable), (⟨v, v1, (⟨v2⟩ : IK .u64)⟩ : l1Cur))
noncomputable def zq69 (a : Int) (b : Int) : Option (Int) :=
 if (decide (b < a)) = true then
  some a
 else
  some b
noncomputable def zq65_L1 (r2 : Network × l1Cur) : Int × (List UInt8) × Int × Int × (List Trip) → Option (Lp (Int × (List UInt8) × Int × Int × (List Trip)) ((List UInt8) × Int × Int × (List Trip)))
 | (i, v, v1, v2, v3) =>
  if (decide (0 < i)) = true then
   (zq62 (⟨v, v1, (⟨v2⟩ : IK .u64)⟩ : l1Cur) 2).bind fun r7 =>
   (zq62 r7.2 (r2.1.Lines.length : Int)).bind fun r8 =>
   (zq62 r8.2 16).bind fun r9 =>
   (chk (v3.length + ([(⟨(w64 ((w64 ((v3.length : Int) + 1)) + (w64 ((w64 (2 * (v3.length : Int))) * r7.1)))), r8.1, (w64 (360 + (w64 (5 * r9.1))))⟩ : Trip)] : List Trip).length ≤ 4294967296)).bind fun u1 =>
   some (.nx ((w64 (i - 1)), r9.2.code_, r9.2.at_, r9.2.seed_.v, (v3 ++ ([(⟨(w64 ((w64 ((v3.length : Int) + 1)) + (w64 ((w64 (2 * (v3.length : Int))) * r7.1)))), r8.1, (w64 (360 + (w64 (5 * r9.1))))⟩ : Trip)] : List Trip))))
  else
   some (.dn (v, v1, v2, v3))
noncomputable def zq65_L2 : Int × (List Trip) → Option (Lp (Int × (List Trip)) ((List Trip)))
 | (x, v8) =>
  if (decide (x < (v8.length : Int))) = true then
   (idx v8 x).bind fun e =>
   (idx v8 (w64 (x - 1))).bind fun e2 =>
   (zq69 e.Id (w64 (e2.Id + 1))).bind fun r11 =>
   (idx v8 x).bind fun e3 =>
   some (.nx ((w64 (x + 1)), (v8.set x.toNat (⟨r11, e.Line, e.Start⟩ : Trip))))
  else
   some (.dn v8)
noncomputable def zq65 (c : l1Cur) : Option (Timetable × l1Cur) :=
 (zq61 c 16).bind fun r =>
 if r.1 = true then
  (zq51 r.2).bind fun r1 =>
  some ((⟨(⟨r1.1.Network.Stops, r1.1.Network.Lines⟩ : Network), r1.1.Trips⟩ : Timetable), r1.2)
 else
  (zq56 r.2).bind fun r2 =>
  (zq62 r2.2 6).bind fun r3 =>
  (iter (zq65_L1 r2) ((w64 (3 + r3.1)), r3.2.code_, r3.2.at_, r3.2.seed_.v, ([] : List Trip))).bind fun ((v4, v5, v6, v7) : (List UInt8) × Int × Int × (List Trip)) =>
  (iter (zq65_L2) ((1 : Int), v7)).bind fun (v9 : List Trip) =>
  some ((⟨(⟨r2.1.Stops, r2.1.Lines⟩ : Network), v9⟩ : Timetable), (⟨v4, v5, (⟨v6⟩ : IK .u64)⟩ : l1Cur))
noncomputable def zq52_L1 (n : Network) (k : Int) : Int × (List UInt8) × Int × Int × (List Int) → Option (Lp (Int × (List UInt8) × Int × Int × (List Int)) ((List UInt8) × Int × Int × (List Int)))
 | (v4, v5, v6, v7, v8) =>
  if (decide (v4 < (n.Stops.length : Int))) = true then
   (zq69 (w64 (k - v4)) (w64 (v4 - k))).bind fun r1 =>
   (zq62 (⟨v5, v6, (⟨v7⟩ : IK .u64)⟩ : l1Cur) 4).bind fun r2 =>
   (chk (v8.length + ([(w64 (r1 * (w64 (2 + r2.1))))] : List Int).length ≤ 4294967296)).bind fun u =>
   some (.nx ((w64 (v4 + 1)), r2.2.code_, r2.2.at_, r2.2.seed_.v, (v8 ++ ([(w64 (r1 * (w64 (2 + r2.1))))] : List Int))))
  else
   some (.dn (v5, v6, v7, v8))
noncomputable def zq52_L2 (n : Network) : Int × (List UInt8) × Int × Int × (List (List Int)) → Option (Lp (Int × (List UInt8) × Int × Int × (List (List Int))) ((List UInt8) × Int × Int × (List (List Int))))
 | (k, v, v1, v2, v3) =>
  if (decide (k < (n.Stops.length : Int))) = true then
   (iter (zq52_L1 n k) ((0 : Int), v, v1, v2, ([] : List Int))).bind fun ((v9, v10, v11, v12) : (List UInt8) × Int × Int × (List Int)) =>
   (chk (v3.length + ([v12] : List (List Int)).length ≤ 4294967296)).bind fun u1 =>
   some (.nx ((w64 (k + 1)), v9, v10, v11, (v3 ++ ([v12] : List (List Int)))))
  else
   some (.dn (v, v1, v2, v3))
noncomputable def zq52 (c : l1Cur) (n : Network) : Option (Fleet × l1Cur) :=
 (zq49 c ([0, 2, 5, 3] : List Int)).bind fun r =>
 (iter (zq52_L2 n) ((0 : Int), r.2.code_, r.2.at_, r.2.seed_.v, ([] : List (List Int)))).bind fun ((v13, v14, v15, v16) : (List UInt8) × Int × Int × (List (List Int))) =>
 ((zq62 (⟨v13, v14, (⟨v15⟩ : IK .u64)⟩ : l1Cur) 32).bind fun r3 =>
 if (r3.1 == 0) = true then
  (zq49 r3.2 ([30, 31, (-1)] : List Int)).bind fun r4 =>
  some (r4.2.code_, r4.2.at_, r4.2.seed_.v, v16, r4.1)
 else
  if (r3.1 == 1) = true then
   (idx v16 0).bind fun e =>
   (idx e 0).bind fun e1 =>
   some (r3.2.code_, r3.2.at_, r3.2.seed_.v, (v16.set (0 : Int).toNat (e.set (0 : Int).toNat 1)), r.1)
  else
   if (r3.1 == 2) = true then
    (idx v16 0).bind fun e4 =>
    (zq49 r3.2 ([120, 121, (-1)] : List Int)).bind fun r6 =>
    (idx e4 (w64 ((n.Stops.length : Int) - 1))).bind fun e5 =>
    some (r6.2.code_, r6.2.at_, r6.2.seed_.v, (v16.set (0 : Int).toNat (e4.set (w64 ((n.Stops.length : Int) - 1)).toNat r6.1)), r.1)
   else
    if (r3.1 == 3) = true then
     (chk ((0 : Int) ≤ 1 ∧ 1 ≤ (v16.length : Int))).bind fun u2 =>
     some (r3.2.code_, r3.2.at_, r3.2.seed_.v, (v16.drop (1 : Int).toNat), r.1)
    else
     some (r3.2.code_, r3.2.at_, r3.2.seed_.v, v16, r.1)).bind fun ((v17, v18, v19, v20, v21) : (List UInt8) × Int × Int × (List (List Int)) × Int) =>
 some ((⟨v20, v21⟩ : Fleet), (⟨v17, v18, (⟨v19⟩ : IK .u64)⟩ : l1Cur))
noncomputable def zq67 (x : Int) (a : Int) (b : Int) : Option (Bool) :=
 (if (decide (a ≤ x)) = true then some (decide (x ≤ b)) else some false).bind fun (v : Bool) =>
 some v
noncomputable def zq79_L1 (s : ByteArray) : Int → Option (Lp (Int) (Fl (Bool) (Unit)))
 | v1 =>
  if (decide (v1 < (s.size : Int))) = true then
   (chk ((0 : Int) ≤ v1 ∧ v1 < (s.size : Int))).bind fun u2 =>
   (if (decide (((s.data.toList.getD v1.toNat 0).toNat : Int) < 97)) = true then (chk ((0 : Int) ≤ v1 ∧ v1 < (s.size : Int))).bind fun u3 =>
   if (decide (((s.data.toList.getD v1.toNat 0).toNat : Int) < 48)) = true then some true else (chk ((0 : Int) ≤ v1 ∧ v1 < (s.size : Int))).bind fun u4 =>
   some (decide (57 < ((s.data.toList.getD v1.toNat 0).toNat : Int))) else (chk ((0 : Int) ≤ v1 ∧ v1 < (s.size : Int))).bind fun u5 =>
   if (decide (122 < ((s.data.toList.getD v1.toNat 0).toNat : Int))) = true then (chk ((0 : Int) ≤ v1 ∧ v1 < (s.size : Int))).bind fun u6 =>
   if (decide (((s.data.toList.getD v1.toNat 0).toNat : Int) < 48)) = true then some true else (chk ((0 : Int) ≤ v1 ∧ v1 < (s.size : Int))).bind fun u7 =>
   some (decide (57 < ((s.data.toList.getD v1.toNat 0).toNat : Int))) else some false).bind fun (v2 : Bool) =>
   if v2 = true then
    some (.dn (.ret false))
   else
    some (.nx (w64 (v1 + 1)))
  else
   some (.dn (.go ()))
noncomputable def zq79 (s : ByteArray) : Option (Bool) :=
 (zq67 (s.size : Int) 1 8).bind fun r =>
 (if (!r) = true then some true else (chk ((0 : Int) ≤ 0 ∧ 0 < (s.size : Int))).bind fun u =>
 if (decide (((s.data.toList.getD (0 : Int).toNat 0).toNat : Int) < 97)) = true then some true else (chk ((0 : Int) ≤ 0 ∧ 0 < (s.size : Int))).bind fun u1 =>
 some (decide (122 < ((s.data.toList.getD (0 : Int).toNat 0).toNat : Int)))).bind fun (v : Bool) =>
 if v = true then
  some false
 else
  flb (iter (zq79_L1 s) (0 : Int)) fun (_ : Unit) =>
  some true
noncomputable def zq75_L1 (list : List ByteArray) (name : ByteArray) : Int → Option (Lp (Int) (Fl (Int) (Unit)))
 | v =>
  if (decide (v < (list.length : Int))) = true then
   (idx list v).bind fun e =>
   if (e.toList == name.toList) = true then
    some (.dn (.ret v))
   else
    some (.nx (w64 (v + 1)))
  else
   some (.dn (.go ()))
noncomputable def zq75 (list : List ByteArray) (name : ByteArray) : Option (Int) :=
 flb (iter (zq75_L1 list name) (0 : Int)) fun (_ : Unit) =>
 some (-1)
noncomputable def zq77_L1 (x : Line) (stops : Int) : Int → Option (Lp (Int) (Fl (Bool) (Unit)))
 | v1 =>
  if (decide (v1 < (x.Stops.length : Int))) = true then
   (idx x.Stops v1).bind fun e2 =>
   (zq67 e2 0 (w64 (stops - 1))).bind fun r4 =>
   (if (!r4) = true then some true else (idx x.Stops v1).bind fun e3 =>
   (zq82 x e3).bind fun r5 =>
   some (r5 != v1)).bind fun (v2 : Bool) =>
   if v2 = true then
    some (.dn (.ret false))
   else
    some (.nx (w64 (v1 + 1)))
  else
   some (.dn (.go ()))
noncomputable def zq77_L2 (x : Line) : Int → Option (Lp (Int) (Fl (Bool) (Unit)))
 | v3 =>
  if (decide (v3 < (x.Runs.length : Int))) = true then
   (idx x.Runs v3).bind fun e5 =>
   (zq67 e5 1 60).bind fun r7 =>
   if (!r7) = true then
    some (.dn (.ret false))
   else
    some (.nx (w64 (v3 + 1)))
  else
   some (.dn (.go ()))
noncomputable def zq77 (x : Line) (stops : Int) : Option (Bool) :=
 (zq79 x.Name).bind fun r =>
 (if (!r) = true then some true else (zq67 (x.Stops.length : Int) 2 6).bind fun r1 =>
 if (!r1) = true then some true else some ((x.Runs.length : Int) != (w64 ((x.Stops.length : Int) - 1)))).bind fun (v : Bool) =>
 if v = true then
  some false
 else
  flb (iter (zq77_L1 x stops) (0 : Int)) fun (_ : Unit) =>
  flb (iter (zq77_L2 x) (0 : Int)) fun (_ : Unit) =>
  some true
noncomputable def zq78_L1 (n : Network) (name : ByteArray) : Int → Option (Lp (Int) (Fl (Int) (Unit)))
 | v =>
  if (decide (v < (n.Lines.length : Int))) = true then
   (idx n.Lines v).bind fun e =>
   if (e.Name.toList == name.toList) = true then
    some (.dn (.ret v))
   else
    some (.nx (w64 (v + 1)))
  else
   some (.dn (.go ()))
noncomputable def zq78 (n : Network) (name : ByteArray) : Option (Int) :=
 flb (iter (zq78_L1 n name) (0 : Int)) fun (_ : Unit) =>
 some (-1)
noncomputable def zq76_L1 (n : Network) : Int → Option (Lp (Int) (Fl (Bool) (Unit)))
 | i =>
  if (decide (i < (n.Stops.length : Int))) = true then
   (idx n.Stops i).bind fun e2 =>
   (zq79 e2).bind fun r4 =>
   (if (!r4) = true then some true else (idx n.Stops i).bind fun e3 =>
   (zq75 n.Stops e3).bind fun r5 =>
   some (r5 != i)).bind fun (v1 : Bool) =>
   if v1 = true then
    some (.dn (.ret false))
   else
    some (.nx (w64 (i + 1)))
  else
   some (.dn (.go ()))
noncomputable def zq76_L2 (n : Network) : Int → Option (Lp (Int) (Fl (Bool) (Unit)))
 | v2 =>
  if (decide (v2 < (n.Lines.length : Int))) = true then
   (idx n.Lines v2).bind fun e7 =>
   (zq77 e7 (n.Stops.length : Int)).bind fun r9 =>
   (if (!r9) = true then some true else (idx n.Lines v2).bind fun e8 =>
   (zq78 n e8.Name).bind fun r10 =>
   some (r10 != v2)).bind fun (v3 : Bool) =>
   if v3 = true then
    some (.dn (.ret false))
   else
    some (.nx (w64 (v2 + 1)))
  else
   some (.dn (.go ()))
noncomputable def zq76 (n : Network) : Option (Bool) :=
 (zq67 (n.Stops.length : Int) 2 8).bind fun r =>
 (if (!r) = true then some true else (zq67 (n.Lines.length : Int) 1 5).bind fun r1 =>
 some (!r1)).bind fun (v : Bool) =>
 if v = true then
  some false
 else
  flb (iter (zq76_L1 n) (0 : Int)) fun (_ : Unit) =>
  flb (iter (zq76_L2 n) (0 : Int)) fun (_ : Unit) =>
  some true
noncomputable def zq84 (t : Int) : Option (Bool) :=
 (zq67 t 0 1799).bind fun r =>
 some r
noncomputable def zq89 (t : Timetable) (i : Int) : Option (Line) :=
 (idx t.Trips i).bind fun e2 =>
 (idx t.Network.Lines e2.Line).bind fun e3 =>
 some e3
noncomputable def zq90 (t : Timetable) (i : Int) : Option ((List Int)) :=
 (zq89 t i).bind fun r =>
 some r.Stops
noncomputable def zq83_L1 (x : Line) (to_ : Int) : Int × Int → Option (Lp (Int × Int) (Int))
 | (v, v1) =>
  if (decide (v1 < to_)) = true then
   (idx x.Runs v1).bind fun e =>
   some (.nx ((w64 (v + e)), (w64 (v1 + 1))))
  else
   some (.dn v)
noncomputable def zq83 (x : Line) (from_ : Int) (to_ : Int) : Option (Int) :=
 (iter (zq83_L1 x to_) ((0 : Int), from_)).bind fun (v2 : Int) =>
 some v2
noncomputable def zq85 (t : Timetable) (i : Int) (k : Int) : Option (Int) :=
 (idx t.Trips i).bind fun e1 =>
 (zq89 t i).bind fun r2 =>
 (zq83 r2 0 k).bind fun r3 =>
 some (w64 (e1.Start + r3))
noncomputable def zq86 (t : Timetable) (i : Int) : Option (Int) :=
 (zq90 t i).bind fun r2 =>
 (zq85 t i (w64 ((r2.length : Int) - 1))).bind fun r3 =>
 some r3
noncomputable def zq88_L1 (t : Timetable) : Int → Option (Lp (Int) (Fl (Bool) (Unit)))
 | x =>
  if (decide (x < (t.Trips.length : Int))) = true then
   (idx t.Trips x).bind fun e =>
   (zq67 e.Id 1 999).bind fun r6 =>
   (if (!r6) = true then some true else (zq67 e.Line 0 (w64 ((t.Network.Lines.length : Int) - 1))).bind fun r7 =>
   if (!r7) = true then some true else (zq84 e.Start).bind fun r8 =>
   if (!r8) = true then some true else (zq86 t x).bind fun r9 =>
   (zq84 r9).bind fun r10 =>
   if (!r10) = true then some true else if (decide (0 < x)) = true then (idx t.Trips (w64 (x - 1))).bind fun e2 =>
   some (decide (e.Id ≤ e2.Id)) else some false).bind fun (v1 : Bool) =>
   if v1 = true then
    some (.dn (.ret false))
   else
    some (.nx (w64 (x + 1)))
  else
   some (.dn (.go ()))
noncomputable def zq88 (t : Timetable) : Option (Bool) :=
 (zq76 t.Network).bind fun r =>
 (if (!r) = true then some true else some (decide (12 < (t.Trips.length : Int)))).bind fun (v : Bool) =>
 if v = true then
  some false
 else
  flb (iter (zq88_L1 t) (0 : Int)) fun (_ : Unit) =>
  some true
noncomputable def zq44_L1 (f : Fleet) (v1 : Int) : Int → Option (Lp (Int) (Fl (Lp (Int) (Fl (Bool) (Unit))) (Unit)))
 | v3 =>
  (idx f.Dead v1).bind fun e7 =>
  if (decide (v3 < (e7.length : Int))) = true then
   (idx f.Dead v1).bind fun e8 =>
   (idx e8 v3).bind fun e9 =>
   (zq67 e9 0 120).bind fun r3 =>
   if (!r3) = true then
    some (.dn (.ret (.dn (.ret false))))
   else
    some (.nx (w64 (v3 + 1)))
  else
   some (.dn (.go ()))
noncomputable def zq44_L2 (n : Network) (f : Fleet) : Int → Option (Lp (Int) (Fl (Bool) (Unit)))
 | v1 =>
  if (decide (v1 < (f.Dead.length : Int))) = true then
   (idx f.Dead v1).bind fun e3 =>
   (if ((e3.length : Int) != (n.Stops.length : Int)) = true then some true else (idx f.Dead v1).bind fun e4 =>
   (idx e4 v1).bind fun e5 =>
   some (e5 != 0)).bind fun (v2 : Bool) =>
   if v2 = true then
    some (.dn (.ret false))
   else
    flb (iter (zq44_L1 f v1) (0 : Int)) fun (_ : Unit) =>
    some (.nx (w64 (v1 + 1)))
  else
   some (.dn (.go ()))
noncomputable def zq44 (n : Network) (f : Fleet) : Option (Bool) :=
 (zq76 n).bind fun r =>
 (if (!r) = true then some true else if ((f.Dead.length : Int) != (n.Stops.length : Int)) = true then some true else (zq67 f.Turn 0 30).bind fun r1 =>
 some (!r1)).bind fun (v : Bool) =>
 if v = true then
  some false
 else
  flb (iter (zq44_L2 n f) (0 : Int)) fun (_ : Unit) =>
  some true
noncomputable def zq39 (t : Timetable) (f : Fleet) : Option (Bool) :=
 (zq88 t).bind fun r =>
 (if r = true then (zq44 t.Network f).bind fun r1 =>
 some r1 else some false).bind fun (v : Bool) =>
 some v
noncomputable def zq43 (t : Timetable) (f : Fleet) (a : Int) (b : Int) : Option (Int) :=
 (zq90 t a).bind fun r2 =>
 (zq90 t b).bind fun r3 =>
 (idx r2 (w64 ((r2.length : Int) - 1))).bind fun e4 =>
 (idx f.Dead e4).bind fun e5 =>
 (idx r3 0).bind fun e6 =>
 (idx e5 e6).bind fun e7 =>
 some e7
noncomputable def zq45 (t : Timetable) (f : Fleet) (a : Int) (b : Int) : Option (Bool) :=
 (if (a != b) = true then (idx t.Trips b).bind fun e1 =>
 (zq86 t a).bind fun r2 =>
 (zq43 t f a b).bind fun r3 =>
 some (decide ((w64 ((w64 (r2 + f.Turn)) + r3)) ≤ e1.Start)) else some false).bind fun (v : Bool) =>
 some v
noncomputable def zq68 (a : Int) (b : Int) : Option (Int) :=
 if (decide (a < b)) = true then
  some a
 else
  some b
noncomputable def zq47_L1 (rec_ : l11Plan → Int → Int → Option (Int × (List (List Int)))) (x : l11Plan) (i : Int) (used : Int) : Int × Int × (List (List Int)) → Option (Lp (Int × Int × (List (List Int))) (Int × (List (List Int))))
 | (v, v1, v2) =>
  if (decide (v1 < (x.t_.Trips.length : Int))) = true then
   ((chk ((0 : Int) ≤ (IntKind.u64.wrap (v1)))).bind fun u1 =>
   (if ((IntKind.i64.wrap ((BitVec.ofInt (IntKind.i64).bits (used.fdiv (2 ^ (min ((IntKind.u64.wrap (v1)) : Int).toNat (IntKind.i64).bits))) &&& BitVec.ofInt (IntKind.i64).bits 1).toNat : Int)) == 0) = true then (zq45 x.t_ x.f_ v1 i).bind fun r2 =>
   some r2 else some false).bind fun (v5 : Bool) =>
   if v5 = true then
    (zq43 x.t_ x.f_ v1 i).bind fun r6 =>
    (chk ((0 : Int) ≤ (IntKind.u64.wrap (v1)))).bind fun u3 =>
    (rec_ (⟨x.t_, x.f_, v2⟩ : l11Plan) (w64 (i + 1)) (IntKind.i64.wrap ((BitVec.ofInt (IntKind.i64).bits used ||| BitVec.ofInt (IntKind.i64).bits (w64 (1 * 2 ^ (min ((IntKind.u64.wrap (v1)) : Int).toNat (IntKind.i64).bits)))).toNat : Int))).bind fun r7 =>
    (zq68 v (w64 (r6 + r7.1))).bind fun r8 =>
    some (r8, r7.2)
   else
    some (v, v2)).bind fun ((v3, v4) : Int × (List (List Int))) =>
   some (.nx (v3, (w64 (v1 + 1)), v4))
  else
   some (.dn (v, v2))
noncomputable def zq47_F (rec_ : l11Plan → Int → Int → Option (Int × (List (List Int)))) (x : l11Plan) (i : Int) (used : Int) : Option (Int × (List (List Int))) :=
 if (i == (x.t_.Trips.length : Int)) = true then
  some (0, x.known_)
 else
  (idx x.known_ i).bind fun e =>
  (idx e used).bind fun e1 =>
  if (decide (0 ≤ e1)) = true then
   (idx x.known_ i).bind fun e2 =>
   (idx e used).bind fun e3 =>
   some (e3, x.known_)
  else
   (rec_ (⟨x.t_, x.f_, x.known_⟩ : l11Plan) (w64 (i + 1)) used).bind fun r =>
   (iter (zq47_L1 rec_ x i used) ((w64 (100000 + r.1)), (0 : Int), r.2)).bind fun ((v6, v7) : Int × (List (List Int))) =>
   (idx v7 i).bind fun e4 =>
   (idx e4 used).bind fun e5 =>
   some (v6, (v7.set i.toNat (e4.set used.toNat v6)))
noncomputable def zq47_k : Nat → l11Plan → Int → Int → Option (Int × (List (List Int)))
 | 0 => fun _ _ _ => none
 | n + 1 => zq47_F (zq47_k n)
noncomputable def zq47 (x : l11Plan) (i : Int) (used : Int) : Option (Int × (List (List Int))) := zq47_k 4294967296 x i used
noncomputable def zq40_L1 : Int × (List Int) → Option (Lp (Int × (List Int)) ((List Int)))
 | (used, out) =>
  if (decide (used < (out.length : Int))) = true then
   (idx out used).bind fun e =>
   some (.nx ((w64 (used + 1)), (out.set used.toNat (-1))))
  else
   some (.dn out)
noncomputable def zq40_L2 (t : Timetable) : Int × (List (List Int)) → Option (Lp (Int × (List (List Int))) ((List (List Int))))
 | (k, v) =>
  if (decide (k < (t.Trips.length : Int))) = true then
   (chk ((0 : Int) ≤ (IntKind.u64.wrap ((t.Trips.length : Int))))).bind fun u =>
   (chk ((0 : Int) ≤ (w64 (1 * 2 ^ (min ((IntKind.u64.wrap ((t.Trips.length : Int))) : Int).toNat (IntKind.i64).bits))) ∧ ((w64 (1 * 2 ^ (min ((IntKind.u64.wrap ((t.Trips.length : Int))) : Int).toNat (IntKind.i64).bits))) : Int) ≤ 4294967296)).bind fun u1 =>
   (iter (zq40_L1) ((0 : Int), (List.replicate (w64 (1 * 2 ^ (min ((IntKind.u64.wrap ((t.Trips.length : Int))) : Int).toNat (IntKind.i64).bits))).toNat (0 : Int)))).bind fun (out1 : List Int) =>
   (chk (v.length + ([out1] : List (List Int)).length ≤ 4294967296)).bind fun u2 =>
   some (.nx ((w64 (k + 1)), (v ++ ([out1] : List (List Int)))))
  else
   some (.dn v)
noncomputable def zq40_L3 (t : Timetable) (f : Fleet) (want : Int) (before : Int) (r : Int × (List (List Int))) : Int × Int × (List (List Int)) → Option (Lp (Int × Int × (List (List Int))) (Int × (List (List Int))))
 | (v5, v6, v7) =>
  (if (decide (v6 < (t.Trips.length : Int))) = true then some (decide (v5 < 0)) else some false).bind fun (v8 : Bool) =>
  if v8 = true then
   ((chk ((0 : Int) ≤ (IntKind.u64.wrap (v6)))).bind fun u3 =>
   (if ((IntKind.i64.wrap ((BitVec.ofInt (IntKind.i64).bits (want.fdiv (2 ^ (min ((IntKind.u64.wrap (v6)) : Int).toNat (IntKind.i64).bits))) &&& BitVec.ofInt (IntKind.i64).bits 1).toNat : Int)) == 0) = true then (zq45 t f v6 before).bind fun r2 =>
   if r2 = true then (zq43 t f v6 before).bind fun r3 =>
   (chk ((0 : Int) ≤ (IntKind.u64.wrap (v6)))).bind fun u4 =>
   (zq47 (⟨t, f, v7⟩ : l11Plan) (w64 (before + 1)) (IntKind.i64.wrap ((BitVec.ofInt (IntKind.i64).bits want ||| BitVec.ofInt (IntKind.i64).bits (w64 (1 * 2 ^ (min ((IntKind.u64.wrap (v6)) : Int).toNat (IntKind.i64).bits)))).toNat : Int))).bind fun r4 =>
   some (((w64 (r3 + r4.1)) == r.1), r4.2) else some (false, v7) else some (false, v7)).bind fun ((v11, v12) : Bool × (List (List Int))) =>
   if v11 = true then
    some (v6, v12)
   else
    some (v5, v12)).bind fun ((v9, v10) : Int × (List (List Int))) =>
   some (.nx (v9, (w64 (v6 + 1)), v10))
  else
   some (.dn (v5, v7))
noncomputable def zq40_L4 (t : Timetable) (f : Fleet) : Int × Int × (List Int) × (List (List Int)) → Option (Lp (Int × Int × (List Int) × (List (List Int))) ((List Int)))
 | (want, before, i, v2) =>
  if (decide (before < (t.Trips.length : Int))) = true then
   (zq47 (⟨t, f, v2⟩ : l11Plan) before want).bind fun r =>
   ((zq47 (⟨t, f, r.2⟩ : l11Plan) (w64 (before + 1)) want).bind fun r1 =>
   if ((w64 (100000 + r1.1)) != r.1) = true then
    (iter (zq40_L3 t f want before r) (((-1) : Int), (0 : Int), r1.2)).bind fun ((v13, v14) : Int × (List (List Int))) =>
    (chk ((0 : Int) ≤ (IntKind.u64.wrap (v13)))).bind fun u5 =>
    some ((IntKind.i64.wrap ((BitVec.ofInt (IntKind.i64).bits want ||| BitVec.ofInt (IntKind.i64).bits (w64 (1 * 2 ^ (min ((IntKind.u64.wrap (v13)) : Int).toNat (IntKind.i64).bits)))).toNat : Int)), v13, v14)
   else
    some (want, ((-1) : Int), r1.2)).bind fun ((want1, v3, v4) : Int × Int × (List (List Int))) =>
   (chk (i.length + ([v3] : List Int).length ≤ 4294967296)).bind fun u6 =>
   some (.nx (want1, (w64 (before + 1)), (i ++ ([v3] : List Int)), v4))
  else
   some (.dn i)
noncomputable def zq40 (t : Timetable) (f : Fleet) : Option ((List Int)) :=
 (iter (zq40_L2 t) ((0 : Int), ([] : List (List Int)))).bind fun (v1 : List (List Int)) =>
 (iter (zq40_L4 t f) ((0 : Int), (0 : Int), ([] : List Int), v1)).bind fun (i1 : List Int) =>
 some i1
noncomputable def zq53 (c : l1Cur) (t : Timetable) : Option (Int × l1Cur) :=
 (if ((t.Trips.length : Int) == 0) = true then some (true, c.code_, c.at_, c.seed_.v) else (zq61 c 8).bind fun r =>
 some (r.1, r.2.code_, r.2.at_, r.2.seed_.v)).bind fun ((v, v1, v2, v3) : Bool × (List UInt8) × Int × Int) =>
 if v = true then
  (zq62 (⟨v1, v2, (⟨v3⟩ : IK .u64)⟩ : l1Cur) 30).bind fun r1 =>
  some (r1.1, r1.2)
 else
  (zq62 (⟨v1, v2, (⟨v3⟩ : IK .u64)⟩ : l1Cur) (t.Trips.length : Int)).bind fun r3 =>
  (idx t.Trips r3.1).bind fun e1 =>
  some (e1.Id, r3.2)
noncomputable def zq42_L1 (before : List Int) (k : Int) : Int × Int → Option (Lp (Int × Int) (Int))
 | (v, v1) =>
  if (decide (v1 < (before.length : Int))) = true then
   ((idx before v1).bind fun e2 =>
   if (e2 == k) = true then
    some v1
   else
    some v).bind fun (v2 : Int) =>
   some (.nx (v2, (w64 (v1 + 1))))
  else
   some (.dn v)
noncomputable def zq42_L2 (t : Timetable) (before : List Int) : Int × (List Int) → Option (Lp (Int × (List Int)) ((List Int)))
 | (k, next) =>
  if (decide (0 ≤ k)) = true then
   (idx t.Trips k).bind fun e1 =>
   (chk (next.length + ([e1.Id] : List Int).length ≤ 4294967296)).bind fun u =>
   (iter (zq42_L1 before k) (((-1) : Int), (0 : Int))).bind fun (v3 : Int) =>
   some (.nx (v3, (next ++ ([e1.Id] : List Int))))
  else
   some (.dn next)
noncomputable def zq42_L3 (t : Timetable) (before : List Int) : Int × (List (List Int)) → Option (Lp (Int × (List (List Int))) ((List (List Int))))
 | (at_, block) =>
  if (decide (at_ < (before.length : Int))) = true then
   ((idx before at_).bind fun e =>
   if (decide (0 ≤ e)) = true then
    some block
   else
    (iter (zq42_L2 t before) (at_, ([] : List Int))).bind fun (next1 : List Int) =>
    (chk (block.length + ([next1] : List (List Int)).length ≤ 4294967296)).bind fun u1 =>
    some (block ++ ([next1] : List (List Int)))).bind fun (block1 : List (List Int)) =>
   some (.nx ((w64 (at_ + 1)), block1))
  else
   some (.dn block)
noncomputable def zq42 (t : Timetable) (before : List Int) : Option ((List (List Int))) :=
 (iter (zq42_L3 t before) ((0 : Int), ([] : List (List Int)))).bind fun (block2 : List (List Int)) =>
 some block2
noncomputable def zq63 (c : l1Cur) : Option (Timetable × Fleet × (List (List Int)) × l1Cur) :=
 (zq65 c).bind fun r =>
 (zq52 r.2 r.1.Network).bind fun r1 =>
 (zq39 (⟨r.1.Network, r.1.Trips⟩ : Timetable) r1.1).bind fun r2 =>
 (if (!r2) = true then some true else some (decide (9 < (r.1.Trips.length : Int)))).bind fun (v : Bool) =>
 if v = true then
  some ((⟨r.1.Network, r.1.Trips⟩ : Timetable), r1.1, ([] : List (List Int)), r1.2)
 else
  (zq40 (⟨r.1.Network, r.1.Trips⟩ : Timetable) r1.1).bind fun r5 =>
  (zq42 (⟨r.1.Network, r.1.Trips⟩ : Timetable) r5).bind fun r6 =>
  ((if (decide (0 < (r6.length : Int))) = true then (zq61 r1.2 8).bind fun r7 =>
  some (r7.1, r7.2.code_, r7.2.at_, r7.2.seed_.v) else some (false, r1.2.code_, r1.2.at_, r1.2.seed_.v)).bind fun ((v4, v5, v6, v7) : Bool × (List UInt8) × Int × Int) =>
  if v4 = true then
   (zq62 (⟨v5, v6, (⟨v7⟩ : IK .u64)⟩ : l1Cur) (r6.length : Int)).bind fun r8 =>
   (zq62 r8.2 3).bind fun r9 =>
   if (r9.1 == 0) = true then
    (idx r6 r8.1).bind fun e2 =>
    (zq53 r9.2 r.1).bind fun r11 =>
    (chk (e2.length + ([r11.1] : List Int).length ≤ 4294967296)).bind fun u1 =>
    (idx r6 r8.1).bind fun e3 =>
    some (r11.2.code_, r11.2.at_, r11.2.seed_.v, (r6.set r8.1.toNat (e2 ++ ([r11.1] : List Int))))
   else
    if (r9.1 == 1) = true then
     (idx r6 r8.1).bind fun e4 =>
     (chk ((0 : Int) ≤ 1 ∧ 1 ≤ (e4.length : Int))).bind fun u2 =>
     (idx r6 r8.1).bind fun e5 =>
     some (r9.2.code_, r9.2.at_, r9.2.seed_.v, (r6.set r8.1.toNat (e4.drop (1 : Int).toNat)))
    else
     (idx r6 r8.1).bind fun e6 =>
     (chk (r6.length + ([e6] : List (List Int)).length ≤ 4294967296)).bind fun u3 =>
     some (r9.2.code_, r9.2.at_, r9.2.seed_.v, (r6 ++ ([e6] : List (List Int))))
  else
   some (v5, v6, v7, r6)).bind fun ((v1, v2, v3, i) : (List UInt8) × Int × Int × (List (List Int))) =>
  some (r.1, r1.1, i, (⟨v1, v2, (⟨v3⟩ : IK .u64)⟩ : l1Cur))
noncomputable def zq36 (code : List UInt8) : Option (Timetable × Fleet × (List (List Int)) × Int × Int) :=
 (zq63 (⟨code, 0, (⟨0⟩ : IK .u64)⟩ : l1Cur)).bind fun r =>
 (zq53 r.2.2.2 r.1).bind fun r3 =>
 (zq53 r3.2 r.1).bind fun r4 =>
 some (r.1, r.2.1, r.2.2.1, r3.1, r4.1)
noncomputable def zq35 (n : Int) (lo : Int) (hi : Int) : Option (Bool) :=
 (if (decide (lo ≤ n)) = true then some (decide (n ≤ hi)) else some false).bind fun (v : Bool) =>
 some v
noncomputable def zq20_L1 (s : ByteArray) : Int → Option (Lp (Int) (Fl (Bool) (Unit)))
 | v1 =>
  if (decide (v1 < (s.size : Int))) = true then
   (chk ((0 : Int) ≤ v1 ∧ v1 < (s.size : Int))).bind fun u =>
   (if (decide (97 ≤ ((s.data.toList.getD v1.toNat 0).toNat : Int))) = true then (chk ((0 : Int) ≤ v1 ∧ v1 < (s.size : Int))).bind fun u1 =>
   some (decide (((s.data.toList.getD v1.toNat 0).toNat : Int) ≤ 122)) else some false).bind fun (v2 : Bool) =>
   (if (!v2) = true then if (v1 == 0) = true then some true else (chk ((0 : Int) ≤ v1 ∧ v1 < (s.size : Int))).bind fun u2 =>
   if (decide (((s.data.toList.getD v1.toNat 0).toNat : Int) < 48)) = true then some true else (chk ((0 : Int) ≤ v1 ∧ v1 < (s.size : Int))).bind fun u3 =>
   some (decide (57 < ((s.data.toList.getD v1.toNat 0).toNat : Int))) else some false).bind fun (v3 : Bool) =>
   if v3 = true then
    some (.dn (.ret false))
   else
    some (.nx (w64 (v1 + 1)))
  else
   some (.dn (.go ()))
noncomputable def zq20 (s : ByteArray) : Option (Bool) :=
 (if (decide ((s.size : Int) < 1)) = true then some true else some (decide (8 < (s.size : Int)))).bind fun (v : Bool) =>
 if v = true then
  some false
 else
  flb (iter (zq20_L1 s) (0 : Int)) fun (_ : Unit) =>
  some true
noncomputable def zq97_L1 (s : List ByteArray) (v : ByteArray) : Int → Option (Lp (Int) (Fl (Int) (Unit)))
 | v1 =>
  if (decide (v1 < (s.length : Int))) = true then
   (idx s v1).bind fun e =>
   if (v.toList == e.toList) = true then
    some (.dn (.ret v1))
   else
    some (.nx (w64 (v1 + 1)))
  else
   some (.dn (.go ()))
noncomputable def zq97 (s : List ByteArray) (v : ByteArray) : Option (Int) :=
 flb (iter (zq97_L1 s v) (0 : Int)) fun (_ : Unit) =>
 some (-1)
noncomputable def zq10_L1 (names : List ByteArray) : Int → Option (Lp (Int) (Fl (Bool) (Unit)))
 | v =>
  if (decide (v < (names.length : Int))) = true then
   (idx names v).bind fun e =>
   (zq20 e).bind fun r =>
   (if (!r) = true then some true else (zq97 names e).bind fun r1 =>
   some (r1 != v)).bind fun (v1 : Bool) =>
   if v1 = true then
    some (.dn (.ret false))
   else
    some (.nx (w64 (v + 1)))
  else
   some (.dn (.go ()))
noncomputable def zq10 (names : List ByteArray) : Option (Bool) :=
 flb (iter (zq10_L1 names) (0 : Int)) fun (_ : Unit) =>
 some true
noncomputable def zq25_L1 (n : Network) : Int × (List ByteArray) → Option (Lp (Int × (List ByteArray)) ((List ByteArray)))
 | (v, i) =>
  if (decide (v < (n.Lines.length : Int))) = true then
   (idx n.Lines v).bind fun e =>
   (idx i v).bind fun e1 =>
   some (.nx ((w64 (v + 1)), (i.set v.toNat e.Name)))
  else
   some (.dn i)
noncomputable def zq25 (n : Network) : Option ((List ByteArray)) :=
 (chk ((0 : Int) ≤ (n.Lines.length : Int) ∧ ((n.Lines.length : Int) : Int) ≤ 4294967296)).bind fun u =>
 (iter (zq25_L1 n) ((0 : Int), (List.replicate (n.Lines.length : Int).toNat (ByteArray.empty : ByteArray)))).bind fun (i1 : List ByteArray) =>
 some i1
noncomputable def zq22 (n : Network) (stop : Int) : Option (Bool) :=
 (if (decide (0 ≤ stop)) = true then some (decide (stop < (n.Stops.length : Int))) else some false).bind fun (v : Bool) =>
 some v
noncomputable def zq96_L1 (s : List Int) (v : Int) : Int → Option (Lp (Int) (Fl (Int) (Unit)))
 | v1 =>
  if (decide (v1 < (s.length : Int))) = true then
   (idx s v1).bind fun e =>
   if (v == e) = true then
    some (.dn (.ret v1))
   else
    some (.nx (w64 (v1 + 1)))
  else
   some (.dn (.go ()))
noncomputable def zq96 (s : List Int) (v : Int) : Option (Int) :=
 flb (iter (zq96_L1 s v) (0 : Int)) fun (_ : Unit) =>
 some (-1)
noncomputable def zq23_L1 (n : Network) (l : Line) : Int → Option (Lp (Int) (Fl (Bool) (Unit)))
 | v1 =>
  if (decide (v1 < (l.Stops.length : Int))) = true then
   (idx l.Stops v1).bind fun e =>
   (zq22 n e).bind fun r1 =>
   (if (!r1) = true then some true else (zq96 l.Stops e).bind fun r2 =>
   some (r2 != v1)).bind fun (v2 : Bool) =>
   if v2 = true then
    some (.dn (.ret false))
   else
    some (.nx (w64 (v1 + 1)))
  else
   some (.dn (.go ()))
noncomputable def zq23_L2 (l : Line) : Int → Option (Lp (Int) (Fl (Bool) (Unit)))
 | v3 =>
  if (decide (v3 < (l.Runs.length : Int))) = true then
   (idx l.Runs v3).bind fun e2 =>
   (zq35 e2 1 60).bind fun r4 =>
   if (!r4) = true then
    some (.dn (.ret false))
   else
    some (.nx (w64 (v3 + 1)))
  else
   some (.dn (.go ()))
noncomputable def zq23 (n : Network) (l : Line) : Option (Bool) :=
 (zq35 (l.Stops.length : Int) 2 6).bind fun r =>
 (if (!r) = true then some true else some ((l.Runs.length : Int) != (w64 ((l.Stops.length : Int) - 1)))).bind fun (v : Bool) =>
 if v = true then
  some false
 else
  flb (iter (zq23_L1 n l) (0 : Int)) fun (_ : Unit) =>
  flb (iter (zq23_L2 l) (0 : Int)) fun (_ : Unit) =>
  some true
noncomputable def zq4_L1 (n : Network) : Int → Option (Lp (Int) (Fl (Bool) (Unit)))
 | v1 =>
  if (decide (v1 < (n.Lines.length : Int))) = true then
   (idx n.Lines v1).bind fun e =>
   (zq23 n e).bind fun r5 =>
   if (!r5) = true then
    some (.dn (.ret false))
   else
    some (.nx (w64 (v1 + 1)))
  else
   some (.dn (.go ()))
noncomputable def zq4 (n : Network) : Option (Bool) :=
 (zq35 (n.Stops.length : Int) 2 8).bind fun r =>
 (if (!r) = true then some true else (zq35 (n.Lines.length : Int) 1 5).bind fun r1 =>
 if (!r1) = true then some true else (zq10 n.Stops).bind fun r2 =>
 if (!r2) = true then some true else (zq25 n).bind fun r3 =>
 (zq10 r3).bind fun r4 =>
 some (!r4)).bind fun (v : Bool) =>
 if v = true then
  some false
 else
  flb (iter (zq4_L1 n) (0 : Int)) fun (_ : Unit) =>
  some true
noncomputable def zq19 (n : Network) (line : Int) : Option (Bool) :=
 (if (decide (0 ≤ line)) = true then some (decide (line < (n.Lines.length : Int))) else some false).bind fun (v : Bool) =>
 some v
noncomputable def zq5 (t : Int) : Option (Bool) :=
 (zq35 t 0 1799).bind fun r =>
 some r
noncomputable def zq31_L1 (list : List Int) : Int × Int → Option (Lp (Int × Int) (Int))
 | (v, v1) =>
  if (decide (v1 < (list.length : Int))) = true then
   (idx list v1).bind fun e =>
   some (.nx ((w64 (v + e)), (w64 (v1 + 1))))
  else
   some (.dn v)
noncomputable def zq31 (list : List Int) : Option (Int) :=
 (iter (zq31_L1 list) ((0 : Int), (0 : Int))).bind fun (v2 : Int) =>
 some v2
noncomputable def zq16 (t : Timetable) (x : Trip) : Option (Int) :=
 (idx t.Network.Lines x.Line).bind fun e1 =>
 (zq31 e1.Runs).bind fun r1 =>
 some (w64 (x.Start + r1))
noncomputable def zq11_L1 (t : Timetable) : Int × Int → Option (Lp (Int × Int) (Fl (Bool) (Unit)))
 | (v, v1) =>
  if (decide (v1 < (t.Trips.length : Int))) = true then
   (idx t.Trips v1).bind fun e =>
   (if (decide (e.Id ≤ v)) = true then some true else if (decide (999 < e.Id)) = true then some true else (zq19 t.Network e.Line).bind fun r =>
   if (!r) = true then some true else (zq5 e.Start).bind fun r1 =>
   if (!r1) = true then some true else (zq16 t e).bind fun r2 =>
   (zq5 r2).bind fun r3 =>
   some (!r3)).bind fun (v2 : Bool) =>
   if v2 = true then
    some (.dn (.ret false))
   else
    some (.nx (e.Id, (w64 (v1 + 1))))
  else
   some (.dn (.go ()))
noncomputable def zq11 (t : Timetable) : Option (Bool) :=
 if (decide (12 < (t.Trips.length : Int))) = true then
  some false
 else
  flb (iter (zq11_L1 t) ((0 : Int), (0 : Int))) fun (_ : Unit) =>
  some true
noncomputable def zq6 (t : Timetable) : Option (Bool) :=
 (zq4 t.Network).bind fun r =>
 (if r = true then (zq11 t).bind fun r1 =>
 some r1 else some false).bind fun (v : Bool) =>
 some v
noncomputable def zq18_L1 (e : List Int) : Int → Option (Lp (Int) (Fl (Lp (Int) (Fl (Bool) (Unit))) (Unit)))
 | v3 =>
  if (decide (v3 < (e.length : Int))) = true then
   (idx e v3).bind fun e3 =>
   (zq35 e3 0 120).bind fun r2 =>
   if (!r2) = true then
    some (.dn (.ret (.dn (.ret false))))
   else
    some (.nx (w64 (v3 + 1)))
  else
   some (.dn (.go ()))
noncomputable def zq18_L2 (n : Network) (f : Fleet) : Int → Option (Lp (Int) (Fl (Bool) (Unit)))
 | v1 =>
  if (decide (v1 < (f.Dead.length : Int))) = true then
   (idx f.Dead v1).bind fun e =>
   (if ((e.length : Int) != (n.Stops.length : Int)) = true then some true else (idx e v1).bind fun e1 =>
   some (e1 != 0)).bind fun (v2 : Bool) =>
   if v2 = true then
    some (.dn (.ret false))
   else
    flb (iter (zq18_L1 e) (0 : Int)) fun (_ : Unit) =>
    some (.nx (w64 (v1 + 1)))
  else
   some (.dn (.go ()))
noncomputable def zq18 (n : Network) (f : Fleet) : Option (Bool) :=
 (if ((f.Dead.length : Int) != (n.Stops.length : Int)) = true then some true else (zq35 f.Turn 0 30).bind fun r =>
 some (!r)).bind fun (v : Bool) =>
 if v = true then
  some false
 else
  flb (iter (zq18_L2 n f) (0 : Int)) fun (_ : Unit) =>
  some true
noncomputable def zq21 (t : Timetable) (f : Fleet) : Option (Bool) :=
 (zq6 t).bind fun r =>
 (if r = true then (zq18 t.Network f).bind fun r1 =>
 some r1 else some false).bind fun (v : Bool) =>
 some v
noncomputable def zq33 (x : Trip) (c1 : Int) : Option (Bool) :=
 some (x.Id == c1)
noncomputable def zq94_L1 (s : List Trip) (f : Trip → Option (Bool)) : Int → Option (Lp (Int) (Fl (Int) (Unit)))
 | v =>
  if (decide (v < (s.length : Int))) = true then
   (idx s v).bind fun e =>
   (f e).bind fun r =>
   if r = true then
    some (.dn (.ret v))
   else
    some (.nx (w64 (v + 1)))
  else
   some (.dn (.go ()))
noncomputable def zq94 (s : List Trip) (f : Trip → Option (Bool)) : Option (Int) :=
 flb (iter (zq94_L1 s f) (0 : Int)) fun (_ : Unit) =>
 some (-1)
noncomputable def zq95 (s : List Trip) (c1 : Int) : Option (Int) :=
 zq94 s (fun (z0 : Trip) => zq33 z0 c1)
noncomputable def zq32 (t : Timetable) (id : Int) : Option (Int) :=
 (zq95 t.Trips id).bind fun r =>
 some r
noncomputable def zq34 (t : Timetable) (id : Int) : Option (Trip) :=
 (zq32 t id).bind fun r1 =>
 (idx t.Trips r1).bind fun e1 =>
 some e1
noncomputable def zq26 (t : Timetable) (x : Trip) : Option (Line) :=
 (idx t.Network.Lines x.Line).bind fun e =>
 some e
noncomputable def zq24 (t : Timetable) (x : Trip) : Option (Int) :=
 (zq26 t x).bind fun r =>
 (idx r.Stops (w64 ((r.Stops.length : Int) - 1))).bind fun e =>
 some e
noncomputable def zq17 (t : Timetable) (x : Trip) : Option (Int) :=
 (zq26 t x).bind fun r =>
 (idx r.Stops 0).bind fun e =>
 some e
noncomputable def zq15 (t : Timetable) (f : Fleet) (a : Trip) (b : Trip) : Option (Int) :=
 (zq24 t a).bind fun r2 =>
 (idx f.Dead r2).bind fun e2 =>
 (zq17 t b).bind fun r3 =>
 (idx e2 r3).bind fun e3 =>
 some e3
noncomputable def zq12 (t : Timetable) (f : Fleet) (a : Trip) (b : Trip) : Option (Bool) :=
 (zq16 t a).bind fun r2 =>
 (zq15 t f a b).bind fun r3 =>
 some (decide ((w64 ((w64 (r2 + f.Turn)) + r3)) ≤ b.Start))
noncomputable def zq9_L1 (t : Timetable) (f : Fleet) (e : List Int) : Int × Int × (List Bool) → Option (Lp (Int × Int × (List Bool)) (Fl (Lp (Int × Int × Int × (List Bool)) (Fl (Bool) (Int))) (Int × (List Bool))))
 | (block1, v3, v4) =>
  if (decide (v3 < (e.length : Int))) = true then
   (idx e v3).bind fun e4 =>
   (zq32 t e4).bind fun r1 =>
   (if (decide (r1 < 0)) = true then some true else (chk ((0 : Int) ≤ r1 ∧ (r1 : Int) < 12)).bind fun u1 =>
   (idx v4 r1).bind fun e8 =>
   if e8 = true then some true else if (decide (0 < v3)) = true then (idx e (w64 (v3 - 1))).bind fun e9 =>
   (zq34 t e9).bind fun r4 =>
   (idx t.Trips r1).bind fun e10 =>
   (zq12 t f r4 e10).bind fun r5 =>
   some (!r5) else some false).bind fun (v5 : Bool) =>
   if v5 = true then
    some (.dn (.ret (.dn (.ret false))))
   else
    (chk ((0 : Int) ≤ r1 ∧ (r1 : Int) < 12)).bind fun u2 =>
    (idx v4 r1).bind fun e13 =>
    some (.nx ((w64 (block1 + 1)), (w64 (v3 + 1)), (v4.set r1.toNat true)))
  else
   some (.dn (.go (block1, v4)))
noncomputable def zq9_L2 (t : Timetable) (f : Fleet) (blocks : List (List Int)) : Int × Int × Int × (List Bool) → Option (Lp (Int × Int × Int × (List Bool)) (Fl (Bool) (Int)))
 | (block, k, v, v1) =>
  if (decide (v < (blocks.length : Int))) = true then
   (idx blocks v).bind fun e =>
   (if ((e.length : Int) == 0) = true then some true else (idx e 0).bind fun e1 =>
   some (decide (e1 ≤ k))).bind fun (v2 : Bool) =>
   if v2 = true then
    some (.dn (.ret false))
   else
    (idx e 0).bind fun e3 =>
    flb (iter (zq9_L1 t f e) (block, (0 : Int), v1)) fun ((block2, v6) : Int × (List Bool)) =>
    some (.nx (block2, e3, (w64 (v + 1)), v6))
  else
   some (.dn (.go block))
noncomputable def zq9 (t : Timetable) (f : Fleet) (blocks : List (List Int)) : Option (Bool) :=
 flb (iter (zq9_L2 t f blocks) ((0 : Int), (0 : Int), (0 : Int), (List.replicate 12 (false : Bool)))) fun (block3 : Int) =>
 some (block3 == (t.Trips.length : Int))
noncomputable def zq3 (t : Timetable) (f : Fleet) (blocks : List (List Int)) : Option (Bool) :=
 (zq21 t f).bind fun r =>
 (if r = true then (zq9 t f blocks).bind fun r1 =>
 some r1 else some false).bind fun (v : Bool) =>
 some v
noncomputable def zq30_L1 (blocks : List (List Int)) (id : Int) : Int → Option (Lp (Int) (Fl (Int × Int) (Unit)))
 | v =>
  if (decide (v < (blocks.length : Int))) = true then
   (idx blocks v).bind fun e =>
   (zq96 e id).bind fun r =>
   if (decide (0 ≤ r)) = true then
    some (.dn (.ret (v, r)))
   else
    some (.nx (w64 (v + 1)))
  else
   some (.dn (.go ()))
noncomputable def zq30 (blocks : List (List Int)) (id : Int) : Option (Int × Int) :=
 flb (iter (zq30_L1 blocks id) (0 : Int)) fun (_ : Unit) =>
 some ((-1), 0)
noncomputable def zq91 (s : List Int) : Option ((List Int)) :=
 (chk (([] : List Int).length + s.length ≤ 4294967296)).bind fun u =>
 some s
noncomputable def zq14_L1 (lists : List (List Int)) : Int × (List (List Int)) → Option (Lp (Int × (List (List Int))) ((List (List Int))))
 | (v, i) =>
  if (decide (v < (lists.length : Int))) = true then
   (idx lists v).bind fun e =>
   (zq91 e).bind fun r =>
   (idx i v).bind fun e1 =>
   some (.nx ((w64 (v + 1)), (i.set v.toNat r)))
  else
   some (.dn i)
noncomputable def zq14 (lists : List (List Int)) : Option ((List (List Int))) :=
 (chk ((0 : Int) ≤ (lists.length : Int) ∧ ((lists.length : Int) : Int) ≤ 4294967296)).bind fun u =>
 (iter (zq14_L1 lists) ((0 : Int), (List.replicate (lists.length : Int).toNat (([] : List Int) : List Int)))).bind fun (i1 : List (List Int)) =>
 some i1
noncomputable def zq93 (n : Int) : Option ((List Int)) :=
 groZM n
noncomputable def zq92_L1 (slices : List (List Int)) : Int × Int → Option (Lp (Int × Int) (Int))
 | (v, v1) =>
  if (decide (v1 < (slices.length : Int))) = true then
   (idx slices v1).bind fun e =>
   if (decide ((w64 (v + (e.length : Int))) < 0)) = true then
    none
   else
    some (.nx ((w64 (v + (e.length : Int))), (w64 (v1 + 1))))
  else
   some (.dn v)
noncomputable def zq92_L2 (slices : List (List Int)) : Int × (List Int) → Option (Lp (Int × (List Int)) ((List Int)))
 | (v3, v4) =>
  if (decide (v3 < (slices.length : Int))) = true then
   (idx slices v3).bind fun e1 =>
   (chk (v4.length + e1.length ≤ 4294967296)).bind fun u =>
   some (.nx ((w64 (v3 + 1)), (v4 ++ e1)))
  else
   some (.dn v4)
noncomputable def zq92 (slices : List (List Int)) : Option ((List Int)) :=
 (iter (zq92_L1 slices) ((0 : Int), (0 : Int))).bind fun (v2 : Int) =>
 (zq93 v2).bind fun r =>
 (iter (zq92_L2 slices) ((0 : Int), r)).bind fun (v5 : List Int) =>
 some v5
noncomputable def zq8 (t : Timetable) (f : Fleet) (blocks : List (List Int)) (a : Int) (b : Int) : Option ((List (List Int)) × Bool) :=
 (zq3 t f blocks).bind fun r =>
 if (!r) = true then
  some (([] : List (List Int)), false)
 else
  (zq30 blocks a).bind fun r1 =>
  (zq30 blocks b).bind fun r2 =>
  (if (decide (r1.1 < 0)) = true then some true else if (decide (r2.1 < 0)) = true then some true else some (r1.1 == r2.1)).bind fun (v : Bool) =>
  if v = true then
   some (([] : List (List Int)), false)
  else
   (zq14 blocks).bind fun r3 =>
   (idx blocks r1.1).bind fun e3 =>
   (chk ((0 : Int) ≤ 0 ∧ (0 : Int) ≤ (w64 (r1.2 + 1)) ∧ (w64 (r1.2 + 1)) ≤ (e3.length : Int))).bind fun u2 =>
   (idx blocks r2.1).bind fun e4 =>
   (chk ((0 : Int) ≤ (w64 (r2.2 + 1)) ∧ (w64 (r2.2 + 1)) ≤ (e4.length : Int))).bind fun u3 =>
   (zq92 ([((e3.take (w64 (r1.2 + 1)).toNat).drop (0 : Int).toNat), (e4.drop (w64 (r2.2 + 1)).toNat)] : List (List Int))).bind fun r5 =>
   (idx r3 r1.1).bind fun e5 =>
   (idx blocks r2.1).bind fun e9 =>
   (chk ((0 : Int) ≤ 0 ∧ (0 : Int) ≤ (w64 (r2.2 + 1)) ∧ (w64 (r2.2 + 1)) ≤ (e9.length : Int))).bind fun u6 =>
   (idx blocks r1.1).bind fun e10 =>
   (chk ((0 : Int) ≤ (w64 (r1.2 + 1)) ∧ (w64 (r1.2 + 1)) ≤ (e10.length : Int))).bind fun u7 =>
   (zq92 ([((e9.take (w64 (r2.2 + 1)).toNat).drop (0 : Int).toNat), (e10.drop (w64 (r1.2 + 1)).toNat)] : List (List Int))).bind fun r7 =>
   (idx (r3.set r1.1.toNat r5) r2.1).bind fun e11 =>
   (zq9 t f ((r3.set r1.1.toNat r5).set r2.1.toNat r7)).bind fun r8 =>
   if (!r8) = true then
    some (([] : List (List Int)), false)
   else
    some (((r3.set r1.1.toNat r5).set r2.1.toNat r7), true)
noncomputable def zq46_L1 (blocks : List (List Int)) (id : Int) (v : Int) : Int → Option (Lp (Int) (Fl (Lp (Int) (Fl (Int × Int) (Unit))) (Unit)))
 | v1 =>
  (idx blocks v).bind fun e =>
  if (decide (v1 < (e.length : Int))) = true then
   (idx blocks v).bind fun e1 =>
   (idx e1 v1).bind fun e2 =>
   if (e2 == id) = true then
    some (.dn (.ret (.dn (.ret (v, v1)))))
   else
    some (.nx (w64 (v1 + 1)))
  else
   some (.dn (.go ()))
noncomputable def zq46_L2 (blocks : List (List Int)) (id : Int) : Int → Option (Lp (Int) (Fl (Int × Int) (Unit)))
 | v =>
  if (decide (v < (blocks.length : Int))) = true then
   flb (iter (zq46_L1 blocks id v) (0 : Int)) fun (_ : Unit) =>
   some (.nx (w64 (v + 1)))
  else
   some (.dn (.go ()))
noncomputable def zq46 (blocks : List (List Int)) (id : Int) : Option (Int × Int) :=
 flb (iter (zq46_L2 blocks id) (0 : Int)) fun (_ : Unit) =>
 some ((-1), (-1))
noncomputable def zq87_L1 (t : Timetable) (id : Int) : Int → Option (Lp (Int) (Fl (Int) (Unit)))
 | v =>
  if (decide (v < (t.Trips.length : Int))) = true then
   (idx t.Trips v).bind fun e =>
   if (e.Id == id) = true then
    some (.dn (.ret v))
   else
    some (.nx (w64 (v + 1)))
  else
   some (.dn (.go ()))
noncomputable def zq87 (t : Timetable) (id : Int) : Option (Int) :=
 flb (iter (zq87_L1 t id) (0 : Int)) fun (_ : Unit) =>
 some (-1)
noncomputable def zq66_L1 (l : List Int) (n : Int) : Int → Option (Lp (Int) (Fl (Bool) (Unit)))
 | v =>
  if (decide (v < (l.length : Int))) = true then
   (idx l v).bind fun e =>
   if (e == n) = true then
    some (.dn (.ret true))
   else
    some (.nx (w64 (v + 1)))
  else
   some (.dn (.go ()))
noncomputable def zq66 (l : List Int) (n : Int) : Option (Bool) :=
 flb (iter (zq66_L1 l n) (0 : Int)) fun (_ : Unit) =>
 some false
noncomputable def zq41_L1 (t : Timetable) (f : Fleet) (blocks : List (List Int)) (v : Int) : Int × (List Int) → Option (Lp (Int × (List Int)) (Fl (Lp (Int × (List Int)) (Fl (Bool) ((List Int)))) ((List Int))))
 | (v2, at_1) =>
  (idx blocks v).bind fun e11 =>
  if (decide (v2 < (e11.length : Int))) = true then
   (idx blocks v).bind fun e14 =>
   (idx e14 v2).bind fun e15 =>
   (zq87 t e15).bind fun r2 =>
   (if (decide (r2 < 0)) = true then some true else (zq66 at_1 r2).bind fun r6 =>
   if r6 = true then some true else if (decide (0 < v2)) = true then (idx blocks v).bind fun e18 =>
   (idx e18 (w64 (v2 - 1))).bind fun e19 =>
   (zq87 t e19).bind fun r7 =>
   (zq45 t f r7 r2).bind fun r8 =>
   some (!r8) else some false).bind fun (v3 : Bool) =>
   if v3 = true then
    some (.dn (.ret (.dn (.ret false))))
   else
    (chk (at_1.length + ([r2] : List Int).length ≤ 4294967296)).bind fun u =>
    some (.nx ((w64 (v2 + 1)), (at_1 ++ ([r2] : List Int))))
  else
   some (.dn (.go at_1))
noncomputable def zq41_L2 (t : Timetable) (f : Fleet) (blocks : List (List Int)) : Int × (List Int) → Option (Lp (Int × (List Int)) (Fl (Bool) ((List Int))))
 | (v, at_) =>
  if (decide (v < (blocks.length : Int))) = true then
   (idx blocks v).bind fun e5 =>
   (if ((e5.length : Int) == 0) = true then some true else if (decide (0 < v)) = true then (idx blocks (w64 (v - 1))).bind fun e6 =>
   (idx e6 0).bind fun e7 =>
   (idx blocks v).bind fun e8 =>
   (idx e8 0).bind fun e9 =>
   some (decide (e9 ≤ e7)) else some false).bind fun (v1 : Bool) =>
   if v1 = true then
    some (.dn (.ret false))
   else
    flb (iter (zq41_L1 t f blocks v) ((0 : Int), at_)) fun (at_2 : List Int) =>
    some (.nx ((w64 (v + 1)), at_2))
  else
   some (.dn (.go at_))
noncomputable def zq41 (t : Timetable) (f : Fleet) (blocks : List (List Int)) : Option (Bool) :=
 flb (iter (zq41_L2 t f blocks) ((0 : Int), ([] : List Int))) fun (at_3 : List Int) =>
 some ((at_3.length : Int) == (t.Trips.length : Int))
noncomputable def zq38_L1 (blocks : List (List Int)) (r : Int × Int) (r1 : Int × Int) : Int × (List (List Int)) → Option (Lp (Int × (List (List Int))) ((List (List Int))))
 | (v1, v2) =>
  if (decide (v1 < (blocks.length : Int))) = true then
   (if (v1 == r.1) = true then
    (idx blocks r.1).bind fun e2 =>
    (chk ((0 : Int) ≤ 0 ∧ (0 : Int) ≤ (w64 (r.2 + 1)) ∧ (w64 (r.2 + 1)) ≤ (e2.length : Int))).bind fun u4 =>
    (zq71 ((e2.take (w64 (r.2 + 1)).toNat).drop (0 : Int).toNat)).bind fun r5 =>
    (idx blocks r1.1).bind fun e3 =>
    (chk ((0 : Int) ≤ (w64 (r1.2 + 1)) ∧ (w64 (r1.2 + 1)) ≤ (e3.length : Int))).bind fun u5 =>
    (chk (r5.length + (e3.drop (w64 (r1.2 + 1)).toNat).length ≤ 4294967296)).bind fun u6 =>
    (chk (v2.length + ([(r5 ++ (e3.drop (w64 (r1.2 + 1)).toNat))] : List (List Int)).length ≤ 4294967296)).bind fun u7 =>
    some (v2 ++ ([(r5 ++ (e3.drop (w64 (r1.2 + 1)).toNat))] : List (List Int)))
   else
    if (v1 == r1.1) = true then
     (idx blocks r1.1).bind fun e6 =>
     (chk ((0 : Int) ≤ 0 ∧ (0 : Int) ≤ (w64 (r1.2 + 1)) ∧ (w64 (r1.2 + 1)) ≤ (e6.length : Int))).bind fun u12 =>
     (zq71 ((e6.take (w64 (r1.2 + 1)).toNat).drop (0 : Int).toNat)).bind fun r7 =>
     (idx blocks r.1).bind fun e7 =>
     (chk ((0 : Int) ≤ (w64 (r.2 + 1)) ∧ (w64 (r.2 + 1)) ≤ (e7.length : Int))).bind fun u13 =>
     (chk (r7.length + (e7.drop (w64 (r.2 + 1)).toNat).length ≤ 4294967296)).bind fun u14 =>
     (chk (v2.length + ([(r7 ++ (e7.drop (w64 (r.2 + 1)).toNat))] : List (List Int)).length ≤ 4294967296)).bind fun u15 =>
     some (v2 ++ ([(r7 ++ (e7.drop (w64 (r.2 + 1)).toNat))] : List (List Int)))
    else
     (idx blocks v1).bind fun e8 =>
     (zq71 e8).bind fun r8 =>
     (chk (v2.length + ([r8] : List (List Int)).length ≤ 4294967296)).bind fun u16 =>
     some (v2 ++ ([r8] : List (List Int)))).bind fun (v3 : List (List Int)) =>
   some (.nx ((w64 (v1 + 1)), v3))
  else
   some (.dn v2)
noncomputable def zq38 (t : Timetable) (f : Fleet) (blocks : List (List Int)) (a : Int) (b : Int) : Option ((List (List Int)) × Bool) :=
 (zq46 blocks a).bind fun r =>
 (zq46 blocks b).bind fun r1 =>
 (zq39 t f).bind fun r2 =>
 (if (!r2) = true then some true else (zq41 t f blocks).bind fun r3 =>
 if (!r3) = true then some true else if (decide (r.1 < 0)) = true then some true else if (decide (r1.1 < 0)) = true then some true else some (r.1 == r1.1)).bind fun (v : Bool) =>
 if v = true then
  some (([] : List (List Int)), false)
 else
  (iter (zq38_L1 blocks r r1) ((0 : Int), ([] : List (List Int)))).bind fun (v4 : List (List Int)) =>
  (zq41 t f v4).bind fun r9 =>
  if (!r9) = true then
   some (([] : List (List Int)), false)
  else
   some (v4, true)
noncomputable def zq99_L1 (a : List Int) (b : List Int) : Int → Option (Lp (Int) (Fl (Bool) (Unit)))
 | v =>
  if (decide (v < (a.length : Int))) = true then
   (idx a v).bind fun e2 =>
   (idx b v).bind fun e3 =>
   if (e2 != e3) = true then
    some (.dn (.ret false))
   else
    some (.nx (w64 (v + 1)))
  else
   some (.dn (.go ()))
noncomputable def zq99 (a : List Int) (b : List Int) : Option (Bool) :=
 if ((a.length : Int) != (b.length : Int)) = true then
  some false
 else
  flb (iter (zq99_L1 a b) (0 : Int)) fun (_ : Unit) =>
  some true
noncomputable def zq100_L1 (a : List (List Int)) (b : List (List Int)) : Int → Option (Lp (Int) (Fl (Bool) (Unit)))
 | v =>
  if (decide (v < (a.length : Int))) = true then
   (idx a v).bind fun e2 =>
   (idx b v).bind fun e3 =>
   (zq99 e2 e3).bind fun r1 =>
   if (!r1) = true then
    some (.dn (.ret false))
   else
    some (.nx (w64 (v + 1)))
  else
   some (.dn (.go ()))
noncomputable def zq100 (a : List (List Int)) (b : List (List Int)) : Option (Bool) :=
 if ((a.length : Int) != (b.length : Int)) = true then
  some false
 else
  flb (iter (zq100_L1 a b) (0 : Int)) fun (_ : Unit) =>
  some true
noncomputable def zq37 (t : Timetable) (f : Fleet) (blocks : List (List Int)) : Option (Bool) :=
 (zq39 t f).bind fun r =>
 (if r = true then (zq41 t f blocks).bind fun r1 =>
 some r1 else some false).bind fun (v : Bool) =>
 some v
noncomputable def zq2 (x : Int) : Option (Bool) :=
 some (x != x)
noncomputable def zq0 (x : Int) (y_ : Int) : Option (Int) :=
 (zq2 x).bind fun r =>
 (zq2 y_).bind fun r1 =>
 if r = true then
  if r1 = true then
   some 0
  else
   some (-1)
 else
  if r1 = true then
   some 1
  else
   if (decide (x < y_)) = true then
    some (-1)
   else
    if (decide (y_ < x)) = true then
     some 1
    else
     some 0
noncomputable def zq1_L1 (vals : List Int) : Int → Option (Lp (Int) (Fl (Int) (Unit)))
 | v =>
  if (decide (v < (vals.length : Int))) = true then
   (idx vals v).bind fun e =>
   if (e != 0) = true then
    some (.dn (.ret e))
   else
    some (.nx (w64 (v + 1)))
  else
   some (.dn (.go ()))
noncomputable def zq1 (vals : List Int) : Option (Int) :=
 flb (iter (zq1_L1 vals) (0 : Int)) fun (_ : Unit) =>
 some 0
noncomputable def zq13 (a : links) (b : links) : Option (Int) :=
 (zq0 b.count_ a.count_).bind fun r3 =>
 (zq0 a.dead_ b.dead_).bind fun r4 =>
 (zq1 ([r3, r4] : List Int)).bind fun r5 =>
 some r5
noncomputable def zq27 (rec_ : linker → Int → Int → Option (links × (List ((Int × Int) × links)))) (x : linker) (i : Int) (a : Int) (used : Int) : Option (links × Bool × (List ((Int × Int) × links))) :=
 (if (a == i) = true then some true else (chk ((0 : Int) ≤ a)).bind fun u1 =>
 if ((IntKind.i64.wrap ((BitVec.ofInt (IntKind.i64).bits (used.fdiv (2 ^ (min (a : Int).toNat (IntKind.i64).bits))) &&& BitVec.ofInt (IntKind.i64).bits 1).toNat : Int)) == 1) = true then some true else (idx x.t_.Trips a).bind fun e2 =>
 (idx x.t_.Trips i).bind fun e3 =>
 (zq12 x.t_ x.f_ e2 e3).bind fun r1 =>
 some (!r1)).bind fun (v : Bool) =>
 if v = true then
  some ((⟨0, 0⟩ : links), false, x.memo_)
 else
  (chk ((0 : Int) ≤ a)).bind fun u2 =>
  (rec_ (⟨x.t_, x.f_, x.memo_⟩ : linker) (w64 (i + 1)) (IntKind.i64.wrap ((BitVec.ofInt (IntKind.i64).bits used ||| BitVec.ofInt (IntKind.i64).bits (w64 (1 * 2 ^ (min (a : Int).toNat (IntKind.i64).bits)))).toNat : Int))).bind fun r2 =>
  (idx x.t_.Trips a).bind fun e6 =>
  (idx x.t_.Trips i).bind fun e7 =>
  (zq15 x.t_ x.f_ e6 e7).bind fun r4 =>
  some ((⟨(w64 (r2.1.count_ + 1)), (w64 (r2.1.dead_ + r4))⟩ : links), true, r2.2)
noncomputable def zq28_L1 (rec_ : linker → Int → Int → Option (links × (List ((Int × Int) × links)))) (x : linker) (i : Int) (used : Int) : Int × (List ((Int × Int) × links)) × Int × Int → Option (Lp (Int × (List ((Int × Int) × links)) × Int × Int) ((List ((Int × Int) × links)) × Int × Int))
 | (v, v1, v2, v3) =>
  if (decide (v < (x.t_.Trips.length : Int))) = true then
   ((zq27 rec_ (⟨x.t_, x.f_, v1⟩ : linker) i v used).bind fun r3 =>
   (if r3.2.1 = true then (zq13 r3.1 (⟨v2, v3⟩ : links)).bind fun r4 =>
   some (decide (r4 < 0)) else some false).bind fun (v7 : Bool) =>
   if v7 = true then
    some (r3.2.2, r3.1.count_, r3.1.dead_)
   else
    some (r3.2.2, v2, v3)).bind fun ((v4, v5, v6) : (List ((Int × Int) × links)) × Int × Int) =>
   some (.nx ((w64 (v + 1)), v4, v5, v6))
  else
   some (.dn (v1, v2, v3))
noncomputable def zq28_F (rec_ : linker → Int → Int → Option (links × (List ((Int × Int) × links)))) (x : linker) (i : Int) (used : Int) : Option (links × (List ((Int × Int) × links))) :=
 if (i == (x.t_.Trips.length : Int)) = true then
  some ((⟨0, 0⟩ : links), x.memo_)
 else
  (some (getL ((⟨0, 0⟩ : links) : links) (i, used) x.memo_)).bind fun r1 =>
  if r1.2 = true then
   some (r1.1, x.memo_)
  else
   (rec_ (⟨x.t_, x.f_, x.memo_⟩ : linker) (w64 (i + 1)) used).bind fun r2 =>
   (iter (zq28_L1 rec_ x i used) ((0 : Int), r2.2, r2.1.count_, r2.1.dead_)).bind fun ((v8, v9, v10) : (List ((Int × Int) × links)) × Int × Int) =>
   some ((⟨v9, v10⟩ : links), (putL (i, used) (⟨v9, v10⟩ : links) v8))
noncomputable def zq28_k : Nat → linker → Int → Int → Option (links × (List ((Int × Int) × links)))
 | 0 => fun _ _ _ => none
 | n + 1 => zq28_F (zq28_k n)
noncomputable def zq28 (x : linker) (i : Int) (used : Int) : Option (links × (List ((Int × Int) × links))) := zq28_k 4294967296 x i used
noncomputable def zq29_L1 (t : Timetable) (f : Fleet) (want : Int) (v : Int) (i : List Int) (r : links × (List ((Int × Int) × links))) : Int × (List ((Int × Int) × links)) → Option (Lp (Int × (List ((Int × Int) × links))) (Int × (List Int) × (List ((Int × Int) × links))))
 | (v3, v4) =>
  if (decide (v3 < (t.Trips.length : Int))) = true then
   (zq27 zq28 (⟨t, f, v4⟩ : linker) v v3 want).bind fun r5 =>
   (if r5.2.1 = true then (zq13 r5.1 r.1).bind fun r6 =>
   some (r6 == 0) else some false).bind fun (v5 : Bool) =>
   if v5 = true then
    (idx (i.set v.toNat (-1)) v).bind fun e1 =>
    (chk ((0 : Int) ≤ v3)).bind fun u1 =>
    some (.dn ((IntKind.i64.wrap ((BitVec.ofInt (IntKind.i64).bits want ||| BitVec.ofInt (IntKind.i64).bits (w64 (1 * 2 ^ (min (v3 : Int).toNat (IntKind.i64).bits)))).toNat : Int)), ((i.set v.toNat (-1)).set v.toNat v3), r5.2.2))
   else
    some (.nx ((w64 (v3 + 1)), r5.2.2))
  else
   some (.dn (want, (i.set v.toNat (-1)), v4))
noncomputable def zq29_L2 (t : Timetable) (f : Fleet) : Int × Int × (List Int) × (List ((Int × Int) × links)) → Option (Lp (Int × Int × (List Int) × (List ((Int × Int) × links))) ((List Int) × (List ((Int × Int) × links))))
 | (want, v, i, v1) =>
  if (decide (v < (t.Trips.length : Int))) = true then
   ((idx i v).bind fun e =>
   (zq28 (⟨t, f, v1⟩ : linker) v want).bind fun r =>
   (zq28 (⟨t, f, r.2⟩ : linker) (w64 (v + 1)) want).bind fun r3 =>
   (zq13 r3.1 r.1).bind fun r4 =>
   if (r4 == 0) = true then
    some (want, (i.set v.toNat (-1)), r3.2)
   else
    (iter (zq29_L1 t f want v i r) ((0 : Int), r3.2)).bind fun ((want2, i2, v6) : Int × (List Int) × (List ((Int × Int) × links))) =>
    some (want2, i2, v6)).bind fun ((want1, i1, v2) : Int × (List Int) × (List ((Int × Int) × links))) =>
   some (.nx (want1, (w64 (v + 1)), i1, v2))
  else
   some (.dn (i, v1))
noncomputable def zq29_L3 (t : Timetable) (i3 : List Int) : Int × (List Int) → Option (Lp (Int × (List Int)) ((List Int)))
 | (v9, v10) =>
  if (decide (0 ≤ v9)) = true then
   (idx t.Trips v9).bind fun e3 =>
   (chk (v10.length + ([e3.Id] : List Int).length ≤ 4294967296)).bind fun u2 =>
   (zq96 i3 v9).bind fun r7 =>
   some (.nx (r7, (v10 ++ ([e3.Id] : List Int))))
  else
   some (.dn v10)
noncomputable def zq29_L4 (t : Timetable) (i3 : List Int) : Int × (List (List Int)) → Option (Lp (Int × (List (List Int))) ((List (List Int))))
 | (v8, block) =>
  if (decide (v8 < (t.Trips.length : Int))) = true then
   ((idx i3 v8).bind fun e2 =>
   if (decide (0 ≤ e2)) = true then
    some block
   else
    (iter (zq29_L3 t i3) (v8, ([] : List Int))).bind fun (v11 : List Int) =>
    (chk (block.length + ([v11] : List (List Int)).length ≤ 4294967296)).bind fun u3 =>
    some (block ++ ([v11] : List (List Int)))).bind fun (block1 : List (List Int)) =>
   some (.nx ((w64 (v8 + 1)), block1))
  else
   some (.dn block)
noncomputable def zq29 (t : Timetable) (f : Fleet) : Option ((List (List Int)) × Int) :=
 (chk ((0 : Int) ≤ (t.Trips.length : Int) ∧ ((t.Trips.length : Int) : Int) ≤ 4294967296)).bind fun u =>
 (iter (zq29_L2 t f) ((0 : Int), (0 : Int), (List.replicate (t.Trips.length : Int).toNat (0 : Int)), ([] : List ((Int × Int) × links)))).bind fun ((i3, v7) : (List Int) × (List ((Int × Int) × links))) =>
 (iter (zq29_L4 t i3) ((0 : Int), ([] : List (List Int)))).bind fun (block2 : List (List Int)) =>
 (zq28 (⟨t, f, v7⟩ : linker) 0 0).bind fun r8 =>
 some (block2, r8.1.dead_)
noncomputable def zq7 (t : Timetable) (f : Fleet) : Option ((List (List Int)) × Int × Bool) :=
 (zq21 t f).bind fun r =>
 if (!r) = true then
  some (([] : List (List Int)), 0, false)
 else
  (zq29 t f).bind fun r1 =>
  some (r1.1, r1.2, true)
noncomputable def v_FnSwaps (code : List UInt8) : Option (Bool) :=
 (zq98 code).bind fun r =>
 if r = true then
  some true
 else
  (zq36 code).bind fun r1 =>
  (zq8 r1.1 r1.2.1 r1.2.2.1 r1.2.2.2.1 r1.2.2.2.2).bind fun r2 =>
  (zq38 r1.1 r1.2.1 r1.2.2.1 r1.2.2.2.1 r1.2.2.2.2).bind fun r3 =>
  (if (!(r2.2 == r3.2)) = true then some true else (zq100 r2.1 r3.1).bind fun r7 =>
  if (!r7) = true then some true else (zq3 r1.1 r1.2.1 r1.2.2.1).bind fun r8 =>
  (zq37 r1.1 r1.2.1 r1.2.2.1).bind fun r9 =>
  some (!(r8 == r9))).bind fun (v : Bool) =>
  if v = true then
   some false
  else
   if (!r2.2) = true then
    some ((r2.1.length : Int) == 0)
   else
    (zq8 r1.1 r1.2.1 r2.1 r1.2.2.2.1 r1.2.2.2.2).bind fun r10 =>
    (zq7 r1.1 r1.2.1).bind fun r11 =>
    (if r10.2 = true then (zq100 r10.1 r1.2.2.1).bind fun r12 =>
    if r12 = true then if r11.2.2 = true then some (decide ((r11.1.length : Int) ≤ (r2.1.length : Int))) else some false else some false else some false).bind fun (t : Bool) =>
    some t
end Go.Proofs.Ytjahononbnbjnaa
