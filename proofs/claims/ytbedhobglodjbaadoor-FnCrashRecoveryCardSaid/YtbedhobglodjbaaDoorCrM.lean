/- Models of the functions that the law reaches: plain Lean; none where the function would panic or not end. Made by program (dec.py). -/
import Derived.Test.YtbedhobglodjbaaDoorAbC0
import Derived.Test.YtbedhobglodjbaaDoorAbStr1
import Derived.Test.YtbedhobglodjbaaDoorAbStr2
namespace Go.Proofs.YtbedhobglodjbaaDoor
open Go Go.Ab
set_option maxRecDepth 100000
set_option maxHeartbeats 4000000
set_option linter.unusedVariables false
set_option linter.unusedSimpArgs false
structure l1Cur where
 code_ : List UInt8
 at_ : Int
 seed_ : IK .u64
instance enc_l1Cur : Enc l1Cur := ⟨3, fun x => .agg [Enc.e x.code_, .sc (.int .i64 x.at_), .sc (.int .u64 x.seed_.v)], fun a b h => by
 simp only [D.agg.injEq, List.cons.injEq, and_true] at h
 obtain ⟨a1, a2, a3⟩ := a
 obtain ⟨b1, b2, b3⟩ := b
 obtain ⟨h1, h2, h3⟩ := h
 have q1 := Enc.inj (α := List UInt8) a1 b1 h1
 have q2 := Enc.inj (α := Int) a2 b2 h2
 have q3 := Enc.inj (α := IK .u64) a3 b3 h3
 subst q1; subst q2; subst q3; rfl⟩
structure LogRecord where
 Command : ByteArray
 Reply : ByteArray
instance enc_LogRecord : Enc LogRecord := ⟨2, fun x => .agg [.sc (.string x.Command), .sc (.string x.Reply)], fun a b h => by
 simp only [D.agg.injEq, List.cons.injEq, and_true] at h
 obtain ⟨a1, a2⟩ := a
 obtain ⟨b1, b2⟩ := b
 obtain ⟨h1, h2⟩ := h
 have q1 := Enc.inj (α := ByteArray) a1 b1 h1
 have q2 := Enc.inj (α := ByteArray) a2 b2 h2
 subst q1; subst q2; rfl⟩
structure Log where
 Durable : ByteArray
 Pending : ByteArray
 Count : Int
instance enc_Log : Enc Log := ⟨3, fun x => .agg [.sc (.string x.Durable), .sc (.string x.Pending), .sc (.int .i64 x.Count)], fun a b h => by
 simp only [D.agg.injEq, List.cons.injEq, and_true] at h
 obtain ⟨a1, a2, a3⟩ := a
 obtain ⟨b1, b2, b3⟩ := b
 obtain ⟨h1, h2, h3⟩ := h
 have q1 := Enc.inj (α := ByteArray) a1 b1 h1
 have q2 := Enc.inj (α := ByteArray) a2 b2 h2
 have q3 := Enc.inj (α := Int) a3 b3 h3
 subst q1; subst q2; subst q3; rfl⟩
instance : BxE l1Cur := ⟨fun x y h => Enc.inj x y (congrArg D.agg h)⟩
instance : BxE LogRecord := ⟨fun x y h => Enc.inj x y (congrArg D.agg h)⟩
instance : BxE Log := ⟨fun x y h => Enc.inj x y (congrArg D.agg h)⟩
instance : FlatEnc LogRecord := ⟨fun _ => flatDB_ok rfl⟩
instance : FlatEnc Log := ⟨fun _ => flatDB_ok rfl⟩
noncomputable def v_vBig (code : List UInt8) : Option (Bool) :=
 some (decide (65536 < (code.length : Int)))
noncomputable def s_l1Cur_next (c : l1Cur) : Option (Int × l1Cur) :=
 (if (decide (c.at_ < (c.code_.length : Int))) = true then
  (idx c.code_ c.at_).bind fun e1 =>
  some (w64 ((e1.toNat : Int)))
 else
  some (0 : Int)).bind fun (v : Int) =>
 if (decide ((w64 (c.at_ + 1)) ≤ (c.code_.length : Int))) = true then
  some (v, (⟨c.code_, (w64 (c.at_ + 1)), (⟨(IntKind.u64.wrap ((IntKind.u64.wrap ((IntKind.u64.wrap (c.seed_.v * 6364136223846793005)) + (IntKind.u64.wrap (v)))) + 900900))⟩ : IK .u64)⟩ : l1Cur))
 else
  (chk ((0 : Int) ≤ 40)).bind fun u =>
  some ((w64 ((IntKind.u64.wrap ((BitVec.ofInt (IntKind.u64).bits ((IntKind.u64.wrap ((IntKind.u64.wrap ((IntKind.u64.wrap (c.seed_.v * 6364136223846793005)) + (IntKind.u64.wrap (v)))) + 900900)).fdiv (2 ^ (min (40 : Int).toNat (IntKind.u64).bits))) &&& BitVec.ofInt (IntKind.u64).bits 255).toNat : Int)))), (⟨c.code_, (w64 (c.at_ + 1)), (⟨(IntKind.u64.wrap ((IntKind.u64.wrap ((IntKind.u64.wrap (c.seed_.v * 6364136223846793005)) + (IntKind.u64.wrap (v)))) + 900900))⟩ : IK .u64)⟩ : l1Cur))
noncomputable def s_l1Cur_pick (c : l1Cur) (n : Int) : Option (Int × l1Cur) :=
 if (decide (n ≤ 1)) = true then
  some (0, c)
 else
  (s_l1Cur_next c).bind fun r =>
  (if (decide (200 < n)) = true then
   (s_l1Cur_next r.2).bind fun r1 =>
   some ((w64 ((w64 (r.1 * 256)) + r1.1)), r1.2.code_, r1.2.at_, r1.2.seed_.v)
  else
   some (r.1, r.2.code_, r.2.at_, r.2.seed_.v)).bind fun ((v, v1, v2, v3) : Int × (List UInt8) × Int × Int) =>
  (chk ((n : Int) ≠ 0)).bind fun u =>
  some ((v.tmod n), (⟨v1, v2, (⟨v3⟩ : IK .u64)⟩ : l1Cur))
noncomputable def s_l1Cur_of (c : l1Cur) (list : List ByteArray) : Option (ByteArray × l1Cur) :=
 (s_l1Cur_pick c (list.length : Int)).bind fun r =>
 (idx list r.1).bind fun e =>
 some (e, r.2)
noncomputable def s_l1Cur_logRecord (c : l1Cur) : Option (LogRecord × l1Cur) :=
 (s_l1Cur_of c ([(str [99, 111, 117, 110, 116]), (str [115, 111, 114, 116, 32, 109, 101, 114, 103, 101]), (str [120]), (str [115, 101, 108, 101, 99, 116, 32, 50]), (str [48, 32, 49])] : List ByteArray)).bind fun r =>
 (s_l1Cur_of r.2 ([(str []), (str [51]), (str [63]), (str [97, 64, 98]), (str [51, 32, 49, 32, 50])] : List ByteArray)).bind fun r1 =>
 ((s_l1Cur_pick r1.2 24).bind fun r2 =>
 if (r2.1 == 0) = true then
  (chk ((0 : Int) ≤ 3 ∧ (3 : Int) ≤ 4294967296)).bind fun u =>
  (s_l1Cur_of r2.2 ([(str []), (str [97, 64, 98]), (str [97, 35]), (str [10]), (bytS (List.replicate (3 : Int).toNat (mkU8 0 : UInt8)))] : List ByteArray)).bind fun r3 =>
  some (r3.2.code_, r3.2.at_, r3.2.seed_.v, r3.1, r1.1)
 else
  if (r2.1 == 1) = true then
   (s_l1Cur_of r2.2 ([(str [35]), (str [10]), (str [127])] : List ByteArray)).bind fun r4 =>
   some (r4.2.code_, r4.2.at_, r4.2.seed_.v, r.1, r4.1)
  else
   some (r2.2.code_, r2.2.at_, r2.2.seed_.v, r.1, r1.1)).bind fun ((v, v1, v2, v3, v4) : (List UInt8) × Int × Int × ByteArray × ByteArray) =>
 some ((⟨v3, v4⟩ : LogRecord), (⟨v, v1, (⟨v2⟩ : IK .u64)⟩ : l1Cur))
noncomputable def s_l1Split_L1 (s : ByteArray) (b : UInt8) : Int × Int × (List ByteArray) → Option (Lp (Int × Int × (List ByteArray)) (Int × (List ByteArray)))
 | (v, v1, i) =>
  if (decide (v1 < (s.size : Int))) = true then
   ((chk ((0 : Int) ≤ v1 ∧ v1 < (s.size : Int))).bind fun u =>
   if (((s.data.toList.getD v1.toNat 0).toNat : Int) == (b.toNat : Int)) = true then
    (chk ((0 : Int) ≤ v ∧ (v : Int) ≤ v1 ∧ v1 ≤ (s.size : Int))).bind fun u1 =>
    (chk (i.length + ([(s.extract v.toNat v1.toNat)] : List ByteArray).length ≤ 4294967296)).bind fun u2 =>
    some ((w64 (v1 + 1)), (i ++ ([(s.extract v.toNat v1.toNat)] : List ByteArray)))
   else
    some (v, i)).bind fun ((v2, i1) : Int × (List ByteArray)) =>
   some (.nx (v2, (w64 (v1 + 1)), i1))
  else
   some (.dn (v, i))
noncomputable def s_l1Split (s : ByteArray) (b : UInt8) : Option ((List ByteArray)) :=
 (iter (s_l1Split_L1 s b) ((0 : Int), (0 : Int), ([] : List ByteArray))).bind fun ((v3, i2) : Int × (List ByteArray)) =>
 (chk ((0 : Int) ≤ v3 ∧ v3 ≤ (s.size : Int))).bind fun u3 =>
 (chk (i2.length + ([(s.extract v3.toNat s.size)] : List ByteArray).length ≤ 4294967296)).bind fun u4 =>
 some (i2 ++ ([(s.extract v3.toNat s.size)] : List ByteArray))
noncomputable def s_l1Num_F (rec_ : Int → Option (ByteArray)) (n : Int) : Option (ByteArray) :=
 if (decide (n < 0)) = true then
  (rec_ (w64 (0 - n))).bind fun r =>
  (chk ((str [45]).size + r.size ≤ 4294967296)).bind fun u =>
  some ((str [45]) ++ r)
 else
  if (decide (n < 10)) = true then
   (chk ((0 : Int) ≤ n ∧ (n : Int) ≤ (w64 (n + 1)) ∧ (w64 (n + 1)) ≤ ((str [48, 49, 50, 51, 52, 53, 54, 55, 56, 57]).size : Int))).bind fun u1 =>
   some ((str [48, 49, 50, 51, 52, 53, 54, 55, 56, 57]).extract n.toNat (w64 (n + 1)).toNat)
  else
   (chk ((10 : Int) ≠ 0)).bind fun u7 =>
   (rec_ (w64 (n.tdiv 10))).bind fun r2 =>
   (chk ((10 : Int) ≠ 0)).bind fun u8 =>
   (chk ((10 : Int) ≠ 0)).bind fun u9 =>
   (chk ((0 : Int) ≤ (n.tmod 10) ∧ ((n.tmod 10) : Int) ≤ (w64 ((n.tmod 10) + 1)) ∧ (w64 ((n.tmod 10) + 1)) ≤ ((str [48, 49, 50, 51, 52, 53, 54, 55, 56, 57]).size : Int))).bind fun u10 =>
   (chk (r2.size + ((str [48, 49, 50, 51, 52, 53, 54, 55, 56, 57]).extract (n.tmod 10).toNat (w64 ((n.tmod 10) + 1)).toNat).size ≤ 4294967296)).bind fun u11 =>
   some (r2 ++ ((str [48, 49, 50, 51, 52, 53, 54, 55, 56, 57]).extract (n.tmod 10).toNat (w64 ((n.tmod 10) + 1)).toNat))
noncomputable def s_l1Num_k : Nat → Int → Option (ByteArray)
 | 0 => fun _ => none
 | n + 1 => s_l1Num_F (s_l1Num_k n)
noncomputable def s_l1Num (n : Int) : Option (ByteArray) := s_l1Num_k 4294967296 n
noncomputable def s_l1In (x : Int) (a : Int) (b : Int) : Option (Bool) :=
 (if (decide (a ≤ x)) = true then some (decide (x ≤ b)) else some false).bind fun (v : Bool) =>
 some v
noncomputable def s_l27Plain_L1 (s : ByteArray) : Int → Option (Lp (Int) (Fl (Bool) (Unit)))
 | v =>
  if (decide (v < (s.size : Int))) = true then
   (chk ((0 : Int) ≤ v ∧ v < (s.size : Int))).bind fun u =>
   (s_l1In (w64 (((s.data.toList.getD v.toNat 0).toNat : Int))) 32 126).bind fun r =>
   (if (!r) = true then some true else (chk ((0 : Int) ≤ v ∧ v < (s.size : Int))).bind fun u1 =>
   some (((s.data.toList.getD v.toNat 0).toNat : Int) == 35)).bind fun (v1 : Bool) =>
   if v1 = true then
    some (.dn (.ret false))
   else
    some (.nx (w64 (v + 1)))
  else
   some (.dn (.go ()))
noncomputable def s_l27Plain (s : ByteArray) (most : Int) : Option (Bool) :=
 flb (iter (s_l27Plain_L1 s) (0 : Int)) fun (_ : Unit) =>
 some (decide ((s.size : Int) ≤ most))
noncomputable def s_l1Stands_L1 (s : ByteArray) (b : UInt8) : Int → Option (Lp (Int) (Fl (Bool) (Unit)))
 | v =>
  if (decide (v < (s.size : Int))) = true then
   (chk ((0 : Int) ≤ v ∧ v < (s.size : Int))).bind fun u =>
   if (((s.data.toList.getD v.toNat 0).toNat : Int) == (b.toNat : Int)) = true then
    some (.dn (.ret true))
   else
    some (.nx (w64 (v + 1)))
  else
   some (.dn (.go ()))
noncomputable def s_l1Stands (s : ByteArray) (b : UInt8) : Option (Bool) :=
 flb (iter (s_l1Stands_L1 s b) (0 : Int)) fun (_ : Unit) =>
 some false
noncomputable def s_l27Good (e : LogRecord) : Option (Bool) :=
 (if (!(e.Command.toList == (str []).toList)) = true then (s_l27Plain e.Command 160).bind fun r =>
 if r = true then (s_l1Stands e.Command (mkU8 64)).bind fun r1 =>
 if (!r1) = true then (s_l27Plain e.Reply 200).bind fun r2 =>
 some r2 else some false else some false else some false).bind fun (v : Bool) =>
 some v
noncomputable def s_l1Sum_L1 (s : ByteArray) : Int × Int → Option (Lp (Int × Int) (Int))
 | (i, v) =>
  if (decide (v < (s.size : Int))) = true then
   (chk ((0 : Int) ≤ v ∧ v < (s.size : Int))).bind fun u =>
   (chk ((999979 : Int) ≠ 0)).bind fun u1 =>
   some (.nx (((w64 ((w64 ((w64 (41 * i)) + (w64 (((s.data.toList.getD v.toNat 0).toNat : Int))))) + 1)).tmod 999979), (w64 (v + 1))))
  else
   some (.dn i)
noncomputable def s_l1Sum (s : ByteArray) : Option (Int) :=
 (iter (s_l1Sum_L1 s) ((7 : Int), (0 : Int))).bind fun (i1 : Int) =>
 some i1
noncomputable def s_l1Seal (s : ByteArray) : Option (ByteArray) :=
 (chk (s.size + (str [35]).size ≤ 4294967296)).bind fun u =>
 (s_l1Sum s).bind fun r =>
 (s_l1Num r).bind fun r1 =>
 (chk ((s ++ (str [35])).size + r1.size ≤ 4294967296)).bind fun u1 =>
 some ((s ++ (str [35])) ++ r1)
noncomputable def s_l27Line (k : Int) (e : LogRecord) : Option (ByteArray) :=
 (s_l1Num k).bind fun r2 =>
 (chk (r2.size + (str [32]).size ≤ 4294967296)).bind fun u5 =>
 (chk ((r2 ++ (str [32])).size + e.Command.size ≤ 4294967296)).bind fun u6 =>
 (chk (((r2 ++ (str [32])) ++ e.Command).size + (str [64]).size ≤ 4294967296)).bind fun u7 =>
 (chk ((((r2 ++ (str [32])) ++ e.Command) ++ (str [64])).size + e.Reply.size ≤ 4294967296)).bind fun u8 =>
 (s_l1Seal ((((r2 ++ (str [32])) ++ e.Command) ++ (str [64])) ++ e.Reply)).bind fun r3 =>
 (chk (r3.size + (str [10]).size ≤ 4294967296)).bind fun u9 =>
 some (r3 ++ (str [10]))
noncomputable def s_l27Read (s : ByteArray) (k : Int) : Option (LogRecord × Bool) :=
 (s_l1Num k).bind fun r =>
 (chk (r.size + (str [32]).size ≤ 4294967296)).bind fun u =>
 (s_l1Split s (mkU8 35)).bind fun r1 =>
 (idx r1 0).bind fun e =>
 (if (decide ((e.size : Int) < ((r ++ (str [32])).size : Int))) = true then some true else (chk ((0 : Int) ≤ 0 ∧ (0 : Int) ≤ ((r ++ (str [32])).size : Int) ∧ ((r ++ (str [32])).size : Int) ≤ (e.size : Int))).bind fun u1 =>
 some (!((e.extract (0 : Int).toNat ((r ++ (str [32])).size : Int).toNat).toList == (r ++ (str [32])).toList))).bind fun (v : Bool) =>
 if v = true then
  some ((⟨ByteArray.empty, ByteArray.empty⟩ : LogRecord), false)
 else
  (chk ((0 : Int) ≤ ((r ++ (str [32])).size : Int) ∧ ((r ++ (str [32])).size : Int) ≤ (e.size : Int))).bind fun u2 =>
  (s_l1Split (e.extract ((r ++ (str [32])).size : Int).toNat e.size) (mkU8 64)).bind fun r2 =>
  (idx r2 0).bind fun e1 =>
  if ((e1.size : Int) == ((e.extract ((r ++ (str [32])).size : Int).toNat e.size).size : Int)) = true then
   some ((⟨ByteArray.empty, ByteArray.empty⟩ : LogRecord), false)
  else
   (chk ((0 : Int) ≤ (w64 ((e1.size : Int) + 1)) ∧ (w64 ((e1.size : Int) + 1)) ≤ ((e.extract ((r ++ (str [32])).size : Int).toNat e.size).size : Int))).bind fun u3 =>
   (s_l27Good (⟨e1, ((e.extract ((r ++ (str [32])).size : Int).toNat e.size).extract (w64 ((e1.size : Int) + 1)).toNat (e.extract ((r ++ (str [32])).size : Int).toNat e.size).size)⟩ : LogRecord)).bind fun r5 =>
   (if r5 = true then (s_l27Line k (⟨e1, ((e.extract ((r ++ (str [32])).size : Int).toNat e.size).extract (w64 ((e1.size : Int) + 1)).toNat (e.extract ((r ++ (str [32])).size : Int).toNat e.size).size)⟩ : LogRecord)).bind fun r6 =>
   (chk (s.size + (str [10]).size ≤ 4294967296)).bind fun u5 =>
   some (r6.toList == (s ++ (str [10])).toList) else some false).bind fun (text : Bool) =>
   some ((⟨e1, ((e.extract ((r ++ (str [32])).size : Int).toNat e.size).extract (w64 ((e1.size : Int) + 1)).toNat (e.extract ((r ++ (str [32])).size : Int).toNat e.size).size)⟩ : LogRecord), text)
noncomputable def s_l27Open_L1 (s : ByteArray) : Int × (List LogRecord) → Option (Lp (Int × (List LogRecord)) (Int × (List LogRecord)))
 | (line, at_) =>
  (if (decide (line < (s.size : Int))) = true then some (decide ((at_.length : Int) < 60)) else some false).bind fun (v : Bool) =>
  if v = true then
   (chk ((0 : Int) ≤ line ∧ line ≤ (s.size : Int))).bind fun u =>
   (s_l1Split (s.extract line.toNat s.size) (mkU8 10)).bind fun r =>
   (idx r 0).bind fun e =>
   (s_l27Read e (at_.length : Int)).bind fun r1 =>
   (if (decide ((r.length : Int) < 2)) = true then some true else some (!r1.2)).bind fun (v1 : Bool) =>
   if v1 = true then
    some (.dn (line, at_))
   else
    (chk (at_.length + ([r1.1] : List LogRecord).length ≤ 4294967296)).bind fun u1 =>
    (idx r 0).bind fun e1 =>
    some (.nx ((w64 ((w64 (line + (e1.size : Int))) + 1)), (at_ ++ ([r1.1] : List LogRecord))))
  else
   some (.dn (line, at_))
noncomputable def s_l27Open (s : ByteArray) : Option ((List LogRecord) × Int) :=
 (iter (s_l27Open_L1 s) ((0 : Int), ([] : List LogRecord))).bind fun ((line1, at_1) : Int × (List LogRecord)) =>
 some (at_1, line1)
noncomputable def s_l27Log (l : Log) : Option (Bool) :=
 if (decide (30000 < (w64 ((l.Durable.size : Int) + (l.Pending.size : Int))))) = true then
  some false
 else
  (chk (l.Durable.size + l.Pending.size ≤ 4294967296)).bind fun u =>
  (s_l27Open (l.Durable ++ l.Pending)).bind fun r =>
  (s_l27Open l.Durable).bind fun r1 =>
  (if (r.2 == (w64 ((l.Durable.size : Int) + (l.Pending.size : Int)))) = true then if (r1.2 == (l.Durable.size : Int)) = true then some ((r.1.length : Int) == l.Count) else some false else some false).bind fun (all : Bool) =>
  some all
noncomputable def s_AppendRecord (l : Log) (e : LogRecord) : Option (Log × Int) :=
 (s_l27Log l).bind fun r =>
 (if (!r) = true then some true else (s_l27Good e).bind fun r1 =>
 some (!r1)).bind fun (v : Bool) =>
 if v = true then
  some (l, 1)
 else
  if (l.Count == 60) = true then
   some (l, 2)
  else
   (s_l27Line l.Count e).bind fun r3 =>
   (chk (l.Pending.size + r3.size ≤ 4294967296)).bind fun u1 =>
   some ((⟨l.Durable, (l.Pending ++ r3), (w64 (l.Count + 1))⟩ : Log), 0)
noncomputable def s_l1Cur_one (c : l1Cur) (n : Int) : Option (Bool × l1Cur) :=
 (s_l1Cur_pick c n).bind fun r =>
 some ((r.1 == 0), r.2)
noncomputable def s_SyncLog (l : Log) : Option (Log × Bool) :=
 (s_l27Log l).bind fun r =>
 if (!r) = true then
  some ((⟨ByteArray.empty, ByteArray.empty, 0⟩ : Log), false)
 else
  (chk (l.Durable.size + l.Pending.size ≤ 4294967296)).bind fun u =>
  some ((⟨(l.Durable ++ l.Pending), ByteArray.empty, l.Count⟩ : Log), true)
noncomputable def s_l1Cur_log_L1 : Int × (List UInt8) × Int × Int × ByteArray × ByteArray × Int → Option (Lp (Int × (List UInt8) × Int × Int × ByteArray × ByteArray × Int) ((List UInt8) × Int × Int × ByteArray × ByteArray × Int))
 | (v, v1, v2, v3, v4, v5, v6) =>
  if (decide (0 < v)) = true then
   ((s_l1Cur_logRecord (⟨v1, v2, (⟨v3⟩ : IK .u64)⟩ : l1Cur)).bind fun r3 =>
   (s_AppendRecord (⟨v4, v5, v6⟩ : Log) r3.1).bind fun r4 =>
   (s_l1Cur_one r3.2 4).bind fun r5 =>
   if r5.1 = true then
    (s_SyncLog r4.1).bind fun r6 =>
    some (r5.2.code_, r5.2.at_, r5.2.seed_.v, r6.1.Durable, r6.1.Pending, r6.1.Count)
   else
    some (r5.2.code_, r5.2.at_, r5.2.seed_.v, r4.1.Durable, r4.1.Pending, r4.1.Count)).bind fun ((v7, v8, v9, v10, v11, v12) : (List UInt8) × Int × Int × ByteArray × ByteArray × Int) =>
   some (.nx ((w64 (v - 1)), v7, v8, v9, v10, v11, v12))
  else
   some (.dn (v1, v2, v3, v4, v5, v6))
noncomputable def s_l1Cur_log (c : l1Cur) : Option (Log × l1Cur) :=
 (s_l1Cur_pick c 7).bind fun r =>
 (iter (s_l1Cur_log_L1) (r.1, r.2.code_, r.2.at_, r.2.seed_.v, ByteArray.empty, ByteArray.empty, (0 : Int))).bind fun ((v13, v14, v15, v16, v17, v18) : (List UInt8) × Int × Int × ByteArray × ByteArray × Int) =>
 some ((⟨v16, v17, v18⟩ : Log), (⟨v13, v14, (⟨v15⟩ : IK .u64)⟩ : l1Cur))
noncomputable def s_l1Cur_spoilt (c : l1Cur) (t : ByteArray) (with_ : ByteArray) : Option (ByteArray × l1Cur) :=
 if (t.toList == (str []).toList) = true then
  (chk ((0 : Int) ≤ 0 ∧ (0 : Int) ≤ 1 ∧ 1 ≤ (with_.size : Int))).bind fun u =>
  some ((with_.extract (0 : Int).toNat (1 : Int).toNat), c)
 else
  (s_l1Cur_pick c (t.size : Int)).bind fun r =>
  (s_l1Cur_pick r.2 (with_.size : Int)).bind fun r1 =>
  (chk ((0 : Int) ≤ r1.1 ∧ r1.1 ≤ (with_.size : Int))).bind fun u1 =>
  (chk ((0 : Int) ≤ 0 ∧ (0 : Int) ≤ 1 ∧ 1 ≤ ((with_.extract r1.1.toNat with_.size).size : Int))).bind fun u2 =>
  (s_l1Cur_pick r1.2 3).bind fun r2 =>
  if (r2.1 == 0) = true then
   (chk ((0 : Int) ≤ 0 ∧ (0 : Int) ≤ r.1 ∧ r.1 ≤ (t.size : Int))).bind fun u7 =>
   (chk ((t.extract (0 : Int).toNat r.1.toNat).size + ((with_.extract r1.1.toNat with_.size).extract (0 : Int).toNat (1 : Int).toNat).size ≤ 4294967296)).bind fun u8 =>
   (chk ((0 : Int) ≤ r.1 ∧ r.1 ≤ (t.size : Int))).bind fun u9 =>
   (chk (((t.extract (0 : Int).toNat r.1.toNat) ++ ((with_.extract r1.1.toNat with_.size).extract (0 : Int).toNat (1 : Int).toNat)).size + (t.extract r.1.toNat t.size).size ≤ 4294967296)).bind fun u10 =>
   some ((((t.extract (0 : Int).toNat r.1.toNat) ++ ((with_.extract r1.1.toNat with_.size).extract (0 : Int).toNat (1 : Int).toNat)) ++ (t.extract r.1.toNat t.size)), r2.2)
  else
   if (r2.1 == 1) = true then
    (chk ((0 : Int) ≤ 0 ∧ (0 : Int) ≤ r.1 ∧ r.1 ≤ (t.size : Int))).bind fun u15 =>
    (chk ((t.extract (0 : Int).toNat r.1.toNat).size + ((with_.extract r1.1.toNat with_.size).extract (0 : Int).toNat (1 : Int).toNat).size ≤ 4294967296)).bind fun u16 =>
    (chk ((0 : Int) ≤ (w64 (r.1 + 1)) ∧ (w64 (r.1 + 1)) ≤ (t.size : Int))).bind fun u17 =>
    (chk (((t.extract (0 : Int).toNat r.1.toNat) ++ ((with_.extract r1.1.toNat with_.size).extract (0 : Int).toNat (1 : Int).toNat)).size + (t.extract (w64 (r.1 + 1)).toNat t.size).size ≤ 4294967296)).bind fun u18 =>
    some ((((t.extract (0 : Int).toNat r.1.toNat) ++ ((with_.extract r1.1.toNat with_.size).extract (0 : Int).toNat (1 : Int).toNat)) ++ (t.extract (w64 (r.1 + 1)).toNat t.size)), r2.2)
   else
    (chk ((0 : Int) ≤ 0 ∧ (0 : Int) ≤ r.1 ∧ r.1 ≤ (t.size : Int))).bind fun u22 =>
    (chk ((0 : Int) ≤ (w64 (r.1 + 1)) ∧ (w64 (r.1 + 1)) ≤ (t.size : Int))).bind fun u23 =>
    (chk ((t.extract (0 : Int).toNat r.1.toNat).size + (t.extract (w64 (r.1 + 1)).toNat t.size).size ≤ 4294967296)).bind fun u24 =>
    some (((t.extract (0 : Int).toNat r.1.toNat) ++ (t.extract (w64 (r.1 + 1)).toNat t.size)), r2.2)
noncomputable def s_l1Cur_anyLog (c : l1Cur) : Option (Log × l1Cur) :=
 (s_l1Cur_log c).bind fun r =>
 ((s_l1Cur_pick r.2 24).bind fun r1 =>
 if (r1.1 == 0) = true then
  some (r1.2.code_, r1.2.at_, r1.2.seed_.v, r.1.Durable, r.1.Pending, (w64 (r.1.Count + 1)))
 else
  if (r1.1 == 1) = true then
   (s_l1Cur_spoilt r1.2 r.1.Pending (str [35, 64, 10, 48, 49])).bind fun r2 =>
   some (r2.2.code_, r2.2.at_, r2.2.seed_.v, r.1.Durable, r2.1, r.1.Count)
  else
   if (r1.1 == 2) = true then
    (chk (r.1.Durable.size + r.1.Pending.size ≤ 4294967296)).bind fun u =>
    some (r1.2.code_, r1.2.at_, r1.2.seed_.v, (r.1.Durable ++ r.1.Pending), r.1.Pending, r.1.Count)
   else
    some (r1.2.code_, r1.2.at_, r1.2.seed_.v, r.1.Durable, r.1.Pending, r.1.Count)).bind fun ((v, v1, v2, v3, v4, v5) : (List UInt8) × Int × Int × ByteArray × ByteArray × Int) =>
 some ((⟨v3, v4, v5⟩ : Log), (⟨v, v1, (⟨v2⟩ : IK .u64)⟩ : l1Cur))
noncomputable def s_DrawCrashLog (code : List UInt8) : Option (Log × Int × Bool) :=
 (s_l1Cur_anyLog (⟨code, 0, (⟨0⟩ : IK .u64)⟩ : l1Cur)).bind fun r =>
 (s_l1Cur_pick r.2 (w64 ((r.1.Pending.size : Int) + 3))).bind fun r1 =>
 (s_l1Cur_one r1.2 2).bind fun r3 =>
 some (r.1, (w64 (r1.1 - 1)), r3.1)
noncomputable def strings_Cut (s : ByteArray) (sep : ByteArray) : Option (ByteArray × ByteArray × Bool) :=
 cutM s sep
noncomputable def i_within (n : Int) (lo : Int) (hi : Int) : Option (Bool) :=
 (if (decide (lo ≤ n)) = true then some (decide (n ≤ hi)) else some false).bind fun (v : Bool) =>
 some v
noncomputable def i_isPrintable_L1 (s : ByteArray) : Int → Option (Lp (Int) (Fl (Bool) (Unit)))
 | v =>
  if (decide (v < (s.size : Int))) = true then
   (chk ((0 : Int) ≤ v ∧ v < (s.size : Int))).bind fun u =>
   (if (decide (((s.data.toList.getD v.toNat 0).toNat : Int) < 32)) = true then some true else (chk ((0 : Int) ≤ v ∧ v < (s.size : Int))).bind fun u1 =>
   if (decide (126 < ((s.data.toList.getD v.toNat 0).toNat : Int))) = true then some true else (chk ((0 : Int) ≤ v ∧ v < (s.size : Int))).bind fun u2 =>
   some (((s.data.toList.getD v.toNat 0).toNat : Int) == 35)).bind fun (v1 : Bool) =>
   if v1 = true then
    some (.dn (.ret false))
   else
    some (.nx (w64 (v + 1)))
  else
   some (.dn (.go ()))
noncomputable def i_isPrintable (s : ByteArray) : Option (Bool) :=
 flb (iter (i_isPrintable_L1 s) (0 : Int)) fun (_ : Unit) =>
 some true
noncomputable def strings_Contains (s : ByteArray) (substr : ByteArray) : Option (Bool) :=
 containsM s substr
noncomputable def i_isCommand (s : ByteArray) : Option (Bool) :=
 (i_within (s.size : Int) 1 160).bind fun r =>
 (if r = true then (i_isPrintable s).bind fun r1 =>
 if r1 = true then (strings_Contains s (str [64])).bind fun r2 =>
 some (!r2) else some false else some false).bind fun (v : Bool) =>
 some v
noncomputable def i_IsValidRecord (e : LogRecord) : Option (Bool) :=
 (i_isCommand e.Command).bind fun r =>
 (if r = true then if (decide ((e.Reply.size : Int) ≤ 200)) = true then (i_isPrintable e.Reply).bind fun r1 =>
 some r1 else some false else some false).bind fun (v : Bool) =>
 some v
noncomputable def strconv_Itoa (i : Int) : Option (ByteArray) :=
 itoaM i
noncomputable def i_checksum_L1 (s : ByteArray) : Int × Int → Option (Lp (Int × Int) (Int))
 | (i, v) =>
  if (decide (v < (s.size : Int))) = true then
   (chk ((0 : Int) ≤ v ∧ v < (s.size : Int))).bind fun u =>
   (chk ((999979 : Int) ≠ 0)).bind fun u1 =>
   some (.nx (((w64 ((w64 ((w64 (41 * i)) + (w64 (((s.data.toList.getD v.toNat 0).toNat : Int))))) + 1)).tmod 999979), (w64 (v + 1))))
  else
   some (.dn i)
noncomputable def i_checksum (s : ByteArray) : Option (Int) :=
 (iter (i_checksum_L1 s) ((7 : Int), (0 : Int))).bind fun (i1 : Int) =>
 some i1
noncomputable def i_AppendChecksum (s : ByteArray) : Option (ByteArray × Bool) :=
 (if (decide (4000 < (s.size : Int))) = true then some true else (strings_Contains s (str [35])).bind fun r =>
 some r).bind fun (v : Bool) =>
 if v = true then
  some ((str []), false)
 else
  (chk (s.size + (str [35]).size ≤ 4294967296)).bind fun u =>
  (i_checksum s).bind fun r1 =>
  (strconv_Itoa r1).bind fun r2 =>
  (chk ((s ++ (str [35])).size + r2.size ≤ 4294967296)).bind fun u1 =>
  if (decide (4000 < (((s ++ (str [35])) ++ r2).size : Int))) = true then
   some ((str []), false)
  else
   some (((s ++ (str [35])) ++ r2), true)
noncomputable def i_encoded (k : Int) (e : LogRecord) : Option (ByteArray) :=
 (strconv_Itoa k).bind fun r2 =>
 (chk (r2.size + (str [32]).size ≤ 4294967296)).bind fun u4 =>
 (chk ((r2 ++ (str [32])).size + e.Command.size ≤ 4294967296)).bind fun u5 =>
 (chk (((r2 ++ (str [32])) ++ e.Command).size + (str [64]).size ≤ 4294967296)).bind fun u6 =>
 (chk ((((r2 ++ (str [32])) ++ e.Command) ++ (str [64])).size + e.Reply.size ≤ 4294967296)).bind fun u7 =>
 (i_AppendChecksum ((((r2 ++ (str [32])) ++ e.Command) ++ (str [64])) ++ e.Reply)).bind fun r3 =>
 (chk (r3.1.size + (str [10]).size ≤ 4294967296)).bind fun u8 =>
 some (r3.1 ++ (str [10]))
noncomputable def i_decoded (k : Int) (s : ByteArray) : Option (LogRecord × Int × Bool) :=
 (strings_Cut s (str [10])).bind fun r =>
 (if (!r.2.2) = true then some true else some (decide (60 ≤ k))).bind fun (v : Bool) =>
 if v = true then
  some ((⟨ByteArray.empty, ByteArray.empty⟩ : LogRecord), 0, false)
 else
  (strings_Cut r.1 (str [35])).bind fun r1 =>
  (strings_Cut r1.1 (str [32])).bind fun r2 =>
  (strings_Cut r2.2.1 (str [64])).bind fun r3 =>
  (i_IsValidRecord (⟨r3.1, r3.2.1⟩ : LogRecord)).bind fun r4 =>
  (if (!r4) = true then some true else (i_encoded k (⟨r3.1, r3.2.1⟩ : LogRecord)).bind fun r5 =>
  (chk (r.1.size + (str [10]).size ≤ 4294967296)).bind fun u =>
  some (!(r5.toList == (r.1 ++ (str [10])).toList))).bind fun (v1 : Bool) =>
  if v1 = true then
   some ((⟨ByteArray.empty, ByteArray.empty⟩ : LogRecord), 0, false)
  else
   some ((⟨r3.1, r3.2.1⟩ : LogRecord), (w64 ((r.1.size : Int) + 1)), true)
noncomputable def i_readLog_L1 (s : ByteArray) : (List LogRecord) × (List Int) → Option (Lp ((List LogRecord) × (List Int)) ((List LogRecord) × (List Int)))
 | (ends, at_) =>
  (idx at_ (ends.length : Int)).bind fun e =>
  (chk ((0 : Int) ≤ e ∧ e ≤ (s.size : Int))).bind fun u =>
  (i_decoded (ends.length : Int) (s.extract e.toNat s.size)).bind fun r =>
  if (!r.2.2) = true then
   some (.dn (ends, at_))
  else
   (chk (ends.length + ([r.1] : List LogRecord).length ≤ 4294967296)).bind fun u1 =>
   (chk (at_.length + ([(w64 (e + r.2.1))] : List Int).length ≤ 4294967296)).bind fun u2 =>
   some (.nx ((ends ++ ([r.1] : List LogRecord)), (at_ ++ ([(w64 (e + r.2.1))] : List Int))))
noncomputable def i_readLog (s : ByteArray) : Option ((List LogRecord) × (List Int)) :=
 iter (i_readLog_L1 s) (([] : List LogRecord), ([0] : List Int))
noncomputable def i_IsValidLog_L1 (l : Log) (r : (List LogRecord) × (List Int)) : Int → Option (Lp (Int) (Fl (Bool) (Unit)))
 | v1 =>
  if (decide (v1 < (r.2.length : Int))) = true then
   (idx r.2 v1).bind fun e2 =>
   if (e2 == (l.Durable.size : Int)) = true then
    some (.dn (.ret true))
   else
    some (.nx (w64 (v1 + 1)))
  else
   some (.dn (.go ()))
noncomputable def i_IsValidLog (l : Log) : Option (Bool) :=
 (chk (l.Durable.size + l.Pending.size ≤ 4294967296)).bind fun u =>
 (i_readLog (l.Durable ++ l.Pending)).bind fun r =>
 (idx r.2 (r.1.length : Int)).bind fun e1 =>
 (if (e1 != (w64 ((l.Durable.size : Int) + (l.Pending.size : Int)))) = true then some true else some (l.Count != (r.1.length : Int))).bind fun (v : Bool) =>
 if v = true then
  some false
 else
  flb (iter (i_IsValidLog_L1 l r) (0 : Int)) fun (_ : Unit) =>
  some false
noncomputable def i_CrashLog (l : Log) (keep : Int) (torn : Bool) : Option (ByteArray × Bool) :=
 (i_IsValidLog l).bind fun r =>
 (if (!r) = true then some true else (i_within keep 0 (l.Pending.size : Int)).bind fun r1 =>
 some (!r1)).bind fun (v : Bool) =>
 if v = true then
  some ((str []), false)
 else
  (chk ((0 : Int) ≤ 0 ∧ (0 : Int) ≤ keep ∧ keep ≤ (l.Pending.size : Int))).bind fun u =>
  ((if torn = true then some (decide (0 < keep)) else some false).bind fun (v2 : Bool) =>
  if v2 = true then
   (chk ((0 : Int) ≤ 0 ∧ (0 : Int) ≤ (w64 (keep - 1)) ∧ (w64 (keep - 1)) ≤ ((l.Pending.extract (0 : Int).toNat keep.toNat).size : Int))).bind fun u4 =>
   (chk ((0 : Int) ≤ (w64 (keep - 1)) ∧ (w64 (keep - 1)) < ((l.Pending.extract (0 : Int).toNat keep.toNat).size : Int))).bind fun u5 =>
   (chk (((l.Pending.extract (0 : Int).toNat keep.toNat).extract (0 : Int).toNat (w64 (keep - 1)).toNat).size + (bytS ([(mkU8 (IntKind.u8.wrap (255 - (((l.Pending.extract (0 : Int).toNat keep.toNat).data.toList.getD (w64 (keep - 1)).toNat 0).toNat : Int))))] : List UInt8)).size ≤ 4294967296)).bind fun u6 =>
   some (((l.Pending.extract (0 : Int).toNat keep.toNat).extract (0 : Int).toNat (w64 (keep - 1)).toNat) ++ (bytS ([(mkU8 (IntKind.u8.wrap (255 - (((l.Pending.extract (0 : Int).toNat keep.toNat).data.toList.getD (w64 (keep - 1)).toNat 0).toNat : Int))))] : List UInt8)))
  else
   some (l.Pending.extract (0 : Int).toNat keep.toNat)).bind fun (v1 : ByteArray) =>
  (chk (l.Durable.size + v1.size ≤ 4294967296)).bind fun u7 =>
  some ((l.Durable ++ v1), true)
noncomputable def s_CrashLog (l : Log) (keep : Int) (torn : Bool) : Option (ByteArray × Bool) :=
 (s_l27Log l).bind fun r =>
 (if (!r) = true then some true else (s_l1In keep 0 (l.Pending.size : Int)).bind fun r1 =>
 some (!r1)).bind fun (v : Bool) =>
 if v = true then
  some ((str []), false)
 else
  (chk ((0 : Int) ≤ 0 ∧ (0 : Int) ≤ keep ∧ keep ≤ (l.Pending.size : Int))).bind fun u =>
  (chk ((l.Pending.extract (0 : Int).toNat keep.toNat).size ≤ 4294967296)).bind fun u1 =>
  ((if torn = true then some (decide (0 < keep)) else some false).bind fun (v2 : Bool) =>
  if v2 = true then
   (idx ((l.Pending.extract (0 : Int).toNat keep.toNat).data.toList) (w64 (keep - 1))).bind fun e =>
   (idx ((l.Pending.extract (0 : Int).toNat keep.toNat).data.toList) (w64 (keep - 1))).bind fun e1 =>
   some (((l.Pending.extract (0 : Int).toNat keep.toNat).data.toList).set (w64 (keep - 1)).toNat (mkU8 (IntKind.u8.wrap (255 - (e.toNat : Int)))))
  else
   some ((l.Pending.extract (0 : Int).toNat keep.toNat).data.toList)).bind fun (v1 : List UInt8) =>
  (chk (l.Durable.size + (bytS v1).size ≤ 4294967296)).bind fun u2 =>
  some ((l.Durable ++ (bytS v1)), true)
noncomputable def i_RecoverLog (s : ByteArray) : Option (Log × Int × Bool) :=
 if (decide (30000 < (s.size : Int))) = true then
  some ((⟨ByteArray.empty, ByteArray.empty, 0⟩ : Log), 0, false)
 else
  (i_readLog s).bind fun r =>
  (idx r.2 (r.1.length : Int)).bind fun e =>
  (chk ((0 : Int) ≤ 0 ∧ (0 : Int) ≤ e ∧ e ≤ (s.size : Int))).bind fun u =>
  some ((⟨(s.extract (0 : Int).toNat e.toNat), (str []), (r.1.length : Int)⟩ : Log), e, true)
noncomputable def i_LogRecords (l : Log) : Option ((List LogRecord) × Bool) :=
 (i_IsValidLog l).bind fun r =>
 if (!r) = true then
  some (([] : List LogRecord), false)
 else
  (chk (l.Durable.size + l.Pending.size ≤ 4294967296)).bind fun u =>
  (i_readLog (l.Durable ++ l.Pending)).bind fun r1 =>
  some (r1.1, true)
noncomputable def s_LogRecords (l : Log) : Option ((List LogRecord) × Bool) :=
 (s_l27Log l).bind fun r =>
 if (!r) = true then
  some (([] : List LogRecord), false)
 else
  (chk (l.Durable.size + l.Pending.size ≤ 4294967296)).bind fun u =>
  (s_l27Open (l.Durable ++ l.Pending)).bind fun r1 =>
  some (r1.1, true)
noncomputable def v_FnCrashRecovery_L1 (r5 : (List LogRecord) × Bool) (r6 : (List LogRecord) × Bool) : Int → Option (Lp (Int) (Fl (Bool) (Unit)))
 | v2 =>
  if (decide (v2 < (r5.1.length : Int))) = true then
   (idx r5.1 v2).bind fun e2 =>
   (idx r6.1 v2).bind fun e3 =>
   if (!((e2.Command.toList == e3.Command.toList) && ((e2.Reply.toList == e3.Reply.toList) && true))) = true then
    some (.dn (.ret false))
   else
    some (.nx (w64 (v2 + 1)))
  else
   some (.dn (.go ()))
noncomputable def v_FnCrashRecovery (code : List UInt8) : Option (Bool) :=
 (v_vBig code).bind fun r =>
 if r = true then
  some true
 else
  (s_DrawCrashLog code).bind fun r1 =>
  (i_CrashLog r1.1 r1.2.1 r1.2.2).bind fun r2 =>
  (s_CrashLog r1.1 r1.2.1 r1.2.2).bind fun r3 =>
  (if (!(r2.1.toList == r3.1.toList)) = true then some true else some (!(r2.2 == r3.2))).bind fun (v : Bool) =>
  if v = true then
   some false
  else
   if (!r2.2) = true then
    some (r2.1.toList == (str []).toList)
   else
    (i_RecoverLog r2.1).bind fun r4 =>
    (i_LogRecords r4.1).bind fun r5 =>
    (s_LogRecords r1.1).bind fun r6 =>
    (if (!r4.2.2) = true then some true else if (decide ((r2.1.size : Int) < r4.2.1)) = true then some true else if (decide (r4.2.1 < (r1.1.Durable.size : Int))) = true then some true else some (decide ((r6.1.length : Int) < (r5.1.length : Int)))).bind fun (v1 : Bool) =>
    if v1 = true then
     some false
    else
     flb (iter (v_FnCrashRecovery_L1 r5 r6) (0 : Int)) fun (_ : Unit) =>
     (i_IsValidLog r4.1).bind fun r9 =>
     (if r9 = true then (chk ((0 : Int) ≤ 0 ∧ (0 : Int) ≤ r4.2.1 ∧ r4.2.1 ≤ (r2.1.size : Int))).bind fun u1 =>
     some (r4.1.Durable.toList == (r2.1.extract (0 : Int).toNat r4.2.1.toNat).toList) else some false).bind fun (l : Bool) =>
     some l
end Go.Proofs.YtbedhobglodjbaaDoor
