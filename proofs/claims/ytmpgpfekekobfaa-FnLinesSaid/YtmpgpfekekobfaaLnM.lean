/- Models of the functions that the law reaches: plain Lean; none where the function would panic or not end. Made by program (dec.py). -/
import Derived.Test.YtmpgpfekekobfaaAbEx5
namespace Go.Proofs.Ytmpgpfekekobfaa
open Go Go.Ab
set_option maxRecDepth 100000
set_option maxHeartbeats 4000000
set_option linter.unusedVariables false
set_option linter.unusedSimpArgs false
structure l1Cur where
  code_ : List UInt8
  at_ : Int
  seed_ : IK .u64
instance enc_l1Cur : Enc l1Cur := ⟨3, fun x => .agg [Enc.e x.code_, .sc (.int .i64 x.at_), .sc (.int .u64 x.seed_.v)], fun a b h => by
  simp only [D.agg.injEq, List.cons.injEq, and_true] at h
  obtain ⟨a1, a2, a3⟩ := a
  obtain ⟨b1, b2, b3⟩ := b
  obtain ⟨h1, h2, h3⟩ := h
  have q1 := Enc.inj (α := List UInt8) a1 b1 h1
  have q2 := Enc.inj (α := Int) a2 b2 h2
  have q3 := Enc.inj (α := IK .u64) a3 b3 h3
  subst q1; subst q2; subst q3; rfl⟩
structure Line where
  Name : ByteArray
  Stops : List Int
  Runs : List Int
instance enc_Line : Enc Line := ⟨3, fun x => .agg [.sc (.string x.Name), Enc.e x.Stops, Enc.e x.Runs], fun a b h => by
  simp only [D.agg.injEq, List.cons.injEq, and_true] at h
  obtain ⟨a1, a2, a3⟩ := a
  obtain ⟨b1, b2, b3⟩ := b
  obtain ⟨h1, h2, h3⟩ := h
  have q1 := Enc.inj (α := ByteArray) a1 b1 h1
  have q2 := Enc.inj (α := List Int) a2 b2 h2
  have q3 := Enc.inj (α := List Int) a3 b3 h3
  subst q1; subst q2; subst q3; rfl⟩
structure Network where
  Stops : List ByteArray
  Lines : List Line
instance enc_Network : Enc Network := ⟨2, fun x => .agg [Enc.e x.Stops, Enc.e x.Lines], fun a b h => by
  simp only [D.agg.injEq, List.cons.injEq, and_true] at h
  obtain ⟨a1, a2⟩ := a
  obtain ⟨b1, b2⟩ := b
  obtain ⟨h1, h2⟩ := h
  have q1 := Enc.inj (α := List ByteArray) a1 b1 h1
  have q2 := Enc.inj (α := List Line) a2 b2 h2
  subst q1; subst q2; rfl⟩
noncomputable def v_vBig (code : List UInt8) : Option (Bool) :=
  some (decide (65536 < (code.length : Int)))
noncomputable def s_l1Cur_next (c : l1Cur) : Option (Int × l1Cur) :=
  (if (decide (c.at_ < (c.code_.length : Int))) = true then
    (idx c.code_ c.at_).bind fun e1 =>
    some (w64 ((e1.toNat : Int)))
  else
    some 0).bind fun (v : Int) =>
  if (decide ((w64 (c.at_ + 1)) ≤ (c.code_.length : Int))) = true then
    some (v, (⟨c.code_, (w64 (c.at_ + 1)), (⟨(IntKind.u64.wrap ((IntKind.u64.wrap ((IntKind.u64.wrap (c.seed_.v * 6364136223846793005)) + (IntKind.u64.wrap (v)))) + 900900))⟩ : IK .u64)⟩ : l1Cur))
  else
    (chk ((0 : Int) ≤ 40)).bind fun u =>
    some ((w64 ((IntKind.u64.wrap ((BitVec.ofInt (IntKind.u64).bits ((IntKind.u64.wrap ((IntKind.u64.wrap ((IntKind.u64.wrap (c.seed_.v * 6364136223846793005)) + (IntKind.u64.wrap (v)))) + 900900)).fdiv (2 ^ (min (40 : Int).toNat (IntKind.u64).bits))) &&& BitVec.ofInt (IntKind.u64).bits 255).toNat : Int)))), (⟨c.code_, (w64 (c.at_ + 1)), (⟨(IntKind.u64.wrap ((IntKind.u64.wrap ((IntKind.u64.wrap (c.seed_.v * 6364136223846793005)) + (IntKind.u64.wrap (v)))) + 900900))⟩ : IK .u64)⟩ : l1Cur))
noncomputable def s_l1Cur_pick (c : l1Cur) (n : Int) : Option (Int × l1Cur) :=
  if (decide (n ≤ 1)) = true then
    some (0, c)
  else
    (s_l1Cur_next c).bind fun r =>
    (if (decide (200 < n)) = true then
      (s_l1Cur_next r.2).bind fun r1 =>
      some ((w64 ((w64 (r.1 * 256)) + r1.1)), r1.2.code_, r1.2.at_, r1.2.seed_.v)
    else
      some (r.1, r.2.code_, r.2.at_, r.2.seed_.v)).bind fun ((v, v1, v2, v3) : Int × (List UInt8) × Int × Int) =>
    (chk ((n : Int) ≠ 0)).bind fun u =>
    some ((v.tmod n), (⟨v1, v2, (⟨v3⟩ : IK .u64)⟩ : l1Cur))
noncomputable def s_l1Num_F (rec_ : Int → Option (ByteArray)) (n : Int) : Option (ByteArray) :=
  if (decide (n < 0)) = true then
    (rec_ (w64 (0 - n))).bind fun r =>
    (chk ((str [45]).size + r.size ≤ 4294967296)).bind fun u =>
    some ((str [45]) ++ r)
  else
    if (decide (n < 10)) = true then
      (chk ((0 : Int) ≤ n ∧ n ≤ (w64 (n + 1)) ∧ (w64 (n + 1)) ≤ ((str [48, 49, 50, 51, 52, 53, 54, 55, 56, 57]).size : Int))).bind fun u1 =>
      some ((str [48, 49, 50, 51, 52, 53, 54, 55, 56, 57]).extract n.toNat (w64 (n + 1)).toNat)
    else
      (chk ((10 : Int) ≠ 0)).bind fun u7 =>
      (rec_ (w64 (n.tdiv 10))).bind fun r2 =>
      (chk ((10 : Int) ≠ 0)).bind fun u8 =>
      (chk ((10 : Int) ≠ 0)).bind fun u9 =>
      (chk ((0 : Int) ≤ (n.tmod 10) ∧ (n.tmod 10) ≤ (w64 ((n.tmod 10) + 1)) ∧ (w64 ((n.tmod 10) + 1)) ≤ ((str [48, 49, 50, 51, 52, 53, 54, 55, 56, 57]).size : Int))).bind fun u10 =>
      (chk (r2.size + ((str [48, 49, 50, 51, 52, 53, 54, 55, 56, 57]).extract (n.tmod 10).toNat (w64 ((n.tmod 10) + 1)).toNat).size ≤ 4294967296)).bind fun u11 =>
      some (r2 ++ ((str [48, 49, 50, 51, 52, 53, 54, 55, 56, 57]).extract (n.tmod 10).toNat (w64 ((n.tmod 10) + 1)).toNat))
noncomputable def s_l1Num_k : Nat → Int → Option (ByteArray)
  | 0 => fun _ => none
  | n + 1 => s_l1Num_F (s_l1Num_k n)
noncomputable def s_l1Num (n : Int) : Option (ByteArray) := s_l1Num_k 4294967296 n
noncomputable def s_l2Place_L1 (x : Line) (stop : Int) : Int → Option (Lp (Int) (Fl (Int) (Unit)))
  | v =>
    if (decide (v < (x.Stops.length : Int))) = true then
      (idx x.Stops v).bind fun e =>
      if (e == stop) = true then
        some (.dn (.ret v))
      else
        some (.nx (w64 (v + 1)))
    else
      some (.dn (.go ()))
noncomputable def s_l2Place (x : Line) (stop : Int) : Option (Int) :=
  flb (iter (s_l2Place_L1 x stop) 0) fun (_ : Unit) =>
  some (-1)
noncomputable def s_l1Cur_line_L1 (name : ByteArray) (stops : Int) : Int × Int × (List UInt8) × Int × Int × (List Int) → Option (Lp (Int × Int × (List UInt8) × Int × Int × (List Int)) ((List UInt8) × Int × Int × (List Int)))
  | (v, v1, v2, v3, v4, v5) =>
    if (decide (0 < v1)) = true then
      ((s_l2Place (⟨name, v5, ([] : List Int)⟩ : Line) v).bind fun r2 =>
      if (decide (r2 < 0)) = true then
        (chk (v5.length + ([v] : List Int).length ≤ 4294967296)).bind fun u =>
        some (v5 ++ ([v] : List Int))
      else
        some v5).bind fun (v6 : List Int) =>
      (s_l1Cur_pick (⟨v2, v3, (⟨v4⟩ : IK .u64)⟩ : l1Cur) 2).bind fun r3 =>
      (chk ((stops : Int) ≠ 0)).bind fun u1 =>
      some (.nx (((w64 ((w64 (v + 1)) + r3.1)).tmod stops), (w64 (v1 - 1)), r3.2.code_, r3.2.at_, r3.2.seed_.v, v6))
    else
      some (.dn (v2, v3, v4, v5))
noncomputable def s_l1Cur_line_L2 (v11 : List Int) : Int × (List UInt8) × Int × Int × (List Int) → Option (Lp (Int × (List UInt8) × Int × Int × (List Int)) ((List UInt8) × Int × Int × (List Int)))
  | (v12, v13, v14, v15, v16) =>
    if (decide (v12 < (v11.length : Int))) = true then
      (s_l1Cur_pick (⟨v13, v14, (⟨v15⟩ : IK .u64)⟩ : l1Cur) 12).bind fun r5 =>
      (chk (v16.length + ([(w64 (3 + r5.1))] : List Int).length ≤ 4294967296)).bind fun u7 =>
      some (.nx ((w64 (v12 + 1)), r5.2.code_, r5.2.at_, r5.2.seed_.v, (v16 ++ ([(w64 (3 + r5.1))] : List Int))))
    else
      some (.dn (v13, v14, v15, v16))
noncomputable def s_l1Cur_line (c : l1Cur) (name : ByteArray) (stops : Int) : Option (Line × l1Cur) :=
  (s_l1Cur_pick c stops).bind fun r =>
  (s_l1Cur_pick r.2 3).bind fun r1 =>
  (iter (s_l1Cur_line_L1 name stops) (r.1, (w64 (2 + r1.1)), r1.2.code_, r1.2.at_, r1.2.seed_.v, ([] : List Int))).bind fun ((v7, v8, v9, v10) : (List UInt8) × Int × Int × (List Int)) =>
  (if (decide ((v10.length : Int) < 2)) = true then
    (idx v10 0).bind fun e1 =>
    (chk ((stops : Int) ≠ 0)).bind fun u4 =>
    (chk (v10.length + ([((w64 (e1 + 1)).tmod stops)] : List Int).length ≤ 4294967296)).bind fun u5 =>
    some (v10 ++ ([((w64 (e1 + 1)).tmod stops)] : List Int))
  else
    some v10).bind fun (v11 : List Int) =>
  (iter (s_l1Cur_line_L2 v11) (1, v7, v8, v9, ([] : List Int))).bind fun ((v17, v18, v19, v20) : (List UInt8) × Int × Int × (List Int)) =>
  some ((⟨name, v11, v20⟩ : Line), (⟨v17, v18, (⟨v19⟩ : IK .u64)⟩ : l1Cur))
noncomputable def s_l1Cur_line_f_L1 (name : ByteArray) (stops : Int) : Int × Int × (List UInt8) × Int × Int × (List Int) → Option (Lp (Int × Int × (List UInt8) × Int × Int × (List Int)) ((List UInt8) × Int × Int × (List Int)))
  | (v, v1, v2, v3, v4, v5) =>
    if (decide (0 < v1)) = true then
      ((s_l2Place (⟨name, v5, ([] : List Int)⟩ : Line) v).bind fun r2 =>
      if (decide (r2 < 0)) = true then
        (chk (v5.length + ([v] : List Int).length ≤ 4294967296)).bind fun u =>
        some (v5 ++ ([v] : List Int))
      else
        some v5).bind fun (v6 : List Int) =>
      (s_l1Cur_pick (⟨v2, v3, (⟨v4⟩ : IK .u64)⟩ : l1Cur) 2).bind fun r3 =>
      (chk ((stops : Int) ≠ 0)).bind fun u1 =>
      some (.nx (((w64 ((w64 (v + 1)) + r3.1)).tmod stops), (w64 (v1 - 1)), r3.2.code_, r3.2.at_, r3.2.seed_.v, v6))
    else
      some (.dn (v2, v3, v4, v5))
noncomputable def s_l1Cur_line_f_L2 (v11 : List Int) : Int × (List UInt8) × Int × Int × (List Int) → Option (Lp (Int × (List UInt8) × Int × Int × (List Int)) ((List UInt8) × Int × Int × (List Int)))
  | (v12, v13, v14, v15, v16) =>
    if (decide (v12 < (v11.length : Int))) = true then
      (s_l1Cur_pick (⟨v13, v14, (⟨v15⟩ : IK .u64)⟩ : l1Cur) 12).bind fun r5 =>
      (chk (v16.length + ([(w64 (3 + r5.1))] : List Int).length ≤ 4294967296)).bind fun u7 =>
      some (.nx ((w64 (v12 + 1)), r5.2.code_, r5.2.at_, r5.2.seed_.v, (v16 ++ ([(w64 (3 + r5.1))] : List Int))))
    else
      some (.dn (v13, v14, v15, v16))
noncomputable def s_l1Cur_line_f (c : l1Cur) (name : ByteArray) (stops : Int) : Option (Line × l1Cur) :=
  (s_l1Cur_pick c stops).bind fun r =>
  (s_l1Cur_pick r.2 3).bind fun r1 =>
  (iter (s_l1Cur_line_f_L1 name stops) (r.1, (w64 (2 + r1.1)), r1.2.code_, r1.2.at_, r1.2.seed_.v, ([] : List Int))).bind fun ((v7, v8, v9, v10) : (List UInt8) × Int × Int × (List Int)) =>
  (if (decide ((v10.length : Int) < 2)) = true then
    (idx v10 0).bind fun e1 =>
    (chk ((stops : Int) ≠ 0)).bind fun u4 =>
    (chk (v10.length + ([((w64 (e1 + 1)).tmod stops)] : List Int).length ≤ 4294967296)).bind fun u5 =>
    some (v10 ++ ([((w64 (e1 + 1)).tmod stops)] : List Int))
  else
    some v10).bind fun (v11 : List Int) =>
  (iter (s_l1Cur_line_f_L2 v11) (1, v7, v8, v9, ([] : List Int))).bind fun ((v17, v18, v19, v20) : (List UInt8) × Int × Int × (List Int)) =>
  some ((⟨name, v11, v20⟩ : Line), (⟨v17, v18, (⟨v19⟩ : IK .u64)⟩ : l1Cur))
noncomputable def s_l1Cur_one (c : l1Cur) (n : Int) : Option (Bool × l1Cur) :=
  (s_l1Cur_pick c n).bind fun r =>
  some ((r.1 == 0), r.2)
noncomputable def s_l2Back_L1 (list : List Int) : Int × (List Int) → Option (Lp (Int × (List Int)) ((List Int)))
  | (v, i) =>
    if (decide (0 ≤ v)) = true then
      (idx list v).bind fun e =>
      (chk (i.length + ([e] : List Int).length ≤ 4294967296)).bind fun u =>
      some (.nx ((w64 (v - 1)), (i ++ ([e] : List Int))))
    else
      some (.dn i)
noncomputable def s_l2Back (list : List Int) : Option ((List Int)) :=
  (iter (s_l2Back_L1 list) ((w64 ((list.length : Int) - 1)), ([] : List Int))).bind fun (i1 : List Int) =>
  some i1
noncomputable def s_l2Back_f_L1 (list : List Int) : Int × (List Int) → Option (Lp (Int × (List Int)) ((List Int)))
  | (v, i) =>
    if (decide (0 ≤ v)) = true then
      (idx list v).bind fun e =>
      (chk (i.length + ([e] : List Int).length ≤ 4294967296)).bind fun u =>
      some (.nx ((w64 (v - 1)), (i ++ ([e] : List Int))))
    else
      some (.dn i)
noncomputable def s_l2Back_f (list : List Int) : Option ((List Int)) :=
  (iter (s_l2Back_f_L1 list) ((w64 ((list.length : Int) - 1)), ([] : List Int))).bind fun (i1 : List Int) =>
  some i1
noncomputable def s_l1Own (l : List Int) : Option ((List Int)) :=
  (chk (([] : List Int).length + l.length ≤ 4294967296)).bind fun u =>
  some (([] : List Int) ++ l)
noncomputable def s_l1Own_f (l : List Int) : Option ((List Int)) :=
  (chk (([] : List Int).length + l.length ≤ 4294967296)).bind fun u =>
  some (([] : List Int) ++ l)
noncomputable def s_l2Own_L1 (n : Network) : Int × (List Line) → Option (Lp (Int × (List Line)) ((List Line)))
  | (v, v1) =>
    if (decide (v < (n.Lines.length : Int))) = true then
      (idx n.Lines v).bind fun e3 =>
      (idx n.Lines v).bind fun e4 =>
      (s_l1Own_f e4.Stops).bind fun r2 =>
      (idx n.Lines v).bind fun e5 =>
      (s_l1Own_f e5.Runs).bind fun r3 =>
      (chk (v1.length + ([(⟨e3.Name, r2, r3⟩ : Line)] : List Line).length ≤ 4294967296)).bind fun u2 =>
      some (.nx ((w64 (v + 1)), (v1 ++ ([(⟨e3.Name, r2, r3⟩ : Line)] : List Line))))
    else
      some (.dn v1)
noncomputable def s_l2Own (n : Network) : Option (Network) :=
  (chk (([] : List ByteArray).length + n.Stops.length ≤ 4294967296)).bind fun u =>
  (iter (s_l2Own_L1 n) (0, ([] : List Line))).bind fun (v2 : List Line) =>
  some (⟨(([] : List ByteArray) ++ n.Stops), v2⟩ : Network)
noncomputable def s_l1Cur_network_L1 (r : Int × l1Cur) : Int × (List UInt8) × Int × Int × (List Line) → Option (Lp (Int × (List UInt8) × Int × Int × (List Line)) ((List UInt8) × Int × Int × (List Line)))
  | (x, v, v1, v2, v3) =>
    if (decide (0 < x)) = true then
      (s_l1Num x).bind fun r4 =>
      (chk ((str [108]).size + r4.size ≤ 4294967296)).bind fun u3 =>
      (s_l1Cur_line_f (⟨v, v1, (⟨v2⟩ : IK .u64)⟩ : l1Cur) ((str [108]) ++ r4) (w64 (2 + r.1))).bind fun r5 =>
      (chk (v3.length + ([r5.1] : List Line).length ≤ 4294967296)).bind fun u4 =>
      some (.nx ((w64 (x - 1)), r5.2.code_, r5.2.at_, r5.2.seed_.v, (v3 ++ ([r5.1] : List Line))))
    else
      some (.dn (v, v1, v2, v3))
noncomputable def s_l1Cur_network (c : l1Cur) : Option (Network × l1Cur) :=
  (s_l1Cur_pick c 5).bind fun r =>
  (chk ((0 : Int) ≤ 0 ∧ 0 ≤ (w64 (2 + r.1)) ∧ (w64 (2 + r.1)) ≤ (([(str [112, 111, 114, 116]), (str [109, 105, 108, 108]), (str [112, 97, 114, 107]), (str [104, 97, 108, 108]), (str [100, 111, 99, 107]), (str [102, 97, 105, 114])] : List ByteArray).length : Int))).bind fun u =>
  (s_l1Cur_pick r.2 3).bind fun r1 =>
  (iter (s_l1Cur_network_L1 r) ((w64 (1 + r1.1)), r1.2.code_, r1.2.at_, r1.2.seed_.v, ([] : List Line))).bind fun ((v4, v5, v6, v7) : (List UInt8) × Int × Int × (List Line)) =>
  ((s_l1Cur_one (⟨v4, v5, (⟨v6⟩ : IK .u64)⟩ : l1Cur) 2).bind fun r6 =>
  if r6.1 = true then
    (idx v7 0).bind fun e =>
    (s_l2Back_f e.Stops).bind fun r9 =>
    (s_l2Back_f e.Runs).bind fun r10 =>
    (chk (v7.length + ([(⟨(str [114, 49]), r9, r10⟩ : Line)] : List Line).length ≤ 4294967296)).bind fun u6 =>
    some (r6.2.code_, r6.2.at_, r6.2.seed_.v, (v7 ++ ([(⟨(str [114, 49]), r9, r10⟩ : Line)] : List Line)))
  else
    some (r6.2.code_, r6.2.at_, r6.2.seed_.v, v7)).bind fun ((v8, v9, v10, v11) : (List UInt8) × Int × Int × (List Line)) =>
  (s_l2Own (⟨((([(str [112, 111, 114, 116]), (str [109, 105, 108, 108]), (str [112, 97, 114, 107]), (str [104, 97, 108, 108]), (str [100, 111, 99, 107]), (str [102, 97, 105, 114])] : List ByteArray).take (w64 (2 + r.1)).toNat).drop (0 : Int).toNat), v11⟩ : Network)).bind fun r11 =>
  some ((⟨r11.Stops, r11.Lines⟩ : Network), (⟨v8, v9, (⟨v10⟩ : IK .u64)⟩ : l1Cur))
noncomputable def s_l1Cur_of (c : l1Cur) (list : List ByteArray) : Option (ByteArray × l1Cur) :=
  (s_l1Cur_pick c (list.length : Int)).bind fun r =>
  (idx list r.1).bind fun e =>
  some (e, r.2)
noncomputable def s_l1Cur_of_w (c : l1Cur) (list : List ByteArray) : Option (ByteArray × l1Cur) :=
  (s_l1Cur_pick c (list.length : Int)).bind fun r =>
  (idx list r.1).bind fun e =>
  some (e, r.2)
noncomputable def s_l2Own_t_L1 (n : Network) : Int × (List Line) → Option (Lp (Int × (List Line)) ((List Line)))
  | (v, v1) =>
    if (decide (v < (n.Lines.length : Int))) = true then
      (idx n.Lines v).bind fun e3 =>
      (idx n.Lines v).bind fun e4 =>
      (s_l1Own e4.Stops).bind fun r2 =>
      (idx n.Lines v).bind fun e5 =>
      (s_l1Own e5.Runs).bind fun r3 =>
      (chk (v1.length + ([(⟨e3.Name, r2, r3⟩ : Line)] : List Line).length ≤ 4294967296)).bind fun u2 =>
      some (.nx ((w64 (v + 1)), (v1 ++ ([(⟨e3.Name, r2, r3⟩ : Line)] : List Line))))
    else
      some (.dn v1)
noncomputable def s_l2Own_t (n : Network) : Option (Network) :=
  (chk (([] : List ByteArray).length + n.Stops.length ≤ 4294967296)).bind fun u =>
  (iter (s_l2Own_t_L1 n) (0, ([] : List Line))).bind fun (v2 : List Line) =>
  some (⟨(([] : List ByteArray) ++ n.Stops), v2⟩ : Network)
noncomputable def s_l1Cur_network_t_L1 (r : Int × l1Cur) : Int × (List UInt8) × Int × Int × (List Line) → Option (Lp (Int × (List UInt8) × Int × Int × (List Line)) ((List UInt8) × Int × Int × (List Line)))
  | (x, v, v1, v2, v3) =>
    if (decide (0 < x)) = true then
      (s_l1Num x).bind fun r4 =>
      (chk ((str [108]).size + r4.size ≤ 4294967296)).bind fun u3 =>
      (s_l1Cur_line_f (⟨v, v1, (⟨v2⟩ : IK .u64)⟩ : l1Cur) ((str [108]) ++ r4) (w64 (2 + r.1))).bind fun r5 =>
      (chk (v3.length + ([r5.1] : List Line).length ≤ 4294967296)).bind fun u4 =>
      some (.nx ((w64 (x - 1)), r5.2.code_, r5.2.at_, r5.2.seed_.v, (v3 ++ ([r5.1] : List Line))))
    else
      some (.dn (v, v1, v2, v3))
noncomputable def s_l1Cur_network_t (c : l1Cur) : Option (Network × l1Cur) :=
  (s_l1Cur_pick c 5).bind fun r =>
  (chk ((0 : Int) ≤ 0 ∧ 0 ≤ (w64 (2 + r.1)) ∧ (w64 (2 + r.1)) ≤ (([(str [112, 111, 114, 116]), (str [109, 105, 108, 108]), (str [112, 97, 114, 107]), (str [104, 97, 108, 108]), (str [100, 111, 99, 107]), (str [102, 97, 105, 114])] : List ByteArray).length : Int))).bind fun u =>
  (s_l1Cur_pick r.2 3).bind fun r1 =>
  (iter (s_l1Cur_network_t_L1 r) ((w64 (1 + r1.1)), r1.2.code_, r1.2.at_, r1.2.seed_.v, ([] : List Line))).bind fun ((v4, v5, v6, v7) : (List UInt8) × Int × Int × (List Line)) =>
  ((s_l1Cur_one (⟨v4, v5, (⟨v6⟩ : IK .u64)⟩ : l1Cur) 2).bind fun r6 =>
  if r6.1 = true then
    (idx v7 0).bind fun e =>
    (s_l2Back_f e.Stops).bind fun r9 =>
    (s_l2Back_f e.Runs).bind fun r10 =>
    (chk (v7.length + ([(⟨(str [114, 49]), r9, r10⟩ : Line)] : List Line).length ≤ 4294967296)).bind fun u6 =>
    some (r6.2.code_, r6.2.at_, r6.2.seed_.v, (v7 ++ ([(⟨(str [114, 49]), r9, r10⟩ : Line)] : List Line)))
  else
    some (r6.2.code_, r6.2.at_, r6.2.seed_.v, v7)).bind fun ((v8, v9, v10, v11) : (List UInt8) × Int × Int × (List Line)) =>
  (s_l2Own_t (⟨((([(str [112, 111, 114, 116]), (str [109, 105, 108, 108]), (str [112, 97, 114, 107]), (str [104, 97, 108, 108]), (str [100, 111, 99, 107]), (str [102, 97, 105, 114])] : List ByteArray).take (w64 (2 + r.1)).toNat).drop (0 : Int).toNat), v11⟩ : Network)).bind fun r11 =>
  some ((⟨r11.Stops, r11.Lines⟩ : Network), (⟨v8, v9, (⟨v10⟩ : IK .u64)⟩ : l1Cur))
noncomputable def s_l1Cur_among (c : l1Cur) (list : List Int) : Option (Int × l1Cur) :=
  (s_l1Cur_pick c (list.length : Int)).bind fun r =>
  (idx list r.1).bind fun e =>
  some (e, r.2)
noncomputable def s_l1Cur_among_w (c : l1Cur) (list : List Int) : Option (Int × l1Cur) :=
  (s_l1Cur_pick c (list.length : Int)).bind fun r =>
  (idx list r.1).bind fun e =>
  some (e, r.2)
noncomputable def s_l1Cur_anyNetwork_L1 (r : Network × l1Cur) : Int × (List UInt8) × Int × Int × (List Line) → Option (Lp (Int × (List UInt8) × Int × Int × (List Line)) ((List UInt8) × Int × Int × (List Line)))
  | (v7, v8, v9, v10, v11) =>
    (s_l1Cur_pick (⟨v8, v9, (⟨v10⟩ : IK .u64)⟩ : l1Cur) 2).bind fun r16 =>
    (if (decide ((v11.length : Int) < (w64 (5 + r16.1)))) = true then some (decide (v7 < 7)) else some false).bind fun (v12 : Bool) =>
    if v12 = true then
      (s_l1Num v7).bind fun r19 =>
      (chk ((str [120]).size + r19.size ≤ 4294967296)).bind fun u3 =>
      (s_l1Cur_line r16.2 ((str [120]) ++ r19) (r.1.Stops.length : Int)).bind fun r20 =>
      (chk (v11.length + ([(⟨r20.1.Name, r20.1.Stops, r20.1.Runs⟩ : Line)] : List Line).length ≤ 4294967296)).bind fun u4 =>
      some (.nx ((w64 (v7 + 1)), r20.2.code_, r20.2.at_, r20.2.seed_.v, (v11 ++ ([(⟨r20.1.Name, r20.1.Stops, r20.1.Runs⟩ : Line)] : List Line))))
    else
      some (.dn (r16.2.code_, r16.2.at_, r16.2.seed_.v, v11))
noncomputable def s_l1Cur_anyNetwork (c : l1Cur) : Option (Network × l1Cur) :=
  (s_l1Cur_network_t c).bind fun r =>
  (s_l1Cur_pick r.2 (r.1.Lines.length : Int)).bind fun r1 =>
  (idx r.1.Lines r1.1).bind fun e =>
  flb ((s_l1Cur_pick r1.2 24).bind fun r2 =>
  if (r2.1 == 0) = true then
    (s_l1Cur_of_w r2.2 ([(str [109, 105, 108, 108]), (str []), (str [65]), (str [97, 98, 99, 100, 101, 102, 103, 104]), (str [97, 98, 99, 100, 101, 102, 103, 104, 105])] : List ByteArray)).bind fun r4 =>
    (idx r.1.Stops 0).bind fun e2 =>
    some (.go (r4.2.code_, r4.2.at_, r4.2.seed_.v, e.Name, (r.1.Stops.set (0 : Int).toNat r4.1), r.1.Lines, e.Runs))
  else
    if (r2.1 == 1) = true then
      (s_l1Cur_of_w r2.2 ([(str [114, 49]), (str [108, 49]), (str []), (str [88])] : List ByteArray)).bind fun r5 =>
      some (.go (r5.2.code_, r5.2.at_, r5.2.seed_.v, r5.1, r.1.Stops, r.1.Lines, e.Runs))
    else
      if (r2.1 == 2) = true then
        (s_l1Cur_pick r2.2 (e.Stops.length : Int)).bind fun r8 =>
        (s_l1Cur_pick r8.2 10).bind fun r9 =>
        (idx e.Stops r8.1).bind fun e4 =>
        some (.go (r9.2.code_, r9.2.at_, r9.2.seed_.v, e.Name, r.1.Stops, (r.1.Lines.set r1.1.toNat (⟨e.Name, (e.Stops.set r8.1.toNat (w64 (r9.1 - 1))), e.Runs⟩ : Line)), ((⟨e.Name, (e.Stops.set r8.1.toNat (w64 (r9.1 - 1))), e.Runs⟩ : Line).Runs)))
      else
        if (r2.1 == 3) = true then
          (s_l1Cur_pick r2.2 (e.Runs.length : Int)).bind fun r12 =>
          (s_l1Cur_among_w r12.2 ([0, 60, 61, (-1)] : List Int)).bind fun r13 =>
          (idx e.Runs r12.1).bind fun e6 =>
          some (.go (r13.2.code_, r13.2.at_, r13.2.seed_.v, e.Name, r.1.Stops, (r.1.Lines.set r1.1.toNat (⟨e.Name, e.Stops, (e.Runs.set r12.1.toNat r13.1)⟩ : Line)), ((⟨e.Name, e.Stops, (e.Runs.set r12.1.toNat r13.1)⟩ : Line).Runs)))
        else
          if (r2.1 == 4) = true then
            (chk (e.Runs.length + ([3] : List Int).length ≤ 4294967296)).bind fun u =>
            some (.go (r2.2.code_, r2.2.at_, r2.2.seed_.v, e.Name, r.1.Stops, r.1.Lines, (e.Runs ++ ([3] : List Int))))
          else
            if (r2.1 == 5) = true then
              some (.ret ((⟨r.1.Stops, ([] : List Line)⟩ : Network), r2.2))
            else
              if (r2.1 == 6) = true then
                (iter (s_l1Cur_anyNetwork_L1 r) (0, r2.2.code_, r2.2.at_, r2.2.seed_.v, r.1.Lines)).bind fun ((v13, v14, v15, v16) : (List UInt8) × Int × Int × (List Line)) =>
                some (.ret ((⟨r.1.Stops, v16⟩ : Network), (⟨v13, v14, (⟨v15⟩ : IK .u64)⟩ : l1Cur)))
              else
                some (.go (r2.2.code_, r2.2.at_, r2.2.seed_.v, e.Name, r.1.Stops, r.1.Lines, e.Runs))) fun ((v, v1, v2, v3, v4, v5, v6) : (List UInt8) × Int × Int × ByteArray × (List ByteArray) × (List Line) × (List Int)) =>
  (idx v5 r1.1).bind fun e9 =>
  some ((⟨v4, (v5.set r1.1.toNat (⟨v3, e9.Stops, v6⟩ : Line))⟩ : Network), (⟨v, v1, (⟨v2⟩ : IK .u64)⟩ : l1Cur))
noncomputable def s_DrawReverseLine (code : List UInt8) : Option (Network × Int × ByteArray) :=
  (s_l1Cur_anyNetwork (⟨code, 0, (⟨0⟩ : IK .u64)⟩ : l1Cur)).bind fun r =>
  (s_l1Cur_pick r.2 4).bind fun r1 =>
  (s_l1Cur_pick r1.2 9).bind fun r2 =>
  (chk ((8 : Int) ≠ 0)).bind fun u =>
  (s_l1Cur_of r2.2 ([(str [98, 97, 99, 107]), (str [122, 57]), (str [108, 49]), (str [114, 49]), (str [])] : List ByteArray)).bind fun r3 =>
  some ((⟨r.1.Stops, r.1.Lines⟩ : Network), (w64 (r1.1 - (w64 (r2.1.tdiv 8)))), r3.1)
noncomputable def i_within (n : Int) (lo : Int) (hi : Int) : Option (Bool) :=
  (if (decide (lo ≤ n)) = true then some (decide (n ≤ hi)) else some false).bind fun (v : Bool) =>
  some v
noncomputable def i_isName_L1 (s : ByteArray) : Int → Option (Lp (Int) (Fl (Bool) (Unit)))
  | v1 =>
    if (decide (v1 < (s.size : Int))) = true then
      (chk ((0 : Int) ≤ v1 ∧ v1 < (s.size : Int))).bind fun u =>
      (if (decide (97 ≤ ((s.data.toList.getD v1.toNat 0).toNat : Int))) = true then (chk ((0 : Int) ≤ v1 ∧ v1 < (s.size : Int))).bind fun u1 =>
      some (decide (((s.data.toList.getD v1.toNat 0).toNat : Int) ≤ 122)) else some false).bind fun (v2 : Bool) =>
      (if (!v2) = true then if (v1 == 0) = true then some true else (chk ((0 : Int) ≤ v1 ∧ v1 < (s.size : Int))).bind fun u2 =>
      if (decide (((s.data.toList.getD v1.toNat 0).toNat : Int) < 48)) = true then some true else (chk ((0 : Int) ≤ v1 ∧ v1 < (s.size : Int))).bind fun u3 =>
      some (decide (57 < ((s.data.toList.getD v1.toNat 0).toNat : Int))) else some false).bind fun (v3 : Bool) =>
      if v3 = true then
        some (.dn (.ret false))
      else
        some (.nx (w64 (v1 + 1)))
    else
      some (.dn (.go ()))
noncomputable def i_isName (s : ByteArray) : Option (Bool) :=
  (if (decide ((s.size : Int) < 1)) = true then some true else some (decide (8 < (s.size : Int)))).bind fun (v : Bool) =>
  if v = true then
    some false
  else
    flb (iter (i_isName_L1 s) 0) fun (_ : Unit) =>
    some true
noncomputable def slices_Index_string_L1 (s : List ByteArray) (v : ByteArray) : Int → Option (Lp (Int) (Fl (Int) (Unit)))
  | v1 =>
    if (decide (v1 < (s.length : Int))) = true then
      (idx s v1).bind fun e =>
      if (v.toList == e.toList) = true then
        some (.dn (.ret v1))
      else
        some (.nx (w64 (v1 + 1)))
    else
      some (.dn (.go ()))
noncomputable def slices_Index_string (s : List ByteArray) (v : ByteArray) : Option (Int) :=
  flb (iter (slices_Index_string_L1 s v) 0) fun (_ : Unit) =>
  some (-1)
noncomputable def i_areNames_L1 (names : List ByteArray) : Int → Option (Lp (Int) (Fl (Bool) (Unit)))
  | v =>
    if (decide (v < (names.length : Int))) = true then
      (idx names v).bind fun e =>
      (i_isName e).bind fun r =>
      (if (!r) = true then some true else (slices_Index_string names e).bind fun r1 =>
      some (r1 != v)).bind fun (v1 : Bool) =>
      if v1 = true then
        some (.dn (.ret false))
      else
        some (.nx (w64 (v + 1)))
    else
      some (.dn (.go ()))
noncomputable def i_areNames (names : List ByteArray) : Option (Bool) :=
  flb (iter (i_areNames_L1 names) 0) fun (_ : Unit) =>
  some true
noncomputable def i_lineNames_L1 (n : Network) : Int × (List ByteArray) → Option (Lp (Int × (List ByteArray)) ((List ByteArray)))
  | (v, i) =>
    if (decide (v < (n.Lines.length : Int))) = true then
      (idx n.Lines v).bind fun e =>
      (idx i v).bind fun e1 =>
      some (.nx ((w64 (v + 1)), (i.set v.toNat e.Name)))
    else
      some (.dn i)
noncomputable def i_lineNames (n : Network) : Option ((List ByteArray)) :=
  (chk ((0 : Int) ≤ (n.Lines.length : Int) ∧ (n.Lines.length : Int) ≤ 4294967296)).bind fun u =>
  (iter (i_lineNames_L1 n) (0, (List.replicate (n.Lines.length : Int).toNat (ByteArray.empty : ByteArray)))).bind fun (i1 : List ByteArray) =>
  some i1
noncomputable def i_isStop (n : Network) (stop : Int) : Option (Bool) :=
  (if (decide (0 ≤ stop)) = true then some (decide (stop < (n.Stops.length : Int))) else some false).bind fun (v : Bool) =>
  some v
noncomputable def slices_Index_int_L1 (s : List Int) (v : Int) : Int → Option (Lp (Int) (Fl (Int) (Unit)))
  | v1 =>
    if (decide (v1 < (s.length : Int))) = true then
      (idx s v1).bind fun e =>
      if (v == e) = true then
        some (.dn (.ret v1))
      else
        some (.nx (w64 (v1 + 1)))
    else
      some (.dn (.go ()))
noncomputable def slices_Index_int (s : List Int) (v : Int) : Option (Int) :=
  flb (iter (slices_Index_int_L1 s v) 0) fun (_ : Unit) =>
  some (-1)
noncomputable def i_isValidLine_L1 (n : Network) (l : Line) : Int → Option (Lp (Int) (Fl (Bool) (Unit)))
  | v1 =>
    if (decide (v1 < (l.Stops.length : Int))) = true then
      (idx l.Stops v1).bind fun e =>
      (i_isStop n e).bind fun r1 =>
      (if (!r1) = true then some true else (slices_Index_int l.Stops e).bind fun r2 =>
      some (r2 != v1)).bind fun (v2 : Bool) =>
      if v2 = true then
        some (.dn (.ret false))
      else
        some (.nx (w64 (v1 + 1)))
    else
      some (.dn (.go ()))
noncomputable def i_isValidLine_L2 (l : Line) : Int → Option (Lp (Int) (Fl (Bool) (Unit)))
  | v3 =>
    if (decide (v3 < (l.Runs.length : Int))) = true then
      (idx l.Runs v3).bind fun e2 =>
      (i_within e2 1 60).bind fun r4 =>
      if (!r4) = true then
        some (.dn (.ret false))
      else
        some (.nx (w64 (v3 + 1)))
    else
      some (.dn (.go ()))
noncomputable def i_isValidLine (n : Network) (l : Line) : Option (Bool) :=
  (i_within (l.Stops.length : Int) 2 6).bind fun r =>
  (if (!r) = true then some true else some ((l.Runs.length : Int) != (w64 ((l.Stops.length : Int) - 1)))).bind fun (v : Bool) =>
  if v = true then
    some false
  else
    flb (iter (i_isValidLine_L1 n l) 0) fun (_ : Unit) =>
    flb (iter (i_isValidLine_L2 l) 0) fun (_ : Unit) =>
    some true
noncomputable def i_IsValidNetwork_L1 (n : Network) : Int → Option (Lp (Int) (Fl (Bool) (Unit)))
  | v1 =>
    if (decide (v1 < (n.Lines.length : Int))) = true then
      (idx n.Lines v1).bind fun e =>
      (i_isValidLine n e).bind fun r5 =>
      if (!r5) = true then
        some (.dn (.ret false))
      else
        some (.nx (w64 (v1 + 1)))
    else
      some (.dn (.go ()))
noncomputable def i_IsValidNetwork (n : Network) : Option (Bool) :=
  (i_within (n.Stops.length : Int) 2 8).bind fun r =>
  (if (!r) = true then some true else (i_within (n.Lines.length : Int) 1 5).bind fun r1 =>
  if (!r1) = true then some true else (i_areNames n.Stops).bind fun r2 =>
  if (!r2) = true then some true else (i_lineNames n).bind fun r3 =>
  (i_areNames r3).bind fun r4 =>
  some (!r4)).bind fun (v : Bool) =>
  if v = true then
    some false
  else
    flb (iter (i_IsValidNetwork_L1 n) 0) fun (_ : Unit) =>
    some true
noncomputable def i_isLine (n : Network) (line : Int) : Option (Bool) :=
  (if (decide (0 ≤ line)) = true then some (decide (line < (n.Lines.length : Int))) else some false).bind fun (v : Bool) =>
  some v
noncomputable def slices_Clone_int (s : List Int) : Option ((List Int)) :=
  (chk (([] : List Int).length + s.length ≤ 4294967296)).bind fun u =>
  some s
noncomputable def i_copyLine (l : Line) : Option (Line) :=
  (slices_Clone_int l.Stops).bind fun r2 =>
  (slices_Clone_int l.Runs).bind fun r3 =>
  some (⟨l.Name, r2, r3⟩ : Line)
noncomputable def slices_Reverse_int_w_L1 : Int × Int × (List Int) → Option (Lp (Int × Int × (List Int)) ((List Int)))
  | (j, v, s1) =>
    if (decide (j < v)) = true then
      (idx s1 v).bind fun e4 =>
      (idx s1 j).bind fun e5 =>
      (idx s1 j).bind fun e6 =>
      (idx (s1.set j.toNat e4) v).bind fun e7 =>
      some (.nx ((w64 (j + 1)), (w64 (v - 1)), ((s1.set j.toNat e4).set v.toNat e5)))
    else
      some (.dn s1)
noncomputable def slices_Reverse_int_w (s : List Int) : Option ((List Int)) :=
  iter (slices_Reverse_int_w_L1) (0, (w64 ((s.length : Int) - 1)), s)
noncomputable def slices_Clone_string (s : List ByteArray) : Option ((List ByteArray)) :=
  (chk (([] : List ByteArray).length + s.length ≤ 4294967296)).bind fun u =>
  some s
noncomputable def i_copyLine_f (l : Line) : Option (Line) :=
  (slices_Clone_int l.Stops).bind fun r2 =>
  (slices_Clone_int l.Runs).bind fun r3 =>
  some (⟨l.Name, r2, r3⟩ : Line)
noncomputable def i_copyNetwork_L1 (n : Network) : Int × (List Line) → Option (Lp (Int × (List Line)) ((List Line)))
  | (v, v1) =>
    if (decide (v < (n.Lines.length : Int))) = true then
      (idx n.Lines v).bind fun e =>
      (i_copyLine_f e).bind fun r3 =>
      (idx v1 v).bind fun e2 =>
      some (.nx ((w64 (v + 1)), (v1.set v.toNat r3)))
    else
      some (.dn v1)
noncomputable def i_copyNetwork (n : Network) : Option (Network) :=
  (slices_Clone_string n.Stops).bind fun r1 =>
  (chk ((0 : Int) ≤ (n.Lines.length : Int) ∧ (n.Lines.length : Int) ≤ 4294967296)).bind fun u1 =>
  (iter (i_copyNetwork_L1 n) (0, (List.replicate (n.Lines.length : Int).toNat ((⟨ByteArray.empty, ([] : List Int), ([] : List Int)⟩ : Line) : Line)))).bind fun (v2 : List Line) =>
  some (⟨r1, v2⟩ : Network)
noncomputable def i_ReverseLine (n : Network) (line : Int) (name : ByteArray) : Option (Network × Bool) :=
  (i_IsValidNetwork n).bind fun r =>
  (if (!r) = true then some true else (i_isLine n line).bind fun r1 =>
  some (!r1)).bind fun (v : Bool) =>
  if v = true then
    some ((⟨([] : List ByteArray), ([] : List Line)⟩ : Network), false)
  else
    (idx n.Lines line).bind fun e =>
    (i_copyLine e).bind fun r2 =>
    (slices_Reverse_int_w r2.Stops).bind fun r3 =>
    (slices_Reverse_int_w r2.Runs).bind fun r4 =>
    (i_copyNetwork n).bind fun r5 =>
    (chk (r5.Lines.length + ([(⟨name, r3, r4⟩ : Line)] : List Line).length ≤ 4294967296)).bind fun u =>
    (i_IsValidNetwork (⟨r5.Stops, (r5.Lines ++ ([(⟨name, r3, r4⟩ : Line)] : List Line))⟩ : Network)).bind fun r6 =>
    if (!r6) = true then
      some ((⟨([] : List ByteArray), ([] : List Line)⟩ : Network), false)
    else
      some ((⟨r5.Stops, (r5.Lines ++ ([(⟨name, r3, r4⟩ : Line)] : List Line))⟩ : Network), true)
noncomputable def s_l1In (x : Int) (a : Int) (b : Int) : Option (Bool) :=
  (if (decide (a ≤ x)) = true then some (decide (x ≤ b)) else some false).bind fun (v : Bool) =>
  some v
noncomputable def s_l2Name_L1 (s : ByteArray) : Int → Option (Lp (Int) (Fl (Bool) (Unit)))
  | v1 =>
    if (decide (v1 < (s.size : Int))) = true then
      (chk ((0 : Int) ≤ v1 ∧ v1 < (s.size : Int))).bind fun u2 =>
      (if (decide (((s.data.toList.getD v1.toNat 0).toNat : Int) < 97)) = true then (chk ((0 : Int) ≤ v1 ∧ v1 < (s.size : Int))).bind fun u3 =>
      if (decide (((s.data.toList.getD v1.toNat 0).toNat : Int) < 48)) = true then some true else (chk ((0 : Int) ≤ v1 ∧ v1 < (s.size : Int))).bind fun u4 =>
      some (decide (57 < ((s.data.toList.getD v1.toNat 0).toNat : Int))) else (chk ((0 : Int) ≤ v1 ∧ v1 < (s.size : Int))).bind fun u5 =>
      if (decide (122 < ((s.data.toList.getD v1.toNat 0).toNat : Int))) = true then (chk ((0 : Int) ≤ v1 ∧ v1 < (s.size : Int))).bind fun u6 =>
      if (decide (((s.data.toList.getD v1.toNat 0).toNat : Int) < 48)) = true then some true else (chk ((0 : Int) ≤ v1 ∧ v1 < (s.size : Int))).bind fun u7 =>
      some (decide (57 < ((s.data.toList.getD v1.toNat 0).toNat : Int))) else some false).bind fun (v2 : Bool) =>
      if v2 = true then
        some (.dn (.ret false))
      else
        some (.nx (w64 (v1 + 1)))
    else
      some (.dn (.go ()))
noncomputable def s_l2Name (s : ByteArray) : Option (Bool) :=
  (s_l1In (s.size : Int) 1 8).bind fun r =>
  (if (!r) = true then some true else (chk ((0 : Int) ≤ 0 ∧ 0 < (s.size : Int))).bind fun u =>
  if (decide (((s.data.toList.getD (0 : Int).toNat 0).toNat : Int) < 97)) = true then some true else (chk ((0 : Int) ≤ 0 ∧ 0 < (s.size : Int))).bind fun u1 =>
  some (decide (122 < ((s.data.toList.getD (0 : Int).toNat 0).toNat : Int)))).bind fun (v : Bool) =>
  if v = true then
    some false
  else
    flb (iter (s_l2Name_L1 s) 0) fun (_ : Unit) =>
    some true
noncomputable def s_l2Find_L1 (list : List ByteArray) (name : ByteArray) : Int → Option (Lp (Int) (Fl (Int) (Unit)))
  | v =>
    if (decide (v < (list.length : Int))) = true then
      (idx list v).bind fun e =>
      if (e.toList == name.toList) = true then
        some (.dn (.ret v))
      else
        some (.nx (w64 (v + 1)))
    else
      some (.dn (.go ()))
noncomputable def s_l2Find (list : List ByteArray) (name : ByteArray) : Option (Int) :=
  flb (iter (s_l2Find_L1 list name) 0) fun (_ : Unit) =>
  some (-1)
noncomputable def s_l2Line_L1 (x : Line) (stops : Int) : Int → Option (Lp (Int) (Fl (Bool) (Unit)))
  | v1 =>
    if (decide (v1 < (x.Stops.length : Int))) = true then
      (idx x.Stops v1).bind fun e2 =>
      (s_l1In e2 0 (w64 (stops - 1))).bind fun r4 =>
      (if (!r4) = true then some true else (idx x.Stops v1).bind fun e3 =>
      (s_l2Place x e3).bind fun r5 =>
      some (r5 != v1)).bind fun (v2 : Bool) =>
      if v2 = true then
        some (.dn (.ret false))
      else
        some (.nx (w64 (v1 + 1)))
    else
      some (.dn (.go ()))
noncomputable def s_l2Line_L2 (x : Line) : Int → Option (Lp (Int) (Fl (Bool) (Unit)))
  | v3 =>
    if (decide (v3 < (x.Runs.length : Int))) = true then
      (idx x.Runs v3).bind fun e5 =>
      (s_l1In e5 1 60).bind fun r7 =>
      if (!r7) = true then
        some (.dn (.ret false))
      else
        some (.nx (w64 (v3 + 1)))
    else
      some (.dn (.go ()))
noncomputable def s_l2Line (x : Line) (stops : Int) : Option (Bool) :=
  (s_l2Name x.Name).bind fun r =>
  (if (!r) = true then some true else (s_l1In (x.Stops.length : Int) 2 6).bind fun r1 =>
  if (!r1) = true then some true else some ((x.Runs.length : Int) != (w64 ((x.Stops.length : Int) - 1)))).bind fun (v : Bool) =>
  if v = true then
    some false
  else
    flb (iter (s_l2Line_L1 x stops) 0) fun (_ : Unit) =>
    flb (iter (s_l2Line_L2 x) 0) fun (_ : Unit) =>
    some true
noncomputable def s_l2LineNamed_L1 (n : Network) (name : ByteArray) : Int → Option (Lp (Int) (Fl (Int) (Unit)))
  | v =>
    if (decide (v < (n.Lines.length : Int))) = true then
      (idx n.Lines v).bind fun e =>
      if (e.Name.toList == name.toList) = true then
        some (.dn (.ret v))
      else
        some (.nx (w64 (v + 1)))
    else
      some (.dn (.go ()))
noncomputable def s_l2LineNamed (n : Network) (name : ByteArray) : Option (Int) :=
  flb (iter (s_l2LineNamed_L1 n name) 0) fun (_ : Unit) =>
  some (-1)
noncomputable def s_l2Good_L1 (n : Network) : Int → Option (Lp (Int) (Fl (Bool) (Unit)))
  | i =>
    if (decide (i < (n.Stops.length : Int))) = true then
      (idx n.Stops i).bind fun e2 =>
      (s_l2Name e2).bind fun r4 =>
      (if (!r4) = true then some true else (idx n.Stops i).bind fun e3 =>
      (s_l2Find n.Stops e3).bind fun r5 =>
      some (r5 != i)).bind fun (v1 : Bool) =>
      if v1 = true then
        some (.dn (.ret false))
      else
        some (.nx (w64 (i + 1)))
    else
      some (.dn (.go ()))
noncomputable def s_l2Good_L2 (n : Network) : Int → Option (Lp (Int) (Fl (Bool) (Unit)))
  | v2 =>
    if (decide (v2 < (n.Lines.length : Int))) = true then
      (idx n.Lines v2).bind fun e7 =>
      (s_l2Line e7 (n.Stops.length : Int)).bind fun r9 =>
      (if (!r9) = true then some true else (idx n.Lines v2).bind fun e8 =>
      (s_l2LineNamed n e8.Name).bind fun r10 =>
      some (r10 != v2)).bind fun (v3 : Bool) =>
      if v3 = true then
        some (.dn (.ret false))
      else
        some (.nx (w64 (v2 + 1)))
    else
      some (.dn (.go ()))
noncomputable def s_l2Good (n : Network) : Option (Bool) :=
  (s_l1In (n.Stops.length : Int) 2 8).bind fun r =>
  (if (!r) = true then some true else (s_l1In (n.Lines.length : Int) 1 5).bind fun r1 =>
  some (!r1)).bind fun (v : Bool) =>
  if v = true then
    some false
  else
    flb (iter (s_l2Good_L1 n) 0) fun (_ : Unit) =>
    flb (iter (s_l2Good_L2 n) 0) fun (_ : Unit) =>
    some true
noncomputable def s_ReverseLine (n : Network) (line : Int) (name : ByteArray) : Option (Network × Bool) :=
  (s_l2Good n).bind fun r =>
  (if (!r) = true then some true else (s_l1In line 0 (w64 ((n.Lines.length : Int) - 1))).bind fun r1 =>
  some (!r1)).bind fun (v : Bool) =>
  if v = true then
    some ((⟨([] : List ByteArray), ([] : List Line)⟩ : Network), false)
  else
    (s_l2Own n).bind fun r2 =>
    (idx n.Lines line).bind fun e =>
    (s_l2Back_f e.Stops).bind fun r5 =>
    (s_l2Back_f e.Runs).bind fun r6 =>
    (chk (r2.Lines.length + ([(⟨name, r5, r6⟩ : Line)] : List Line).length ≤ 4294967296)).bind fun u1 =>
    (s_l2Good (⟨r2.Stops, (r2.Lines ++ ([(⟨name, r5, r6⟩ : Line)] : List Line))⟩ : Network)).bind fun r7 =>
    if (!r7) = true then
      some ((⟨([] : List ByteArray), ([] : List Line)⟩ : Network), false)
    else
      some ((⟨r2.Stops, (r2.Lines ++ ([(⟨name, r5, r6⟩ : Line)] : List Line))⟩ : Network), true)
noncomputable def v_vTexts_L1 (a : List ByteArray) (b : List ByteArray) : Int → Option (Lp (Int) (Fl (Bool) (Unit)))
  | v =>
    if (decide (v < (a.length : Int))) = true then
      (idx a v).bind fun e2 =>
      (idx b v).bind fun e3 =>
      if (!(e2.toList == e3.toList)) = true then
        some (.dn (.ret false))
      else
        some (.nx (w64 (v + 1)))
    else
      some (.dn (.go ()))
noncomputable def v_vTexts (a : List ByteArray) (b : List ByteArray) : Option (Bool) :=
  if ((a.length : Int) != (b.length : Int)) = true then
    some false
  else
    flb (iter (v_vTexts_L1 a b) 0) fun (_ : Unit) =>
    some true
noncomputable def v_vInts_L1 (a : List Int) (b : List Int) : Int → Option (Lp (Int) (Fl (Bool) (Unit)))
  | v =>
    if (decide (v < (a.length : Int))) = true then
      (idx a v).bind fun e2 =>
      (idx b v).bind fun e3 =>
      if (e2 != e3) = true then
        some (.dn (.ret false))
      else
        some (.nx (w64 (v + 1)))
    else
      some (.dn (.go ()))
noncomputable def v_vInts (a : List Int) (b : List Int) : Option (Bool) :=
  if ((a.length : Int) != (b.length : Int)) = true then
    some false
  else
    flb (iter (v_vInts_L1 a b) 0) fun (_ : Unit) =>
    some true
noncomputable def v_vNetwork_L1 (a : Network) (b : Network) : Int → Option (Lp (Int) (Fl (Bool) (Unit)))
  | v1 =>
    if (decide (v1 < (a.Lines.length : Int))) = true then
      (idx a.Lines v1).bind fun e6 =>
      (idx b.Lines v1).bind fun e7 =>
      (if (!(e6.Name.toList == e7.Name.toList)) = true then some true else (idx a.Lines v1).bind fun e8 =>
      (idx b.Lines v1).bind fun e9 =>
      (v_vInts e8.Stops e9.Stops).bind fun r3 =>
      if (!r3) = true then some true else (idx a.Lines v1).bind fun e10 =>
      (idx b.Lines v1).bind fun e11 =>
      (v_vInts e10.Runs e11.Runs).bind fun r4 =>
      some (!r4)).bind fun (v2 : Bool) =>
      if v2 = true then
        some (.dn (.ret false))
      else
        some (.nx (w64 (v1 + 1)))
    else
      some (.dn (.go ()))
noncomputable def v_vNetwork (a : Network) (b : Network) : Option (Bool) :=
  (v_vTexts a.Stops b.Stops).bind fun r =>
  (if (!r) = true then some true else some ((a.Lines.length : Int) != (b.Lines.length : Int))).bind fun (v : Bool) =>
  if v = true then
    some false
  else
    flb (iter (v_vNetwork_L1 a b) 0) fun (_ : Unit) =>
    some true
noncomputable def s_IsValidNetwork (n : Network) : Option (Bool) :=
  (s_l2Good n).bind fun r =>
  some r
noncomputable def i_runTime_L1 (l : Line) (r2 : Int) (r3 : Int) : Int × Int → Option (Lp (Int × Int) (Int))
  | (v1, v2) =>
    if (decide (v2 < (((l.Runs.take r3.toNat).drop r2.toNat).length : Int))) = true then
      (idx ((l.Runs.take r3.toNat).drop r2.toNat) v2).bind fun e =>
      some (.nx ((w64 (v1 + e)), (w64 (v2 + 1))))
    else
      some (.dn v1)
noncomputable def i_runTime (l : Line) (from_ : Int) (to : Int) : Option (Int) :=
  (slices_Index_int l.Stops from_).bind fun r2 =>
  (slices_Index_int l.Stops to).bind fun r3 =>
  (if (decide (r2 < 0)) = true then some true else some (decide (r3 ≤ r2))).bind fun (v : Bool) =>
  if v = true then
    some (-1)
  else
    (chk ((0 : Int) ≤ r2 ∧ r2 ≤ r3 ∧ r3 ≤ (l.Runs.length : Int))).bind fun u =>
    (iter (i_runTime_L1 l r2 r3) (0, 0)).bind fun (v3 : Int) =>
    some v3
noncomputable def i_found (i : Int) : Option (Int × Bool) :=
  if (decide (i < 0)) = true then
    some (0, false)
  else
    some (i, true)
noncomputable def i_RunTime (n : Network) (line : Int) (from_ : Int) (to : Int) : Option (Int × Bool) :=
  (i_IsValidNetwork n).bind fun r =>
  (if (!r) = true then some true else (i_isLine n line).bind fun r1 =>
  if (!r1) = true then some true else (i_isStop n from_).bind fun r2 =>
  if (!r2) = true then some true else (i_isStop n to).bind fun r3 =>
  some (!r3)).bind fun (v : Bool) =>
  if v = true then
    some (0, false)
  else
    (idx n.Lines line).bind fun e =>
    (i_runTime e from_ to).bind fun r4 =>
    (i_found r4).bind fun r5 =>
    some (r5.1, r5.2)
noncomputable def i_LineNumber (n : Network) (name : ByteArray) : Option (Int × Bool) :=
  (i_IsValidNetwork n).bind fun r =>
  if (!r) = true then
    some (0, false)
  else
    (i_lineNames n).bind fun r1 =>
    (slices_Index_string r1 name).bind fun r2 =>
    (i_found r2).bind fun r3 =>
    some (r3.1, r3.2)
noncomputable def slices_Contains_int (s : List Int) (v : Int) : Option (Bool) :=
  (slices_Index_int s v).bind fun r =>
  some (decide (0 ≤ r))
noncomputable def i_LinesAt_L1 (n : Network) (stop : Int) : Int × (List Int) → Option (Lp (Int × (List Int)) ((List Int)))
  | (v1, l) =>
    if (decide (v1 < (n.Lines.length : Int))) = true then
      ((idx n.Lines v1).bind fun e =>
      (slices_Contains_int e.Stops stop).bind fun r2 =>
      if r2 = true then
        (chk (l.length + ([v1] : List Int).length ≤ 4294967296)).bind fun u =>
        some (l ++ ([v1] : List Int))
      else
        some l).bind fun (l1 : List Int) =>
      some (.nx ((w64 (v1 + 1)), l1))
    else
      some (.dn l)
noncomputable def i_LinesAt (n : Network) (stop : Int) : Option ((List Int) × Bool) :=
  (i_IsValidNetwork n).bind fun r =>
  (if (!r) = true then some true else (i_isStop n stop).bind fun r1 =>
  some (!r1)).bind fun (v : Bool) =>
  if v = true then
    some (([] : List Int), false)
  else
    (iter (i_LinesAt_L1 n stop) (0, ([] : List Int))).bind fun (l2 : List Int) =>
    some (l2, true)
noncomputable def v_vHas_L1 (l : List Int) (x : Int) : Int → Option (Lp (Int) (Fl (Bool) (Unit)))
  | v =>
    if (decide (v < (l.length : Int))) = true then
      (idx l v).bind fun e =>
      if (e == x) = true then
        some (.dn (.ret true))
      else
        some (.nx (w64 (v + 1)))
    else
      some (.dn (.go ()))
noncomputable def v_vHas (l : List Int) (x : Int) : Option (Bool) :=
  flb (iter (v_vHas_L1 l x) 0) fun (_ : Unit) =>
  some false
noncomputable def v_FnLines_L1 (r1 : Network × Int × ByteArray) (r2 : Network × Bool) (e : Line) : Int → Option (Lp (Int) (Fl (Bool) (Unit)))
  | a =>
    if (decide (a < (e.Stops.length : Int))) = true then
      (idx e.Stops 0).bind fun e3 =>
      (idx e.Stops a).bind fun e4 =>
      (i_RunTime r1.1 r1.2.1 e3 e4).bind fun r11 =>
      (idx e.Stops a).bind fun e7 =>
      (idx e.Stops 0).bind fun e8 =>
      (i_RunTime r2.1 (w64 ((r2.1.Lines.length : Int) - 1)) e7 e8).bind fun r13 =>
      (if (!r11.2) = true then some true else if (!r13.2) = true then some true else some (r11.1 != r13.1)).bind fun (v1 : Bool) =>
      if v1 = true then
        some (.dn (.ret false))
      else
        some (.nx (w64 (a + 1)))
    else
      some (.dn (.go ()))
noncomputable def v_FnLines (code : List UInt8) : Option (Bool) :=
  (v_vBig code).bind fun r =>
  if r = true then
    some true
  else
    (s_DrawReverseLine code).bind fun r1 =>
    (i_ReverseLine r1.1 r1.2.1 r1.2.2).bind fun r2 =>
    (s_ReverseLine r1.1 r1.2.1 r1.2.2).bind fun r3 =>
    (if (!(r2.2 == r3.2)) = true then some true else (v_vNetwork r2.1 r3.1).bind fun r7 =>
    if (!r7) = true then some true else (i_IsValidNetwork r1.1).bind fun r8 =>
    (s_IsValidNetwork r1.1).bind fun r9 =>
    some (!(r8 == r9))).bind fun (v : Bool) =>
    if v = true then
      some false
    else
      if (!r2.2) = true then
        some ((r2.1.Stops.length : Int) == 0)
      else
        (idx r1.1.Lines r1.2.1).bind fun e =>
        flb (iter (v_FnLines_L1 r1 r2 e) 1) fun (_ : Unit) =>
        (i_LineNumber r2.1 r1.2.2).bind fun r15 =>
        (idx e.Stops 0).bind fun e11 =>
        (i_LinesAt r2.1 e11).bind fun r17 =>
        (if r15.2 = true then if (r15.1 == (w64 ((r2.1.Lines.length : Int) - 1))) = true then if r17.2 = true then (v_vHas r17.1 r1.2.1).bind fun r18 =>
        if r18 = true then (v_vHas r17.1 (w64 ((r2.1.Lines.length : Int) - 1))).bind fun r19 =>
        some r19 else some false else some false else some false else some false).bind fun (n : Bool) =>
        some n
end Go.Proofs.Ytmpgpfekekobfaa
