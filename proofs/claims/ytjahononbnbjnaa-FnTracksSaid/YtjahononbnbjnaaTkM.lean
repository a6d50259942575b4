/- Models of the functions that the law reaches: plain Lean; none where the function would panic or not end. Made by program (dec.py). -/
import Derived.Test.YtjahononbnbjnaaAbC0
import Derived.Test.YtjahononbnbjnaaAbIns
import Derived.Test.YtjahononbnbjnaaAbDel
namespace Go.Proofs.Ytjahononbnbjnaa
open Go Go.Ab
set_option maxRecDepth 100000
set_option maxHeartbeats 4000000
set_option linter.unusedVariables false
set_option linter.unusedSimpArgs false
structure l1Cur where
 code_ : List UInt8
 at_ : Int
 seed_ : IK .u64
instance enc_l1Cur : Enc l1Cur := ⟨3, fun x => .agg [Enc.e x.code_, .sc (.int .i64 x.at_), .sc (.int .u64 x.seed_.v)], fun a b h => by
 simp only [D.agg.injEq, List.cons.injEq, and_true] at h
 obtain ⟨a1, a2, a3⟩ := a
 obtain ⟨b1, b2, b3⟩ := b
 obtain ⟨h1, h2, h3⟩ := h
 have q1 := Enc.inj (α := List UInt8) a1 b1 h1
 have q2 := Enc.inj (α := Int) a2 b2 h2
 have q3 := Enc.inj (α := IK .u64) a3 b3 h3
 subst q1; subst q2; subst q3; rfl⟩
structure Depot where
 Sizes : List Int
 Tracks : List (List Int)
instance enc_Depot : Enc Depot := ⟨2, fun x => .agg [Enc.e x.Sizes, Enc.e x.Tracks], fun a b h => by
 simp only [D.agg.injEq, List.cons.injEq, and_true] at h
 obtain ⟨a1, a2⟩ := a
 obtain ⟨b1, b2⟩ := b
 obtain ⟨h1, h2⟩ := h
 have q1 := Enc.inj (α := List Int) a1 b1 h1
 have q2 := Enc.inj (α := List (List Int)) a2 b2 h2
 subst q1; subst q2; rfl⟩
structure Move where
 Vehicle : Int
 Out : Bool
instance enc_Move : Enc Move := ⟨2, fun x => .agg [.sc (.int .i64 x.Vehicle), .sc (.bool x.Out)], fun a b h => by
 simp only [D.agg.injEq, List.cons.injEq, and_true] at h
 obtain ⟨a1, a2⟩ := a
 obtain ⟨b1, b2⟩ := b
 obtain ⟨h1, h2⟩ := h
 have q1 := Enc.inj (α := Int) a1 b1 h1
 have q2 := Enc.inj (α := Bool) a2 b2 h2
 subst q1; subst q2; rfl⟩
instance : BxE l1Cur := ⟨fun x y h => Enc.inj x y (congrArg D.agg h)⟩
instance : BxE Depot := ⟨fun x y h => Enc.inj x y (congrArg D.agg h)⟩
instance : BxE Move := ⟨fun x y h => Enc.inj x y (congrArg D.agg h)⟩
instance : FlatEnc Move := ⟨fun _ => flatDB_ok rfl⟩
noncomputable def v_rBig (code : List UInt8) : Option (Bool) :=
 some (decide (65536 < (code.length : Int)))
noncomputable def s_l1Cur_next (c : l1Cur) : Option (Int × l1Cur) :=
 (if (decide (c.at_ < (c.code_.length : Int))) = true then
  (idx c.code_ c.at_).bind fun e1 =>
  some (w64 ((e1.toNat : Int)))
 else
  some (0 : Int)).bind fun (v : Int) =>
 if (decide ((w64 (c.at_ + 1)) ≤ (c.code_.length : Int))) = true then
  some (v, (⟨c.code_, (w64 (c.at_ + 1)), (⟨(IntKind.u64.wrap ((IntKind.u64.wrap ((IntKind.u64.wrap (c.seed_.v * 6364136223846793005)) + (IntKind.u64.wrap (v)))) + 900900))⟩ : IK .u64)⟩ : l1Cur))
 else
  (chk ((0 : Int) ≤ 40)).bind fun u =>
  some ((w64 ((IntKind.u64.wrap ((BitVec.ofInt (IntKind.u64).bits ((IntKind.u64.wrap ((IntKind.u64.wrap ((IntKind.u64.wrap (c.seed_.v * 6364136223846793005)) + (IntKind.u64.wrap (v)))) + 900900)).fdiv (2 ^ (min (40 : Int).toNat (IntKind.u64).bits))) &&& BitVec.ofInt (IntKind.u64).bits 255).toNat : Int)))), (⟨c.code_, (w64 (c.at_ + 1)), (⟨(IntKind.u64.wrap ((IntKind.u64.wrap ((IntKind.u64.wrap (c.seed_.v * 6364136223846793005)) + (IntKind.u64.wrap (v)))) + 900900))⟩ : IK .u64)⟩ : l1Cur))
noncomputable def s_l1Cur_pick (c : l1Cur) (n : Int) : Option (Int × l1Cur) :=
 if (decide (n ≤ 1)) = true then
  some (0, c)
 else
  (s_l1Cur_next c).bind fun r =>
  (if (decide (200 < n)) = true then
   (s_l1Cur_next r.2).bind fun r1 =>
   some ((w64 ((w64 (r.1 * 256)) + r1.1)), r1.2.code_, r1.2.at_, r1.2.seed_.v)
  else
   some (r.1, r.2.code_, r.2.at_, r.2.seed_.v)).bind fun ((v, v1, v2, v3) : Int × (List UInt8) × Int × Int) =>
  (chk ((n : Int) ≠ 0)).bind fun u =>
  some ((v.tmod n), (⟨v1, v2, (⟨v3⟩ : IK .u64)⟩ : l1Cur))
noncomputable def s_l1Cur_among (c : l1Cur) (list : List Int) : Option (Int × l1Cur) :=
 (s_l1Cur_pick c (list.length : Int)).bind fun r =>
 (idx list r.1).bind fun e =>
 some (e, r.2)
noncomputable def s_l1Cur_among_w (c : l1Cur) (list : List Int) : Option (Int × l1Cur) :=
 (s_l1Cur_pick c (list.length : Int)).bind fun r =>
 (idx list r.1).bind fun e =>
 some (e, r.2)
noncomputable def s_l1Cur_depot_L1 : Int × Int × (List UInt8) × Int × Int × (List Int) → Option (Lp (Int × Int × (List UInt8) × Int × Int × (List Int)) (Int × (List UInt8) × Int × Int × (List Int)))
 | (n1, v5, v6, v7, v8, k) =>
  if (decide (0 < v5)) = true then
   (chk (k.length + ([n1] : List Int).length ≤ 4294967296)).bind fun u =>
   (s_l1Cur_pick (⟨v6, v7, (⟨v8⟩ : IK .u64)⟩ : l1Cur) 2).bind fun r3 =>
   some (.nx ((w64 ((w64 (n1 + 1)) + r3.1)), (w64 (v5 - 1)), r3.2.code_, r3.2.at_, r3.2.seed_.v, (k ++ ([n1] : List Int))))
  else
   some (.dn (n1, v6, v7, v8, k))
noncomputable def s_l1Cur_depot_L2 : Int × Int × (List UInt8) × Int × Int × (List Int) × (List (List Int)) → Option (Lp (Int × Int × (List UInt8) × Int × Int × (List Int) × (List (List Int))) ((List UInt8) × Int × Int × (List Int) × (List (List Int))))
 | (n, size, v, v1, v2, v3, v4) =>
  if (decide (0 < size)) = true then
   (s_l1Cur_among_w (⟨v, v1, (⟨v2⟩ : IK .u64)⟩ : l1Cur) ([1, 2, 3, 3, 4, 0] : List Int)).bind fun r1 =>
   (s_l1Cur_pick r1.2 (w64 (r1.1 + 1))).bind fun r2 =>
   (iter (s_l1Cur_depot_L1) (n, r2.1, r2.2.code_, r2.2.at_, r2.2.seed_.v, ([] : List Int))).bind fun ((n2, v9, v10, v11, k1) : Int × (List UInt8) × Int × Int × (List Int)) =>
   (chk (v3.length + ([r1.1] : List Int).length ≤ 4294967296)).bind fun u1 =>
   (chk (v4.length + ([k1] : List (List Int)).length ≤ 4294967296)).bind fun u2 =>
   some (.nx (n2, (w64 (size - 1)), v9, v10, v11, (v3 ++ ([r1.1] : List Int)), (v4 ++ ([k1] : List (List Int)))))
  else
   some (.dn (v, v1, v2, v3, v4))
noncomputable def s_l1Cur_depot (c : l1Cur) : Option (Depot × l1Cur) :=
 (s_l1Cur_pick c 3).bind fun r =>
 (iter (s_l1Cur_depot_L2) ((1 : Int), (w64 (1 + r.1)), r.2.code_, r.2.at_, r.2.seed_.v, ([] : List Int), ([] : List (List Int)))).bind fun ((v12, v13, v14, v15, v16) : (List UInt8) × Int × Int × (List Int) × (List (List Int))) =>
 ((s_l1Cur_pick (⟨v12, v13, (⟨v14⟩ : IK .u64)⟩ : l1Cur) 40).bind fun r4 =>
 if (r4.1 == 0) = true then
  (s_l1Cur_among_w r4.2 ([9, 2] : List Int)).bind fun r6 =>
  (chk (v15.length + ([r6.1] : List Int).length ≤ 4294967296)).bind fun u4 =>
  some (r6.2.code_, r6.2.at_, r6.2.seed_.v, (v15 ++ ([r6.1] : List Int)), v16)
 else
  if (r4.1 == 1) = true then
   (idx v16 0).bind fun e2 =>
   (s_l1Cur_among_w r4.2 ([1, 0, 100, 50] : List Int)).bind fun r8 =>
   (chk (e2.length + ([r8.1] : List Int).length ≤ 4294967296)).bind fun u6 =>
   (idx v16 0).bind fun e3 =>
   some (r8.2.code_, r8.2.at_, r8.2.seed_.v, v15, (v16.set (0 : Int).toNat (e2 ++ ([r8.1] : List Int))))
  else
   some (r4.2.code_, r4.2.at_, r4.2.seed_.v, v15, v16)).bind fun ((v17, v18, v19, v20, v21) : (List UInt8) × Int × Int × (List Int) × (List (List Int))) =>
 some ((⟨v20, v21⟩ : Depot), (⟨v17, v18, (⟨v19⟩ : IK .u64)⟩ : l1Cur))
noncomputable def s_l1Cur_one (c : l1Cur) (n : Int) : Option (Bool × l1Cur) :=
 (s_l1Cur_pick c n).bind fun r =>
 some ((r.1 == 0), r.2)
noncomputable def s_l1Cur_vehicleOf_L1 (d : Depot) : Int × (List Int) → Option (Lp (Int × (List Int)) ((List Int)))
 | (v, v1) =>
  if (decide (v < (d.Tracks.length : Int))) = true then
   (idx d.Tracks v).bind fun e =>
   (chk (v1.length + e.length ≤ 4294967296)).bind fun u =>
   some (.nx ((w64 (v + 1)), (v1 ++ e)))
  else
   some (.dn v1)
noncomputable def s_l1Cur_vehicleOf (c : l1Cur) (d : Depot) : Option (Int × l1Cur) :=
 (iter (s_l1Cur_vehicleOf_L1 d) ((0 : Int), ([] : List Int))).bind fun (v2 : List Int) =>
 (if ((v2.length : Int) == 0) = true then some (true, c.code_, c.at_, c.seed_.v) else (s_l1Cur_one c 6).bind fun r =>
 some (r.1, r.2.code_, r.2.at_, r.2.seed_.v)).bind fun ((v3, v4, v5, v6) : Bool × (List UInt8) × Int × Int) =>
 if v3 = true then
  (s_l1Cur_among (⟨v4, v5, (⟨v6⟩ : IK .u64)⟩ : l1Cur) ([0, 30, 99, 100, 1] : List Int)).bind fun r1 =>
  some (r1.1, r1.2)
 else
  (s_l1Cur_pick (⟨v4, v5, (⟨v6⟩ : IK .u64)⟩ : l1Cur) (v2.length : Int)).bind fun r2 =>
  (idx v2 r2.1).bind fun e1 =>
  some (e1, r2.2)
noncomputable def s_l1Cur_moves15_L1 (d : Depot) : Int × (List UInt8) × Int × Int × (List Move) × (List Int) → Option (Lp (Int × (List UInt8) × Int × Int × (List Move) × (List Int)) ((List UInt8) × Int × Int × (List Move)))
 | (v, v1, v2, v3, n, k) =>
  if (decide (0 < v)) = true then
   ((if (decide (0 < (k.length : Int))) = true then (s_l1Cur_one (⟨v1, v2, (⟨v3⟩ : IK .u64)⟩ : l1Cur) 3).bind fun r1 =>
   some (r1.1, r1.2.code_, r1.2.at_, r1.2.seed_.v) else some (false, v1, v2, v3)).bind fun ((v7, v8, v9, v10) : Bool × (List UInt8) × Int × Int) =>
   if v7 = true then
    (s_l1Cur_pick (⟨v8, v9, (⟨v10⟩ : IK .u64)⟩ : l1Cur) (k.length : Int)).bind fun r2 =>
    (idx k r2.1).bind fun e =>
    (chk (n.length + ([(⟨e, true⟩ : Move)] : List Move).length ≤ 4294967296)).bind fun u =>
    (chk ((0 : Int) ≤ 0 ∧ (0 : Int) ≤ r2.1 ∧ r2.1 ≤ (k.length : Int))).bind fun u5 =>
    (chk (([] : List Int).length + ((k.take r2.1.toNat).drop (0 : Int).toNat).length ≤ 4294967296)).bind fun u6 =>
    (chk ((0 : Int) ≤ (w64 (r2.1 + 1)) ∧ (w64 (r2.1 + 1)) ≤ (k.length : Int))).bind fun u7 =>
    (chk ((([] : List Int) ++ ((k.take r2.1.toNat).drop (0 : Int).toNat)).length + (k.drop (w64 (r2.1 + 1)).toNat).length ≤ 4294967296)).bind fun u8 =>
    some (r2.2.code_, r2.2.at_, r2.2.seed_.v, (n ++ ([(⟨e, true⟩ : Move)] : List Move)), ((([] : List Int) ++ ((k.take r2.1.toNat).drop (0 : Int).toNat)) ++ (k.drop (w64 (r2.1 + 1)).toNat)))
   else
    (s_l1Cur_one (⟨v8, v9, (⟨v10⟩ : IK .u64)⟩ : l1Cur) 4).bind fun r3 =>
    if r3.1 = true then
     (s_l1Cur_vehicleOf r3.2 d).bind fun r4 =>
     (chk (n.length + ([(⟨r4.1, true⟩ : Move)] : List Move).length ≤ 4294967296)).bind fun u9 =>
     some (r4.2.code_, r4.2.at_, r4.2.seed_.v, (n ++ ([(⟨r4.1, true⟩ : Move)] : List Move)), k)
    else
     (chk (n.length + ([(⟨(w64 (40 + (n.length : Int))), false⟩ : Move)] : List Move).length ≤ 4294967296)).bind fun u10 =>
     (chk (k.length + ([(w64 (40 + (n.length : Int)))] : List Int).length ≤ 4294967296)).bind fun u11 =>
     some (r3.2.code_, r3.2.at_, r3.2.seed_.v, (n ++ ([(⟨(w64 (40 + (n.length : Int))), false⟩ : Move)] : List Move)), (k ++ ([(w64 (40 + (n.length : Int)))] : List Int)))).bind fun ((v4, v5, v6, n1, k1) : (List UInt8) × Int × Int × (List Move) × (List Int)) =>
   some (.nx ((w64 (v - 1)), v4, v5, v6, n1, k1))
  else
   some (.dn (v1, v2, v3, n))
noncomputable def s_l1Cur_moves15_L2 : (List UInt8) × Int × Int × (List Move) → Option (Lp ((List UInt8) × Int × Int × (List Move)) ((List UInt8) × Int × Int × (List Move)))
 | (v17, v18, v19, n4) =>
  (s_l1Cur_pick (⟨v17, v18, (⟨v19⟩ : IK .u64)⟩ : l1Cur) 2).bind fun r6 =>
  if (decide ((n4.length : Int) < (w64 (12 + r6.1)))) = true then
   (chk ((2 : Int) ≠ 0)).bind fun u12 =>
   (chk (n4.length + ([(⟨70, (((n4.length : Int).tmod 2) == 1)⟩ : Move)] : List Move).length ≤ 4294967296)).bind fun u13 =>
   some (.nx (r6.2.code_, r6.2.at_, r6.2.seed_.v, (n4 ++ ([(⟨70, (((n4.length : Int).tmod 2) == 1)⟩ : Move)] : List Move))))
  else
   some (.dn (r6.2.code_, r6.2.at_, r6.2.seed_.v, n4))
noncomputable def s_l1Cur_moves15 (c : l1Cur) (d : Depot) : Option ((List Move) × l1Cur) :=
 (s_l1Cur_pick c 8).bind fun r =>
 (iter (s_l1Cur_moves15_L1 d) (r.1, r.2.code_, r.2.at_, r.2.seed_.v, ([] : List Move), ([] : List Int))).bind fun ((v11, v12, v13, n2) : (List UInt8) × Int × Int × (List Move)) =>
 ((s_l1Cur_one (⟨v11, v12, (⟨v13⟩ : IK .u64)⟩ : l1Cur) 40).bind fun r5 =>
 if r5.1 = true then
  (iter (s_l1Cur_moves15_L2) (r5.2.code_, r5.2.at_, r5.2.seed_.v, n2)).bind fun ((v20, v21, v22, n5) : (List UInt8) × Int × Int × (List Move)) =>
  some (v20, v21, v22, n5)
 else
  some (r5.2.code_, r5.2.at_, r5.2.seed_.v, n2)).bind fun ((v14, v15, v16, n3) : (List UInt8) × Int × Int × (List Move)) =>
 some (n3, (⟨v14, v15, (⟨v16⟩ : IK .u64)⟩ : l1Cur))
noncomputable def s_DrawAssignTracks (code : List UInt8) : Option (Depot × (List Move)) :=
 (s_l1Cur_depot (⟨code, 0, (⟨0⟩ : IK .u64)⟩ : l1Cur)).bind fun r =>
 (s_l1Cur_moves15 r.2 r.1).bind fun r2 =>
 some (r.1, r2.1)
noncomputable def i_within (n : Int) (lo : Int) (hi : Int) : Option (Bool) :=
 (if (decide (lo ≤ n)) = true then some (decide (n ≤ hi)) else some false).bind fun (v : Bool) =>
 some v
noncomputable def i_IsValidDepot_L1 (e3 : List Int) : Int × (List Bool) → Option (Lp (Int × (List Bool)) (Fl (Lp (Int × (List Bool)) (Fl (Bool) (Unit))) ((List Bool))))
 | (v4, v5) =>
  if (decide (v4 < (e3.length : Int))) = true then
   (idx e3 v4).bind fun e4 =>
   (i_within e4 1 99).bind fun r3 =>
   (if (!r3) = true then some true else (chk ((0 : Int) ≤ e4 ∧ (e4 : Int) < 100)).bind fun u =>
   (idx v5 e4).bind fun e5 =>
   some e5).bind fun (v6 : Bool) =>
   if v6 = true then
    some (.dn (.ret (.dn (.ret false))))
   else
    (chk ((0 : Int) ≤ e4 ∧ (e4 : Int) < 100)).bind fun u1 =>
    (idx v5 e4).bind fun e8 =>
    some (.nx ((w64 (v4 + 1)), (v5.set e4.toNat true)))
  else
   some (.dn (.go v5))
noncomputable def i_IsValidDepot_L2 (d : Depot) : Int × (List Bool) → Option (Lp (Int × (List Bool)) (Fl (Bool) (Unit)))
 | (v1, v2) =>
  if (decide (v1 < (d.Sizes.length : Int))) = true then
   (idx d.Sizes v1).bind fun e =>
   (i_within e 0 8).bind fun r1 =>
   (if (!r1) = true then some true else (idx d.Tracks v1).bind fun e1 =>
   some (decide (e < (e1.length : Int)))).bind fun (v3 : Bool) =>
   if v3 = true then
    some (.dn (.ret false))
   else
    (idx d.Tracks v1).bind fun e3 =>
    flb (iter (i_IsValidDepot_L1 e3) ((0 : Int), v2)) fun (v7 : List Bool) =>
    some (.nx ((w64 (v1 + 1)), v7))
  else
   some (.dn (.go ()))
noncomputable def i_IsValidDepot (d : Depot) : Option (Bool) :=
 (i_within (d.Sizes.length : Int) 1 4).bind fun r =>
 (if (!r) = true then some true else some ((d.Tracks.length : Int) != (d.Sizes.length : Int))).bind fun (v : Bool) =>
 if v = true then
  some false
 else
  flb (iter (i_IsValidDepot_L2 d) ((0 : Int), (List.replicate 100 (false : Bool)))) fun (_ : Unit) =>
  some true
noncomputable def slices_Clone_int (s : List Int) : Option ((List Int)) :=
 (chk (([] : List Int).length + s.length ≤ 4294967296)).bind fun u =>
 some s
noncomputable def i_copyLists_L1 (lists : List (List Int)) : Int × (List (List Int)) → Option (Lp (Int × (List (List Int))) ((List (List Int))))
 | (v, i) =>
  if (decide (v < (lists.length : Int))) = true then
   (idx lists v).bind fun e =>
   (slices_Clone_int e).bind fun r =>
   (idx i v).bind fun e1 =>
   some (.nx ((w64 (v + 1)), (i.set v.toNat r)))
  else
   some (.dn i)
noncomputable def i_copyLists (lists : List (List Int)) : Option ((List (List Int))) :=
 (chk ((0 : Int) ≤ (lists.length : Int) ∧ ((lists.length : Int) : Int) ≤ 4294967296)).bind fun u =>
 (iter (i_copyLists_L1 lists) ((0 : Int), (List.replicate (lists.length : Int).toNat (([] : List Int) : List Int)))).bind fun (i1 : List (List Int)) =>
 some i1
noncomputable def i_copyDepot (d : Depot) : Option (Depot) :=
 (slices_Clone_int d.Sizes).bind fun r2 =>
 (i_copyLists d.Tracks).bind fun r3 =>
 some (⟨r2, r3⟩ : Depot)
noncomputable def slices_Index_int_L1 (s : List Int) (v : Int) : Int → Option (Lp (Int) (Fl (Int) (Unit)))
 | v1 =>
  if (decide (v1 < (s.length : Int))) = true then
   (idx s v1).bind fun e =>
   if (v == e) = true then
    some (.dn (.ret v1))
   else
    some (.nx (w64 (v1 + 1)))
  else
   some (.dn (.go ()))
noncomputable def slices_Index_int (s : List Int) (v : Int) : Option (Int) :=
 flb (iter (slices_Index_int_L1 s v) (0 : Int)) fun (_ : Unit) =>
 some (-1)
noncomputable def i_placeIn_L1 (blocks : List (List Int)) (id : Int) : Int → Option (Lp (Int) (Fl (Int × Int) (Unit)))
 | v =>
  if (decide (v < (blocks.length : Int))) = true then
   (idx blocks v).bind fun e =>
   (slices_Index_int e id).bind fun r =>
   if (decide (0 ≤ r)) = true then
    some (.dn (.ret (v, r)))
   else
    some (.nx (w64 (v + 1)))
  else
   some (.dn (.go ()))
noncomputable def i_placeIn (blocks : List (List Int)) (id : Int) : Option (Int × Int) :=
 flb (iter (i_placeIn_L1 blocks id) (0 : Int)) fun (_ : Unit) =>
 some ((-1), 0)
noncomputable def i_take_a (d : Depot) (vehicle : Int) : Option (Bool × (List (List Int))) :=
 (i_placeIn d.Tracks vehicle).bind fun r =>
 (if (decide (r.1 < 0)) = true then some true else (idx d.Tracks r.1).bind fun e =>
 some (r.2 != (w64 ((e.length : Int) - 1)))).bind fun (v : Bool) =>
 if v = true then
  some (false, d.Tracks)
 else
  (idx d.Tracks r.1).bind fun e3 =>
  (chk ((0 : Int) ≤ 0 ∧ (0 : Int) ≤ r.2 ∧ r.2 ≤ (e3.length : Int))).bind fun u1 =>
  (idx d.Tracks r.1).bind fun e4 =>
  some (true, (d.Tracks.set r.1.toNat (e3.take r.2.toNat)))
noncomputable def i_park_a (d : Depot) (vehicle : Int) (track : Int) : Option (Bool × (List (List Int))) :=
 (if (decide (track < 0)) = true then some true else if (decide ((d.Tracks.length : Int) ≤ track)) = true then some true else (idx d.Tracks track).bind fun e2 =>
 (idx d.Sizes track).bind fun e3 =>
 if (decide (e3 ≤ (e2.length : Int))) = true then some true else (i_within vehicle 1 99).bind fun r1 =>
 some (!r1)).bind fun (v : Bool) =>
 if v = true then
  some (false, d.Tracks)
 else
  (i_placeIn d.Tracks vehicle).bind fun r2 =>
  if (decide (0 ≤ r2.1)) = true then
   some (false, d.Tracks)
  else
   (idx d.Tracks track).bind fun e6 =>
   (chk (e6.length + ([vehicle] : List Int).length ≤ 4294967296)).bind fun u1 =>
   (idx d.Tracks track).bind fun e7 =>
   some (true, (d.Tracks.set track.toNat (e6 ++ ([vehicle] : List Int))))
noncomputable def i_assign_L1 (rec_ : Depot → (List Move) → Option ((List Int) × Bool)) (list : List Move) (r : Depot) (v : Int) (v1 : List (List Int)) (e : Move) : Int → Option (Lp (Int) (Fl (Lp (Int × (List (List Int))) (Fl ((List Int) × Bool) (Unit))) (Unit)))
 | v2 =>
  if (decide (v2 < (v1.length : Int))) = true then
   flb ((i_copyDepot (⟨r.Sizes, v1⟩ : Depot)).bind fun r3 =>
   (i_park_a (⟨r3.Sizes, r3.Tracks⟩ : Depot) e.Vehicle v2).bind fun r4 =>
   if (!r4.1) = true then
    some (.go ())
   else
    (chk ((0 : Int) ≤ (w64 (v + 1)) ∧ (w64 (v + 1)) ≤ (list.length : Int))).bind fun u1 =>
    (rec_ (⟨r3.Sizes, r4.2⟩ : Depot) (list.drop (w64 (v + 1)).toNat)).bind fun r6 =>
    if r6.2 = true then
     (chk (([v2] : List Int).length + r6.1.length ≤ 4294967296)).bind fun u2 =>
     some (.ret (.dn (.ret (.dn (.ret ((([v2] : List Int) ++ r6.1), true))))))
    else
     some (.go ())) fun (_ : Unit) =>
   some (.nx (w64 (v2 + 1)))
  else
   some (.dn (.go ()))
noncomputable def i_assign_L2 (rec_ : Depot → (List Move) → Option ((List Int) × Bool)) (list : List Move) (r : Depot) : Int × (List (List Int)) → Option (Lp (Int × (List (List Int))) (Fl ((List Int) × Bool) (Unit)))
 | (v, v1) =>
  if (decide (v < (list.length : Int))) = true then
   (idx list v).bind fun e =>
   if e.Out = true then
    (i_take_a (⟨r.Sizes, v1⟩ : Depot) e.Vehicle).bind fun r1 =>
    if (!r1.1) = true then
     some (.dn (.ret (([] : List Int), false)))
    else
     some (.nx ((w64 (v + 1)), r1.2))
   else
    flb (iter (i_assign_L1 rec_ list r v v1 e) (0 : Int)) fun (_ : Unit) =>
    some (.dn (.ret (([] : List Int), false)))
  else
   some (.dn (.go ()))
noncomputable def i_assign_F (rec_ : Depot → (List Move) → Option ((List Int) × Bool)) (d : Depot) (list : List Move) : Option ((List Int) × Bool) :=
 (i_copyDepot d).bind fun r =>
 flb (iter (i_assign_L2 rec_ list r) ((0 : Int), r.Tracks)) fun (_ : Unit) =>
 some (([] : List Int), true)
noncomputable def i_assign_k : Nat → Depot → (List Move) → Option ((List Int) × Bool)
 | 0 => fun _ _ => none
 | n + 1 => i_assign_F (i_assign_k n)
noncomputable def i_assign (d : Depot) (list : List Move) : Option ((List Int) × Bool) := i_assign_k 4294967296 d list
noncomputable def i_AssignTracks_L1 (list : List Move) : Int × Int → Option (Lp (Int × Int) (Int))
 | (m, v) =>
  if (decide (v < (list.length : Int))) = true then
   ((idx list v).bind fun e =>
   if (!e.Out) = true then
    some (w64 (m + 1))
   else
    some m).bind fun (m1 : Int) =>
   some (.nx (m1, (w64 (v + 1))))
  else
   some (.dn m)
noncomputable def i_AssignTracks (d : Depot) (list : List Move) : Option ((List Int) × Bool × Bool) :=
 (iter (i_AssignTracks_L1 list) ((0 : Int), (0 : Int))).bind fun (m2 : Int) =>
 (i_IsValidDepot d).bind fun r =>
 (if (!r) = true then some true else if (decide (12 < (list.length : Int))) = true then some true else some (decide (6 < m2))).bind fun (v1 : Bool) =>
 if v1 = true then
  some (([] : List Int), false, false)
 else
  (i_assign d list).bind fun r1 =>
  some (r1.1, r1.2, true)
noncomputable def s_l1In (x : Int) (a : Int) (b : Int) : Option (Bool) :=
 (if (decide (a ≤ x)) = true then some (decide (x ≤ b)) else some false).bind fun (v : Bool) =>
 some v
noncomputable def s_l1Has_L1 (l : List Int) (n : Int) : Int → Option (Lp (Int) (Fl (Bool) (Unit)))
 | v =>
  if (decide (v < (l.length : Int))) = true then
   (idx l v).bind fun e =>
   if (e == n) = true then
    some (.dn (.ret true))
   else
    some (.nx (w64 (v + 1)))
  else
   some (.dn (.go ()))
noncomputable def s_l1Has (l : List Int) (n : Int) : Option (Bool) :=
 flb (iter (s_l1Has_L1 l n) (0 : Int)) fun (_ : Unit) =>
 some false
noncomputable def s_l15Good_L1 (d : Depot) (k : Int) : Int × (List Int) → Option (Lp (Int × (List Int)) (Fl (Lp (Int × (List Int)) (Fl (Bool) (Unit))) ((List Int))))
 | (v2, i1) =>
  (idx d.Tracks k).bind fun e7 =>
  if (decide (v2 < (e7.length : Int))) = true then
   (idx d.Tracks k).bind fun e8 =>
   (idx e8 v2).bind fun e9 =>
   (s_l1In e9 1 99).bind fun r4 =>
   (if (!r4) = true then some true else (s_l1Has i1 e9).bind fun r5 =>
   some r5).bind fun (v3 : Bool) =>
   if v3 = true then
    some (.dn (.ret (.dn (.ret false))))
   else
    (chk (i1.length + ([e9] : List Int).length ≤ 4294967296)).bind fun u =>
    some (.nx ((w64 (v2 + 1)), (i1 ++ ([e9] : List Int))))
  else
   some (.dn (.go i1))
noncomputable def s_l15Good_L2 (d : Depot) : Int × (List Int) → Option (Lp (Int × (List Int)) (Fl (Bool) (Unit)))
 | (k, i) =>
  if (decide (k < (d.Sizes.length : Int))) = true then
   (idx d.Sizes k).bind fun e3 =>
   (s_l1In e3 0 8).bind fun r2 =>
   (if (!r2) = true then some true else (idx d.Tracks k).bind fun e4 =>
   (idx d.Sizes k).bind fun e5 =>
   some (decide (e5 < (e4.length : Int)))).bind fun (v1 : Bool) =>
   if v1 = true then
    some (.dn (.ret false))
   else
    flb (iter (s_l15Good_L1 d k) ((0 : Int), i)) fun (i2 : List Int) =>
    some (.nx ((w64 (k + 1)), i2))
  else
   some (.dn (.go ()))
noncomputable def s_l15Good (d : Depot) : Option (Bool) :=
 (s_l1In (d.Sizes.length : Int) 1 4).bind fun r =>
 (if (!r) = true then some true else some ((d.Tracks.length : Int) != (d.Sizes.length : Int))).bind fun (v : Bool) =>
 if v = true then
  some false
 else
  flb (iter (s_l15Good_L2 d) ((0 : Int), ([] : List Int))) fun (_ : Unit) =>
  some true
noncomputable def s_l15Track_L1 (d : Depot) (vehicle : Int) (v : Int) : Int → Option (Lp (Int) (Fl (Lp (Int) (Fl (Int × Int) (Unit))) (Unit)))
 | v1 =>
  (idx d.Tracks v).bind fun e =>
  if (decide (v1 < (e.length : Int))) = true then
   (idx d.Tracks v).bind fun e1 =>
   (idx e1 v1).bind fun e2 =>
   if (e2 == vehicle) = true then
    some (.dn (.ret (.dn (.ret (v, v1)))))
   else
    some (.nx (w64 (v1 + 1)))
  else
   some (.dn (.go ()))
noncomputable def s_l15Track_L2 (d : Depot) (vehicle : Int) : Int → Option (Lp (Int) (Fl (Int × Int) (Unit)))
 | v =>
  if (decide (v < (d.Tracks.length : Int))) = true then
   flb (iter (s_l15Track_L1 d vehicle v) (0 : Int)) fun (_ : Unit) =>
   some (.nx (w64 (v + 1)))
  else
   some (.dn (.go ()))
noncomputable def s_l15Track (d : Depot) (vehicle : Int) : Option (Int × Int) :=
 flb (iter (s_l15Track_L2 d vehicle) (0 : Int)) fun (_ : Unit) =>
 some ((-1), (-1))
noncomputable def s_l1Own (l : List Int) : Option ((List Int)) :=
 (chk (([] : List Int).length + l.length ≤ 4294967296)).bind fun u =>
 some (([] : List Int) ++ l)
noncomputable def s_l1Own_f (l : List Int) : Option ((List Int)) :=
 (chk (([] : List Int).length + l.length ≤ 4294967296)).bind fun u =>
 some (([] : List Int) ++ l)
noncomputable def s_l15Own_L1 (d : Depot) : Int × (List (List Int)) → Option (Lp (Int × (List (List Int))) ((List (List Int))))
 | (v, v1) =>
  if (decide (v < (d.Tracks.length : Int))) = true then
   (idx d.Tracks v).bind fun e1 =>
   (s_l1Own_f e1).bind fun r2 =>
   (chk (v1.length + ([r2] : List (List Int)).length ≤ 4294967296)).bind fun u1 =>
   some (.nx ((w64 (v + 1)), (v1 ++ ([r2] : List (List Int)))))
  else
   some (.dn v1)
noncomputable def s_l15Own (d : Depot) : Option (Depot) :=
 (s_l1Own_f d.Sizes).bind fun r =>
 (iter (s_l15Own_L1 d) ((0 : Int), ([] : List (List Int)))).bind fun (v2 : List (List Int)) =>
 some (⟨r, v2⟩ : Depot)
noncomputable def s_l15Take (d : Depot) (vehicle : Int) : Option (Depot × Bool) :=
 (s_l15Track d vehicle).bind fun r =>
 (if (decide (r.1 < 0)) = true then some true else (idx d.Tracks r.1).bind fun e =>
 some (r.2 != (w64 ((e.length : Int) - 1)))).bind fun (v : Bool) =>
 if v = true then
  some (d, false)
 else
  (s_l15Own d).bind fun r1 =>
  (idx r1.Tracks r.1).bind fun e3 =>
  (chk ((0 : Int) ≤ 0 ∧ (0 : Int) ≤ r.2 ∧ r.2 ≤ (e3.length : Int))).bind fun u1 =>
  (idx r1.Tracks r.1).bind fun e4 =>
  some ((⟨r1.Sizes, (r1.Tracks.set r.1.toNat ((e3.take r.2.toNat).drop (0 : Int).toNat))⟩ : Depot), true)
noncomputable def s_l15Own_t_L1 (d : Depot) : Int × (List (List Int)) → Option (Lp (Int × (List (List Int))) ((List (List Int))))
 | (v, v1) =>
  if (decide (v < (d.Tracks.length : Int))) = true then
   (idx d.Tracks v).bind fun e1 =>
   (s_l1Own e1).bind fun r2 =>
   (chk (v1.length + ([r2] : List (List Int)).length ≤ 4294967296)).bind fun u1 =>
   some (.nx ((w64 (v + 1)), (v1 ++ ([r2] : List (List Int)))))
  else
   some (.dn v1)
noncomputable def s_l15Own_t (d : Depot) : Option (Depot) :=
 (s_l1Own d.Sizes).bind fun r =>
 (iter (s_l15Own_t_L1 d) ((0 : Int), ([] : List (List Int)))).bind fun (v2 : List (List Int)) =>
 some (⟨r, v2⟩ : Depot)
noncomputable def s_l15Park (d : Depot) (vehicle : Int) (track : Int) : Option (Depot × Bool) :=
 (s_l1In track 0 (w64 ((d.Sizes.length : Int) - 1))).bind fun r2 =>
 (if (!r2) = true then some true else (idx d.Tracks track).bind fun e2 =>
 (idx d.Sizes track).bind fun e3 =>
 if ((e2.length : Int) == e3) = true then some true else (s_l1In vehicle 1 99).bind fun r3 =>
 some (!r3)).bind fun (v : Bool) =>
 if v = true then
  some (d, false)
 else
  (s_l15Track d vehicle).bind fun r4 =>
  if (decide (0 ≤ r4.1)) = true then
   some (d, false)
  else
   (s_l15Own_t d).bind fun r5 =>
   (idx r5.Tracks track).bind fun e6 =>
   (chk (e6.length + ([vehicle] : List Int).length ≤ 4294967296)).bind fun u1 =>
   (idx r5.Tracks track).bind fun e7 =>
   some ((⟨r5.Sizes, (r5.Tracks.set track.toNat (e6 ++ ([vehicle] : List Int)))⟩ : Depot), true)
noncomputable def s_l15Assign_m_L1 (list : List Move) : Int × (List Int) × (List (List Int)) → Option (Lp (Int × (List Int) × (List (List Int))) (Fl ((List Int) × Bool) (Int × (List Int) × (List (List Int)))))
 | (at_1, v, v1) =>
  (if (decide (at_1 < (list.length : Int))) = true then (idx list at_1).bind fun e =>
  some e.Out else some false).bind fun (v2 : Bool) =>
  if v2 = true then
   (idx list at_1).bind fun e2 =>
   (s_l15Take (⟨v, v1⟩ : Depot) e2.Vehicle).bind fun r1 =>
   if (!r1.2) = true then
    some (.dn (.ret (([] : List Int), false)))
   else
    some (.nx ((w64 (at_1 + 1)), r1.1.Sizes, r1.1.Tracks))
  else
   some (.dn (.go (at_1, v, v1)))
noncomputable def s_l15Assign_m_L2 (rec_ : Depot → (List Move) → Int → (List Int) → Option ((List Int) × Bool)) (list : List Move) (tracks : List Int) (at_2 : Int) (v3 : List Int) (v4 : List (List Int)) : Int → Option (Lp (Int) (Fl ((List Int) × Bool) (Unit)))
 | fine =>
  if (decide (fine < (v3.length : Int))) = true then
   flb ((idx list at_2).bind fun e5 =>
   (s_l15Park (⟨v3, v4⟩ : Depot) e5.Vehicle fine).bind fun r4 =>
   if (!r4.2) = true then
    some (.go ())
   else
    (s_l1Own tracks).bind fun r7 =>
    (chk (r7.length + ([fine] : List Int).length ≤ 4294967296)).bind fun u1 =>
    (rec_ r4.1 list (w64 (at_2 + 1)) (r7 ++ ([fine] : List Int))).bind fun r8 =>
    if r8.2 = true then
     some (.ret (.dn (.ret (r8.1, true))))
    else
     some (.go ())) fun (_ : Unit) =>
   some (.nx (w64 (fine + 1)))
  else
   some (.dn (.go ()))
noncomputable def s_l15Assign_m_F (rec_ : Depot → (List Move) → Int → (List Int) → Option ((List Int) × Bool)) (d : Depot) (list : List Move) (at_ : Int) (tracks : List Int) : Option ((List Int) × Bool) :=
 flb (iter (s_l15Assign_m_L1 list) (at_, d.Sizes, d.Tracks)) fun ((at_2, v3, v4) : Int × (List Int) × (List (List Int))) =>
 if (at_2 == (list.length : Int)) = true then
  some (tracks, true)
 else
  flb (iter (s_l15Assign_m_L2 rec_ list tracks at_2 v3 v4) (0 : Int)) fun (_ : Unit) =>
  some (([] : List Int), false)
noncomputable def s_l15Assign_m_k : Nat → Depot → (List Move) → Int → (List Int) → Option ((List Int) × Bool)
 | 0 => fun _ _ _ _ => none
 | n + 1 => s_l15Assign_m_F (s_l15Assign_m_k n)
noncomputable def s_l15Assign_m (d : Depot) (list : List Move) (at_ : Int) (tracks : List Int) : Option ((List Int) × Bool) := s_l15Assign_m_k 4294967296 d list at_ tracks
noncomputable def s_l15Assign_L1 (list : List Move) : Int × (List Int) × (List (List Int)) → Option (Lp (Int × (List Int) × (List (List Int))) (Fl ((List Int) × Bool) (Int × (List Int) × (List (List Int)))))
 | (at_1, v, v1) =>
  (if (decide (at_1 < (list.length : Int))) = true then (idx list at_1).bind fun e =>
  some e.Out else some false).bind fun (v2 : Bool) =>
  if v2 = true then
   (idx list at_1).bind fun e2 =>
   (s_l15Take (⟨v, v1⟩ : Depot) e2.Vehicle).bind fun r1 =>
   if (!r1.2) = true then
    some (.dn (.ret (([] : List Int), false)))
   else
    some (.nx ((w64 (at_1 + 1)), r1.1.Sizes, r1.1.Tracks))
  else
   some (.dn (.go (at_1, v, v1)))
noncomputable def s_l15Assign_L2 (list : List Move) (tracks : List Int) (at_2 : Int) (v3 : List Int) (v4 : List (List Int)) : Int → Option (Lp (Int) (Fl ((List Int) × Bool) (Unit)))
 | fine =>
  if (decide (fine < (v3.length : Int))) = true then
   flb ((idx list at_2).bind fun e5 =>
   (s_l15Park (⟨v3, v4⟩ : Depot) e5.Vehicle fine).bind fun r4 =>
   if (!r4.2) = true then
    some (.go ())
   else
    (s_l1Own tracks).bind fun r7 =>
    (chk (r7.length + ([fine] : List Int).length ≤ 4294967296)).bind fun u1 =>
    (s_l15Assign_m r4.1 list (w64 (at_2 + 1)) (r7 ++ ([fine] : List Int))).bind fun r8 =>
    if r8.2 = true then
     some (.ret (.dn (.ret (r8.1, true))))
    else
     some (.go ())) fun (_ : Unit) =>
   some (.nx (w64 (fine + 1)))
  else
   some (.dn (.go ()))
noncomputable def s_l15Assign (d : Depot) (list : List Move) (at_ : Int) (tracks : List Int) : Option ((List Int) × Bool) :=
 flb (iter (s_l15Assign_L1 list) (at_, d.Sizes, d.Tracks)) fun ((at_2, v3, v4) : Int × (List Int) × (List (List Int))) =>
 if (at_2 == (list.length : Int)) = true then
  some (tracks, true)
 else
  flb (iter (s_l15Assign_L2 list tracks at_2 v3 v4) (0 : Int)) fun (_ : Unit) =>
  some (([] : List Int), false)
noncomputable def s_AssignTracks_L1 (list : List Move) : Int × Int → Option (Lp (Int × Int) (Int))
 | (out, ok) =>
  if (decide (ok < (list.length : Int))) = true then
   ((idx list ok).bind fun e =>
   if (!e.Out) = true then
    some (w64 (out + 1))
   else
    some out).bind fun (out1 : Int) =>
   some (.nx (out1, (w64 (ok + 1))))
  else
   some (.dn out)
noncomputable def s_AssignTracks (d : Depot) (list : List Move) : Option ((List Int) × Bool × Bool) :=
 (iter (s_AssignTracks_L1 list) ((0 : Int), (0 : Int))).bind fun (out2 : Int) =>
 (s_l15Good d).bind fun r =>
 (if (!r) = true then some true else if (decide (12 < (list.length : Int))) = true then some true else some (decide (6 < out2))).bind fun (v : Bool) =>
 if v = true then
  some (([] : List Int), false, false)
 else
  (s_l15Assign d list 0 ([] : List Int)).bind fun r1 =>
  some (r1.1, r1.2, true)
noncomputable def v_rInts_L1 (a : List Int) (b : List Int) : Int → Option (Lp (Int) (Fl (Bool) (Unit)))
 | v =>
  if (decide (v < (a.length : Int))) = true then
   (idx a v).bind fun e2 =>
   (idx b v).bind fun e3 =>
   if (e2 != e3) = true then
    some (.dn (.ret false))
   else
    some (.nx (w64 (v + 1)))
  else
   some (.dn (.go ()))
noncomputable def v_rInts (a : List Int) (b : List Int) : Option (Bool) :=
 if ((a.length : Int) != (b.length : Int)) = true then
  some false
 else
  flb (iter (v_rInts_L1 a b) (0 : Int)) fun (_ : Unit) =>
  some true
noncomputable def i_runMoves_a_L1 (d : Depot) (list : List Move) (tracks : List Int) : Int × Int × (List (List Int)) → Option (Lp (Int × Int × (List (List Int))) (Fl (Int × (List (List Int))) ((List (List Int)))))
 | (v, v1, v2) =>
  if (decide (v1 < (list.length : Int))) = true then
   flb ((idx list v1).bind fun e =>
   if e.Out = true then
    (i_take_a (⟨d.Sizes, v2⟩ : Depot) e.Vehicle).bind fun r =>
    if (!r.1) = true then
     some (.ret (.dn (.ret (v1, r.2))))
    else
     some (.go (v, r.2))
   else
    (if (v == (tracks.length : Int)) = true then some (true, v2) else (idx tracks v).bind fun e4 =>
    (i_park_a (⟨d.Sizes, v2⟩ : Depot) e.Vehicle e4).bind fun r4 =>
    some ((!r4.1), r4.2)).bind fun ((v5, v6) : Bool × (List (List Int))) =>
    if v5 = true then
     some (.ret (.dn (.ret (v1, v6))))
    else
     some (.go ((w64 (v + 1)), v6))) fun ((v3, v4) : Int × (List (List Int))) =>
   some (.nx (v3, (w64 (v1 + 1)), v4))
  else
   some (.dn (.go v2))
noncomputable def i_runMoves_a (d : Depot) (list : List Move) (tracks : List Int) : Option (Int × (List (List Int))) :=
 flb (iter (i_runMoves_a_L1 d list tracks) ((0 : Int), (0 : Int), d.Tracks)) fun (v8 : List (List Int)) =>
 some ((list.length : Int), v8)
noncomputable def i_RunMoves (d : Depot) (list : List Move) (tracks : List Int) : Option (Depot × Int × Bool) :=
 (i_IsValidDepot d).bind fun r =>
 (if (!r) = true then some true else some (decide (20 < (list.length : Int)))).bind fun (v : Bool) =>
 if v = true then
  some ((⟨([] : List Int), ([] : List (List Int))⟩ : Depot), 0, false)
 else
  (i_copyDepot d).bind fun r1 =>
  (i_runMoves_a (⟨r1.Sizes, r1.Tracks⟩ : Depot) list tracks).bind fun r2 =>
  some ((⟨r1.Sizes, r2.2⟩ : Depot), r2.1, true)
noncomputable def s_DrawTakeVehicle (code : List UInt8) : Option (Depot × Int) :=
 (s_l1Cur_depot (⟨code, 0, (⟨0⟩ : IK .u64)⟩ : l1Cur)).bind fun r =>
 (s_l1Cur_vehicleOf r.2 r.1).bind fun r2 =>
 some (r.1, r2.1)
noncomputable def s_DrawShuntingMoves (code : List UInt8) : Option (Depot × Int) :=
 (s_DrawTakeVehicle code).bind fun r =>
 some (r.1, r.2)
noncomputable def slices_Reverse_int_w_L1 : Int × Int × (List Int) → Option (Lp (Int × Int × (List Int)) ((List Int)))
 | (j, v, s1) =>
  if (decide (j < v)) = true then
   (idx s1 v).bind fun e4 =>
   (idx s1 j).bind fun e5 =>
   (idx s1 j).bind fun e6 =>
   (idx (s1.set j.toNat e4) v).bind fun e7 =>
   some (.nx ((w64 (j + 1)), (w64 (v - 1)), ((s1.set j.toNat e4).set v.toNat e5)))
  else
   some (.dn s1)
noncomputable def slices_Reverse_int_w (s : List Int) : Option ((List Int)) :=
 iter (slices_Reverse_int_w_L1) ((0 : Int), (w64 ((s.length : Int) - 1)), s)
noncomputable def i_blockersOf (d : Depot) (vehicle : Int) : Option ((List Int) × Int) :=
 (i_placeIn d.Tracks vehicle).bind fun r =>
 if (decide (r.1 < 0)) = true then
  some (([] : List Int), (-1))
 else
  (idx d.Tracks r.1).bind fun e =>
  (chk ((0 : Int) ≤ (w64 (r.2 + 1)) ∧ (w64 (r.2 + 1)) ≤ (e.length : Int))).bind fun u =>
  (slices_Clone_int (e.drop (w64 (r.2 + 1)).toNat)).bind fun r1 =>
  (slices_Reverse_int_w r1).bind fun r2 =>
  some (r2, r.1)
noncomputable def i_ShuntingMoves_L1 (r1 : (List Int) × Int) (r2 : Depot) (e : Int) (r3 : Bool × (List (List Int))) : Int × (List (List Int)) → Option (Lp (Int × (List (List Int))) (Int × (List (List Int))))
 | (v5, v6) =>
  if (decide (v5 < (r3.2.length : Int))) = true then
   (if (v5 != r1.2) = true then (i_park_a (⟨r2.Sizes, v6⟩ : Depot) e v5).bind fun r4 =>
   some (r4.1, r4.2) else some (false, v6)).bind fun ((v7, v8) : Bool × (List (List Int))) =>
   if v7 = true then
    some (.dn (v5, v8))
   else
    some (.nx ((w64 (v5 + 1)), v8))
  else
   some (.dn (((-1) : Int), v6))
noncomputable def i_ShuntingMoves_L2 (r1 : (List Int) × Int) (r2 : Depot) : Int × (List Move) × (List Int) × (List (List Int)) → Option (Lp (Int × (List Move) × (List Int) × (List (List Int))) (Fl ((List Move) × (List Int) × Bool) ((List Move) × (List Int))))
 | (v, v1, b, v2) =>
  if (decide (v < (r1.1.length : Int))) = true then
   (idx r1.1 v).bind fun e =>
   (i_take_a (⟨r2.Sizes, v2⟩ : Depot) e).bind fun r3 =>
   ((iter (i_ShuntingMoves_L1 r1 r2 e r3) ((0 : Int), r3.2)).bind fun ((v9, v10) : Int × (List (List Int))) =>
   some (v9, v10)).bind fun ((v3, v4) : Int × (List (List Int))) =>
   if (decide (v3 < 0)) = true then
    some (.dn (.ret (([] : List Move), ([] : List Int), false)))
   else
    (chk (v1.length + ([(⟨e, true⟩ : Move), (⟨e, false⟩ : Move)] : List Move).length ≤ 4294967296)).bind fun u =>
    (chk (b.length + ([v3] : List Int).length ≤ 4294967296)).bind fun u1 =>
    some (.nx ((w64 (v + 1)), (v1 ++ ([(⟨e, true⟩ : Move), (⟨e, false⟩ : Move)] : List Move)), (b ++ ([v3] : List Int)), v4))
  else
   some (.dn (.go (v1, b)))
noncomputable def i_ShuntingMoves (d : Depot) (vehicle : Int) : Option ((List Move) × (List Int) × Bool) :=
 (i_IsValidDepot d).bind fun r =>
 if (!r) = true then
  some (([] : List Move), ([] : List Int), false)
 else
  (i_blockersOf d vehicle).bind fun r1 =>
  if (decide (r1.2 < 0)) = true then
   some (([] : List Move), ([] : List Int), false)
  else
   (i_copyDepot d).bind fun r2 =>
   flb (iter (i_ShuntingMoves_L2 r1 r2) ((0 : Int), ([] : List Move), ([] : List Int), r2.Tracks)) fun ((v11, b1) : (List Move) × (List Int)) =>
   (chk (v11.length + ([(⟨vehicle, true⟩ : Move)] : List Move).length ≤ 4294967296)).bind fun u2 =>
   some ((v11 ++ ([(⟨vehicle, true⟩ : Move)] : List Move)), b1, true)
noncomputable def s_l15Blockers_L1 (d : Depot) (i : Int) (k : Int) : Int × (List Int) → Option (Lp (Int × (List Int)) ((List Int)))
 | (v, v1) =>
  if (decide (k < v)) = true then
   (idx d.Tracks i).bind fun e1 =>
   (idx e1 v).bind fun e2 =>
   (chk (v1.length + ([e2] : List Int).length ≤ 4294967296)).bind fun u =>
   some (.nx ((w64 (v - 1)), (v1 ++ ([e2] : List Int))))
  else
   some (.dn v1)
noncomputable def s_l15Blockers (d : Depot) (i : Int) (k : Int) : Option ((List Int)) :=
 (idx d.Tracks i).bind fun e =>
 (iter (s_l15Blockers_L1 d i k) ((w64 ((e.length : Int) - 1)), ([] : List Int))).bind fun (v2 : List Int) =>
 some v2
noncomputable def s_ShuntingMoves_L1 (r : Int × Int) (r5 : Depot × Bool) : Int → Option (Lp (Int) (Int))
 | v4 =>
  (if (decide (v4 < (r5.1.Sizes.length : Int))) = true then if (v4 == r.1) = true then some true else (idx r5.1.Tracks v4).bind fun e5 =>
  (idx r5.1.Sizes v4).bind fun e6 =>
  some ((e5.length : Int) == e6) else some false).bind fun (v5 : Bool) =>
  if v5 = true then
   some (.nx (w64 (v4 + 1)))
  else
   some (.dn v4)
noncomputable def s_ShuntingMoves_L2 (r : Int × Int) (r3 : (List Int)) : Int × (List Move) × (List Int) × (List Int) × (List (List Int)) → Option (Lp (Int × (List Move) × (List Int) × (List Int) × (List (List Int))) (Fl ((List Move) × (List Int) × Bool) ((List Move) × (List Int))))
 | (v1, i, k, v2, v3) =>
  if (decide (v1 < (r3.length : Int))) = true then
   (idx r3 v1).bind fun e1 =>
   (s_l15Take (⟨v2, v3⟩ : Depot) e1).bind fun r5 =>
   (idx r3 v1).bind fun e2 =>
   (chk (i.length + ([(⟨e2, true⟩ : Move)] : List Move).length ≤ 4294967296)).bind fun u =>
   (iter (s_ShuntingMoves_L1 r r5) (0 : Int)).bind fun (v6 : Int) =>
   if (v6 == (r5.1.Sizes.length : Int)) = true then
    some (.dn (.ret (([] : List Move), ([] : List Int), false)))
   else
    (idx r3 v1).bind fun e9 =>
    (s_l15Park r5.1 e9 v6).bind fun r8 =>
    (idx r3 v1).bind fun e10 =>
    (chk ((i ++ ([(⟨e2, true⟩ : Move)] : List Move)).length + ([(⟨e10, false⟩ : Move)] : List Move).length ≤ 4294967296)).bind fun u1 =>
    (chk (k.length + ([v6] : List Int).length ≤ 4294967296)).bind fun u2 =>
    some (.nx ((w64 (v1 + 1)), ((i ++ ([(⟨e2, true⟩ : Move)] : List Move)) ++ ([(⟨e10, false⟩ : Move)] : List Move)), (k ++ ([v6] : List Int)), r8.1.Sizes, r8.1.Tracks))
  else
   some (.dn (.go (i, k)))
noncomputable def s_ShuntingMoves (d : Depot) (vehicle : Int) : Option ((List Move) × (List Int) × Bool) :=
 (s_l15Track d vehicle).bind fun r =>
 (s_l15Good d).bind fun r1 =>
 (if (!r1) = true then some true else some (decide (r.1 < 0))).bind fun (v : Bool) =>
 if v = true then
  some (([] : List Move), ([] : List Int), false)
 else
  (s_l15Own d).bind fun r2 =>
  (s_l15Blockers d r.1 r.2).bind fun r3 =>
  flb (iter (s_ShuntingMoves_L2 r r3) ((0 : Int), ([] : List Move), ([] : List Int), r2.Sizes, r2.Tracks)) fun ((i1, k1) : (List Move) × (List Int)) =>
  (chk (i1.length + ([(⟨vehicle, true⟩ : Move)] : List Move).length ≤ 4294967296)).bind fun u3 =>
  some ((i1 ++ ([(⟨vehicle, true⟩ : Move)] : List Move)), k1, true)
noncomputable def i_BlockersOf (d : Depot) (vehicle : Int) : Option ((List Int) × Bool) :=
 (i_IsValidDepot d).bind fun r =>
 if (!r) = true then
  some (([] : List Int), false)
 else
  (i_blockersOf d vehicle).bind fun r1 =>
  some (r1.1, (decide (0 ≤ r1.2)))
noncomputable def s_l1Put_m_L1 (l : List Int) (n : Int) : Int → Option (Lp (Int) (Int))
 | v =>
  (if (decide (v < (l.length : Int))) = true then (idx l v).bind fun e =>
  some (decide (e < n)) else some false).bind fun (v1 : Bool) =>
  if v1 = true then
   some (.nx (w64 (v + 1)))
  else
   some (.dn v)
noncomputable def s_l1Put_m (l : List Int) (n : Int) : Option ((List Int)) :=
 (iter (s_l1Put_m_L1 l n) (0 : Int)).bind fun (v2 : Int) =>
 (if (decide (v2 < (l.length : Int))) = true then (idx l v2).bind fun e1 =>
 some (e1 == n) else some false).bind fun (v3 : Bool) =>
 if v3 = true then
  some l
 else
  (chk ((0 : Int) ≤ 0 ∧ (0 : Int) ≤ v2 ∧ v2 ≤ (l.length : Int))).bind fun u5 =>
  (chk (([] : List Int).length + ((l.take v2.toNat).drop (0 : Int).toNat).length ≤ 4294967296)).bind fun u6 =>
  (chk ((([] : List Int) ++ ((l.take v2.toNat).drop (0 : Int).toNat)).length + ([n] : List Int).length ≤ 4294967296)).bind fun u7 =>
  (chk ((0 : Int) ≤ v2 ∧ v2 ≤ (l.length : Int))).bind fun u8 =>
  (chk (((([] : List Int) ++ ((l.take v2.toNat).drop (0 : Int).toNat)) ++ ([n] : List Int)).length + (l.drop v2.toNat).length ≤ 4294967296)).bind fun u9 =>
  some (((([] : List Int) ++ ((l.take v2.toNat).drop (0 : Int).toNat)) ++ ([n] : List Int)) ++ (l.drop v2.toNat))
noncomputable def s_DrawDepartureOrder_L1 (r : Depot × l1Cur) (k : Int) : Int × (List UInt8) × Int × Int × (List Int) → Option (Lp (Int × (List UInt8) × Int × Int × (List Int)) ((List UInt8) × Int × Int × (List Int)))
 | (v6, v7, v8, v9, i2) =>
  if (decide (0 ≤ v6)) = true then
   (s_l1Cur_one (⟨v7, v8, (⟨v9⟩ : IK .u64)⟩ : l1Cur) 4).bind fun r1 =>
   if r1.1 = true then
    some (.dn (r1.2.code_, r1.2.at_, r1.2.seed_.v, i2))
   else
    (idx r.1.Tracks k).bind fun e1 =>
    (idx e1 v6).bind fun e2 =>
    (s_l1Put_m i2 e2).bind fun r2 =>
    some (.nx ((w64 (v6 - 1)), r1.2.code_, r1.2.at_, r1.2.seed_.v, r2))
  else
   some (.dn (v7, v8, v9, i2))
noncomputable def s_DrawDepartureOrder_L2 (r : Depot × l1Cur) : Int × (List UInt8) × Int × Int × (List Int) → Option (Lp (Int × (List UInt8) × Int × Int × (List Int)) ((List UInt8) × Int × Int × (List Int)))
 | (k, v, v1, v2, i) =>
  if (decide (k < (r.1.Tracks.length : Int))) = true then
   ((idx r.1.Tracks k).bind fun e =>
   (iter (s_DrawDepartureOrder_L1 r k) ((w64 ((e.length : Int) - 1)), v, v1, v2, i)).bind fun ((v10, v11, v12, i3) : (List UInt8) × Int × Int × (List Int)) =>
   some (v10, v11, v12, i3)).bind fun ((v3, v4, v5, i1) : (List UInt8) × Int × Int × (List Int)) =>
   some (.nx ((w64 (k + 1)), v3, v4, v5, i1))
  else
   some (.dn (v, v1, v2, i))
noncomputable def s_DrawDepartureOrder (code : List UInt8) : Option (Depot × (List Int)) :=
 (s_l1Cur_depot (⟨code, 0, (⟨0⟩ : IK .u64)⟩ : l1Cur)).bind fun r =>
 (iter (s_DrawDepartureOrder_L2 r) ((0 : Int), r.2.code_, r.2.at_, r.2.seed_.v, ([] : List Int))).bind fun ((v13, v14, v15, i4) : (List UInt8) × Int × Int × (List Int)) =>
 ((s_l1Cur_pick (⟨v13, v14, (⟨v15⟩ : IK .u64)⟩ : l1Cur) 20).bind fun r3 =>
 if (r3.1 == 0) = true then
  (s_l1Cur_vehicleOf r3.2 r.1).bind fun r4 =>
  (s_l1Put_m i4 r4.1).bind fun r5 =>
  some r5
 else
  if (r3.1 == 1) = true then
   (chk (i4.length + ([1] : List Int).length ≤ 4294967296)).bind fun u =>
   some (i4 ++ ([1] : List Int))
  else
   some i4).bind fun (i5 : List Int) =>
 some (r.1, i5)
noncomputable def i_DepartureOrder_1_b (v : Int) (c1 : Depot) : Option (Bool × (List (List Int))) :=
 (i_take_a (⟨c1.Sizes, c1.Tracks⟩ : Depot) v).bind fun r =>
 some (r.1, r.2)
noncomputable def slices_IndexFunc_int_c_w__i_DepartureOrder_1_L1 (s : List Int) (c1 : Depot) : Int × (List (List Int)) → Option (Lp (Int × (List (List Int))) (Fl (Int × (List (List Int))) ((List (List Int)))))
 | (v, v1) =>
  if (decide (v < (s.length : Int))) = true then
   (idx s v).bind fun e =>
   (i_DepartureOrder_1_b e (⟨c1.Sizes, v1⟩ : Depot)).bind fun r =>
   if r.1 = true then
    some (.dn (.ret (v, r.2)))
   else
    some (.nx ((w64 (v + 1)), r.2))
  else
   some (.dn (.go v1))
noncomputable def slices_IndexFunc_int_c_w__i_DepartureOrder_1 (s : List Int) (c1 : Depot) : Option (Int × (List (List Int))) :=
 flb (iter (slices_IndexFunc_int_c_w__i_DepartureOrder_1_L1 s c1) ((0 : Int), c1.Tracks)) fun (v2 : List (List Int)) =>
 some ((-1), v2)
noncomputable def slices_Delete_int_m (s : List Int) (i : Int) (j : Int) : Option ((List Int)) :=
 delM s i j
noncomputable def i_DepartureOrder_L1 (d : Depot) (wanted : List Int) : Int → Option (Lp (Int) (Fl ((List Int) × Bool × Bool) (Unit)))
 | v =>
  if (decide (v < (wanted.length : Int))) = true then
   (idx wanted v).bind fun e =>
   (i_placeIn d.Tracks e).bind fun r1 =>
   (if (decide (r1.1 < 0)) = true then some true else if (decide (0 < v)) = true then (idx wanted (w64 (v - 1))).bind fun e1 =>
   some (decide (e ≤ e1)) else some false).bind fun (v1 : Bool) =>
   if v1 = true then
    some (.dn (.ret (([] : List Int), false, false)))
   else
    some (.nx (w64 (v + 1)))
  else
   some (.dn (.go ()))
noncomputable def i_DepartureOrder_L2 (r3 : Depot) : (List Int) × (List Int) × (List (List Int)) → Option (Lp ((List Int) × (List Int) × (List (List Int))) (Fl ((List Int) × Bool × Bool) ((List Int))))
 | (k, v2, v3) =>
  if (decide (0 < (v2.length : Int))) = true then
   (slices_IndexFunc_int_c_w__i_DepartureOrder_1 v2 (⟨r3.Sizes, v3⟩ : Depot)).bind fun r5 =>
   if (decide (r5.1 < 0)) = true then
    some (.dn (.ret (([] : List Int), false, true)))
   else
    (idx v2 r5.1).bind fun e4 =>
    (chk (k.length + ([e4] : List Int).length ≤ 4294967296)).bind fun u =>
    (slices_Delete_int_m v2 r5.1 (w64 (r5.1 + 1))).bind fun r7 =>
    some (.nx ((k ++ ([e4] : List Int)), r7, r5.2))
  else
   some (.dn (.go k))
noncomputable def i_DepartureOrder (d : Depot) (wanted : List Int) : Option ((List Int) × Bool × Bool) :=
 (i_IsValidDepot d).bind fun r =>
 if (!r) = true then
  some (([] : List Int), false, false)
 else
  flb (iter (i_DepartureOrder_L1 d wanted) (0 : Int)) fun (_ : Unit) =>
  (i_copyDepot d).bind fun r3 =>
  (slices_Clone_int wanted).bind fun r4 =>
  flb (iter (i_DepartureOrder_L2 r3) (([] : List Int), r4, r3.Tracks)) fun (k1 : List Int) =>
  some (k1, true, true)
noncomputable def s_l1Rising_L1 (l : List Int) (lo : Int) (hi : Int) : Int → Option (Lp (Int) (Fl (Bool) (Unit)))
 | v =>
  if (decide (v < (l.length : Int))) = true then
   (idx l v).bind fun e3 =>
   (s_l1In e3 lo hi).bind fun r1 =>
   (if (!r1) = true then some true else if (decide (0 < v)) = true then (idx l (w64 (v - 1))).bind fun e4 =>
   (idx l v).bind fun e5 =>
   some (decide (e5 ≤ e4)) else some false).bind fun (v1 : Bool) =>
   if v1 = true then
    some (.dn (.ret false))
   else
    some (.nx (w64 (v + 1)))
  else
   some (.dn (.go ()))
noncomputable def s_l1Rising (l : List Int) (lo : Int) (hi : Int) : Option (Bool) :=
 flb (iter (s_l1Rising_L1 l lo hi) (0 : Int)) fun (_ : Unit) =>
 some true
noncomputable def s_l15Order_m_L1 (rec_ : Depot → (List Int) → (List Int) → Option ((List Int) × Bool)) (d : Depot) (wanted : List Int) (order : List Int) : Int → Option (Lp (Int) (Fl ((List Int) × Bool) (Unit)))
 | out =>
  if (decide (out < (wanted.length : Int))) = true then
   (idx wanted out).bind fun e1 =>
   (s_l15Take d e1).bind fun r1 =>
   if (!r1.2) = true then
    some (.nx (w64 (out + 1)))
   else
    (s_l1Own order).bind fun r4 =>
    (idx wanted out).bind fun e3 =>
    (chk (r4.length + ([e3] : List Int).length ≤ 4294967296)).bind fun u1 =>
    (rec_ r1.1 wanted (r4 ++ ([e3] : List Int))).bind fun r5 =>
    if r5.2 = true then
     some (.dn (.ret (r5.1, true)))
    else
     some (.dn (.ret (([] : List Int), false)))
  else
   some (.dn (.go ()))
noncomputable def s_l15Order_m_F (rec_ : Depot → (List Int) → (List Int) → Option ((List Int) × Bool)) (d : Depot) (wanted : List Int) (order : List Int) : Option ((List Int) × Bool) :=
 if ((order.length : Int) == (wanted.length : Int)) = true then
  some (order, true)
 else
  flb (iter (s_l15Order_m_L1 rec_ d wanted order) (0 : Int)) fun (_ : Unit) =>
  some (([] : List Int), false)
noncomputable def s_l15Order_m_k : Nat → Depot → (List Int) → (List Int) → Option ((List Int) × Bool)
 | 0 => fun _ _ _ => none
 | n + 1 => s_l15Order_m_F (s_l15Order_m_k n)
noncomputable def s_l15Order_m (d : Depot) (wanted : List Int) (order : List Int) : Option ((List Int) × Bool) := s_l15Order_m_k 4294967296 d wanted order
noncomputable def s_l15Order_L1 (d : Depot) (wanted : List Int) (order : List Int) : Int → Option (Lp (Int) (Fl ((List Int) × Bool) (Unit)))
 | out =>
  if (decide (out < (wanted.length : Int))) = true then
   (idx wanted out).bind fun e1 =>
   (s_l15Take d e1).bind fun r1 =>
   if (!r1.2) = true then
    some (.nx (w64 (out + 1)))
   else
    (s_l1Own order).bind fun r4 =>
    (idx wanted out).bind fun e3 =>
    (chk (r4.length + ([e3] : List Int).length ≤ 4294967296)).bind fun u1 =>
    (s_l15Order_m r1.1 wanted (r4 ++ ([e3] : List Int))).bind fun r5 =>
    if r5.2 = true then
     some (.dn (.ret (r5.1, true)))
    else
     some (.dn (.ret (([] : List Int), false)))
  else
   some (.dn (.go ()))
noncomputable def s_l15Order (d : Depot) (wanted : List Int) (order : List Int) : Option ((List Int) × Bool) :=
 if ((order.length : Int) == (wanted.length : Int)) = true then
  some (order, true)
 else
  flb (iter (s_l15Order_L1 d wanted order) (0 : Int)) fun (_ : Unit) =>
  some (([] : List Int), false)
noncomputable def s_DepartureOrder_L1 (d : Depot) (wanted : List Int) : Int → Option (Lp (Int) (Fl ((List Int) × Bool × Bool) (Unit)))
 | v1 =>
  if (decide (v1 < (wanted.length : Int))) = true then
   (idx wanted v1).bind fun e1 =>
   (s_l15Track d e1).bind fun r3 =>
   if (decide (r3.1 < 0)) = true then
    some (.dn (.ret (([] : List Int), false, false)))
   else
    some (.nx (w64 (v1 + 1)))
  else
   some (.dn (.go ()))
noncomputable def s_DepartureOrder (d : Depot) (wanted : List Int) : Option ((List Int) × Bool × Bool) :=
 (s_l15Good d).bind fun r =>
 (if (!r) = true then some true else (s_l1Rising wanted 1 99).bind fun r1 =>
 some (!r1)).bind fun (v : Bool) =>
 if v = true then
  some (([] : List Int), false, false)
 else
  flb (iter (s_DepartureOrder_L1 d wanted) (0 : Int)) fun (_ : Unit) =>
  (s_l15Order d wanted ([] : List Int)).bind fun r5 =>
  some (r5.1, r5.2, true)
noncomputable def i_TakeVehicle (d : Depot) (vehicle : Int) : Option (Depot × Bool) :=
 (i_IsValidDepot d).bind fun r =>
 if (!r) = true then
  some ((⟨([] : List Int), ([] : List (List Int))⟩ : Depot), false)
 else
  (i_copyDepot d).bind fun r1 =>
  (i_take_a (⟨r1.Sizes, r1.Tracks⟩ : Depot) vehicle).bind fun r2 =>
  if (!r2.1) = true then
   some ((⟨([] : List Int), ([] : List (List Int))⟩ : Depot), false)
  else
   some ((⟨r1.Sizes, r2.2⟩ : Depot), true)
noncomputable def s_DrawRunMoves_L1 : Int × (List UInt8) × Int × Int × (List Int) → Option (Lp (Int × (List UInt8) × Int × Int × (List Int)) ((List Int)))
 | (v1, v2, v3, v4, v5) =>
  if (decide (0 < v1)) = true then
   (s_l1Cur_pick (⟨v2, v3, (⟨v4⟩ : IK .u64)⟩ : l1Cur) 3).bind fun r5 =>
   (chk (v5.length + ([r5.1] : List Int).length ≤ 4294967296)).bind fun u =>
   some (.nx ((w64 (v1 - 1)), r5.2.code_, r5.2.at_, r5.2.seed_.v, (v5 ++ ([r5.1] : List Int))))
  else
   some (.dn v5)
noncomputable def s_DrawRunMoves (code : List UInt8) : Option (Depot × (List Move) × (List Int)) :=
 (s_l1Cur_depot (⟨code, 0, (⟨0⟩ : IK .u64)⟩ : l1Cur)).bind fun r =>
 (s_l1Cur_moves15 r.2 r.1).bind fun r1 =>
 (s_AssignTracks r.1 r1.1).bind fun r2 =>
 ((s_l1Cur_one r1.2 3).bind fun r3 =>
 if r3.1 = true then
  (s_l1Cur_pick r3.2 6).bind fun r4 =>
  (iter (s_DrawRunMoves_L1) (r4.1, r4.2.code_, r4.2.at_, r4.2.seed_.v, ([] : List Int))).bind fun (v6 : List Int) =>
  some v6
 else
  some r2.1).bind fun (v : List Int) =>
 some (r.1, r1.1, v)
noncomputable def s_l15Run_L1 (list : List Move) (tracks : List Int) : Int × Int × (List Int) × (List (List Int)) → Option (Lp (Int × Int × (List Int) × (List (List Int))) (Fl (Depot × Int) ((List Int) × (List (List Int)))))
 | (ok, v, v1, v2) =>
  if (decide (v < (list.length : Int))) = true then
   ((idx list v).bind fun e =>
   if e.Out = true then
    (idx list v).bind fun e2 =>
    (s_l15Take (⟨v1, v2⟩ : Depot) e2.Vehicle).bind fun r2 =>
    some (ok, r2.2, r2.1.Sizes, r2.1.Tracks)
   else
    if (decide (ok < (tracks.length : Int))) = true then
     (idx list v).bind fun e5 =>
     (idx tracks ok).bind fun e6 =>
     (s_l15Park (⟨v1, v2⟩ : Depot) e5.Vehicle e6).bind fun r4 =>
     some ((w64 (ok + 1)), r4.2, r4.1.Sizes, r4.1.Tracks)
    else
     some (ok, false, v1, v2)).bind fun ((ok1, v3, v4, v5) : Int × Bool × (List Int) × (List (List Int))) =>
   if (!v3) = true then
    some (.dn (.ret ((⟨v1, v2⟩ : Depot), v)))
   else
    some (.nx (ok1, (w64 (v + 1)), v4, v5))
  else
   some (.dn (.go (v1, v2)))
noncomputable def s_l15Run (d : Depot) (list : List Move) (tracks : List Int) : Option (Depot × Int) :=
 (s_l15Own d).bind fun r =>
 flb (iter (s_l15Run_L1 list tracks) ((0 : Int), (0 : Int), r.Sizes, r.Tracks)) fun ((v6, v7) : (List Int) × (List (List Int))) =>
 some ((⟨v6, v7⟩ : Depot), (list.length : Int))
noncomputable def s_RunMoves (d : Depot) (list : List Move) (tracks : List Int) : Option (Depot × Int × Bool) :=
 (s_l15Good d).bind fun r =>
 (if (!r) = true then some true else some (decide (20 < (list.length : Int)))).bind fun (v : Bool) =>
 if v = true then
  some ((⟨([] : List Int), ([] : List (List Int))⟩ : Depot), 0, false)
 else
  (s_l15Run d list tracks).bind fun r1 =>
  some (r1.1, r1.2, true)
noncomputable def v_rTable_L1 (a : List (List Int)) (b : List (List Int)) : Int → Option (Lp (Int) (Fl (Bool) (Unit)))
 | v =>
  if (decide (v < (a.length : Int))) = true then
   (idx a v).bind fun e2 =>
   (idx b v).bind fun e3 =>
   (v_rInts e2 e3).bind fun r1 =>
   if (!r1) = true then
    some (.dn (.ret false))
   else
    some (.nx (w64 (v + 1)))
  else
   some (.dn (.go ()))
noncomputable def v_rTable (a : List (List Int)) (b : List (List Int)) : Option (Bool) :=
 if ((a.length : Int) != (b.length : Int)) = true then
  some false
 else
  flb (iter (v_rTable_L1 a b) (0 : Int)) fun (_ : Unit) =>
  some true
noncomputable def v_rDepots (a : Depot) (b : Depot) : Option (Bool) :=
 (v_rInts a.Sizes b.Sizes).bind fun r =>
 (if r = true then (v_rTable a.Tracks b.Tracks).bind fun r1 =>
 some r1 else some false).bind fun (v : Bool) =>
 some v
noncomputable def v_FnTracks_L1 (r15 : (List Int) × Bool × Bool) : Int × (List Int) × (List (List Int)) → Option (Lp (Int × (List Int) × (List (List Int))) (Fl (Bool) (Unit)))
 | (next, v6, v7) =>
  (if (decide (next < (r15.1.length : Int))) = true then some r15.2.1 else some false).bind fun (v8 : Bool) =>
  if v8 = true then
   (idx r15.1 next).bind fun e3 =>
   (i_TakeVehicle (⟨v6, v7⟩ : Depot) e3).bind fun r19 =>
   if (!r19.2) = true then
    some (.dn (.ret false))
   else
    some (.nx ((w64 (next + 1)), r19.1.Sizes, r19.1.Tracks))
  else
   some (.dn (.go ()))
noncomputable def v_FnTracks (code : List UInt8) : Option (Bool) :=
 (v_rBig code).bind fun r =>
 if r = true then
  some true
 else
  (s_DrawAssignTracks code).bind fun r1 =>
  (i_AssignTracks r1.1 r1.2).bind fun r2 =>
  (s_AssignTracks r1.1 r1.2).bind fun r3 =>
  (if (!(r2.2.2 == r3.2.2)) = true then some true else if (!(r2.2.1 == r3.2.1)) = true then some true else (v_rInts r2.1 r3.1).bind fun r4 =>
  some (!r4)).bind fun (v : Bool) =>
  if v = true then
   some false
  else
   flb (if r2.2.1 = true then
    (i_RunMoves r1.1 r1.2 r2.1).bind fun r5 =>
    (if (!r5.2.2) = true then some true else some (r5.2.1 != (r1.2.length : Int))).bind fun (v1 : Bool) =>
    if v1 = true then
     some (.ret false)
    else
     some (.go ())
   else
    some (.go ())) fun (_ : Unit) =>
   (s_DrawShuntingMoves code).bind fun r7 =>
   (i_ShuntingMoves r7.1 r7.2).bind fun r8 =>
   (s_ShuntingMoves r7.1 r7.2).bind fun r9 =>
   (if (!(r8.2.2 == r9.2.2)) = true then some true else if ((r8.1.length : Int) != (r9.1.length : Int)) = true then some true else (v_rInts r8.2.1 r9.2.1).bind fun r10 =>
   some (!r10)).bind fun (v2 : Bool) =>
   if v2 = true then
    some false
   else
    flb ((if r8.2.2 = true then some (decide ((r8.1.length : Int) ≤ 20)) else some false).bind fun (v3 : Bool) =>
    if v3 = true then
     (i_RunMoves r7.1 r8.1 r8.2.1).bind fun r11 =>
     (i_BlockersOf r11.1 r7.2).bind fun r12 =>
     (if (!r11.2.2) = true then some true else if (r11.2.1 != (r8.1.length : Int)) = true then some true else some r12.2).bind fun (v4 : Bool) =>
     if v4 = true then
      some (.ret false)
     else
      some (.go ())
    else
     some (.go ())) fun (_ : Unit) =>
    (s_DrawDepartureOrder code).bind fun r14 =>
    (i_DepartureOrder r14.1 r14.2).bind fun r15 =>
    (s_DepartureOrder r14.1 r14.2).bind fun r16 =>
    (if (!(r15.2.2 == r16.2.2)) = true then some true else if (!(r15.2.1 == r16.2.1)) = true then some true else (v_rInts r15.1 r16.1).bind fun r17 =>
    some (!r17)).bind fun (v5 : Bool) =>
    if v5 = true then
     some false
    else
     flb (iter (v_FnTracks_L1 r15) ((0 : Int), r14.1.Sizes, r14.1.Tracks)) fun (_ : Unit) =>
     (s_DrawRunMoves code).bind fun r21 =>
     (i_RunMoves r21.1 r21.2.1 r21.2.2).bind fun r22 =>
     (s_RunMoves r21.1 r21.2.1 r21.2.2).bind fun r23 =>
     (if (r22.2.2 == r23.2.2) = true then if (r22.2.1 == r23.2.1) = true then (v_rDepots r22.1 r23.1).bind fun r24 =>
     some r24 else some false else some false).bind fun (d : Bool) =>
     some d
end Go.Proofs.Ytjahononbnbjnaa
