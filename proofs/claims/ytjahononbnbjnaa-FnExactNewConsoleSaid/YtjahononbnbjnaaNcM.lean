/- Models of the functions that the law reaches: plain Lean; none where the function would panic or not end. Made by program (dec.py). -/
import Derived.Test.YtjahononbnbjnaaAbC0
namespace Go.Proofs.Ytjahononbnbjnaa
open Go Go.Ab
set_option maxRecDepth 100000
set_option maxHeartbeats 4000000
set_option linter.unusedVariables false
set_option linter.unusedSimpArgs false
structure Line where
 Name : ByteArray
 Stops : List Int
 Runs : List Int
instance enc_Line : Enc Line := ⟨3, fun x => .agg [.sc (.string x.Name), Enc.e x.Stops, Enc.e x.Runs], fun a b h => by
 simp only [D.agg.injEq, List.cons.injEq, and_true] at h
 obtain ⟨a1, a2, a3⟩ := a
 obtain ⟨b1, b2, b3⟩ := b
 obtain ⟨h1, h2, h3⟩ := h
 have q1 := Enc.inj (α := ByteArray) a1 b1 h1
 have q2 := Enc.inj (α := List Int) a2 b2 h2
 have q3 := Enc.inj (α := List Int) a3 b3 h3
 subst q1; subst q2; subst q3; rfl⟩
structure Network where
 Stops : List ByteArray
 Lines : List Line
instance enc_Network : Enc Network := ⟨2, fun x => .agg [Enc.e x.Stops, Enc.e x.Lines], fun a b h => by
 simp only [D.agg.injEq, List.cons.injEq, and_true] at h
 obtain ⟨a1, a2⟩ := a
 obtain ⟨b1, b2⟩ := b
 obtain ⟨h1, h2⟩ := h
 have q1 := Enc.inj (α := List ByteArray) a1 b1 h1
 have q2 := Enc.inj (α := List Line) a2 b2 h2
 subst q1; subst q2; rfl⟩
structure Trip where
 Id : Int
 Line : Int
 Start : Int
instance enc_Trip : Enc Trip := ⟨3, fun x => .agg [.sc (.int .i64 x.Id), .sc (.int .i64 x.Line), .sc (.int .i64 x.Start)], fun a b h => by
 simp only [D.agg.injEq, List.cons.injEq, and_true] at h
 obtain ⟨a1, a2, a3⟩ := a
 obtain ⟨b1, b2, b3⟩ := b
 obtain ⟨h1, h2, h3⟩ := h
 have q1 := Enc.inj (α := Int) a1 b1 h1
 have q2 := Enc.inj (α := Int) a2 b2 h2
 have q3 := Enc.inj (α := Int) a3 b3 h3
 subst q1; subst q2; subst q3; rfl⟩
structure Timetable where
 Network : Network
 Trips : List Trip
instance enc_Timetable : Enc Timetable := ⟨3, fun x => .agg [Enc.e x.Network.Stops, Enc.e x.Network.Lines, Enc.e x.Trips], fun a b h => by
 simp only [D.agg.injEq, List.cons.injEq, and_true] at h
 obtain ⟨⟨a1, a2⟩, a3⟩ := a
 obtain ⟨⟨b1, b2⟩, b3⟩ := b
 obtain ⟨h1, h2, h3⟩ := h
 have q1 := Enc.inj (α := List ByteArray) a1 b1 h1
 have q2 := Enc.inj (α := List Line) a2 b2 h2
 have q3 := Enc.inj (α := List Trip) a3 b3 h3
 subst q1; subst q2; subst q3; rfl⟩
structure Log where
 Durable : ByteArray
 Pending : ByteArray
 Count : Int
instance enc_Log : Enc Log := ⟨3, fun x => .agg [.sc (.string x.Durable), .sc (.string x.Pending), .sc (.int .i64 x.Count)], fun a b h => by
 simp only [D.agg.injEq, List.cons.injEq, and_true] at h
 obtain ⟨a1, a2, a3⟩ := a
 obtain ⟨b1, b2, b3⟩ := b
 obtain ⟨h1, h2, h3⟩ := h
 have q1 := Enc.inj (α := ByteArray) a1 b1 h1
 have q2 := Enc.inj (α := ByteArray) a2 b2 h2
 have q3 := Enc.inj (α := Int) a3 b3 h3
 subst q1; subst q2; subst q3; rfl⟩
structure Console where
 Timetable : Timetable
 Change : Int
 Log : Log
instance enc_Console : Enc Console := ⟨7, fun x => .agg [Enc.e x.Timetable.Network.Stops, Enc.e x.Timetable.Network.Lines, Enc.e x.Timetable.Trips, .sc (.int .i64 x.Change), .sc (.string x.Log.Durable), .sc (.string x.Log.Pending), .sc (.int .i64 x.Log.Count)], fun a b h => by
 simp only [D.agg.injEq, List.cons.injEq, and_true] at h
 obtain ⟨⟨⟨a1, a2⟩, a3⟩, a4, ⟨a5, a6, a7⟩⟩ := a
 obtain ⟨⟨⟨b1, b2⟩, b3⟩, b4, ⟨b5, b6, b7⟩⟩ := b
 obtain ⟨h1, h2, h3, h4, h5, h6, h7⟩ := h
 have q1 := Enc.inj (α := List ByteArray) a1 b1 h1
 have q2 := Enc.inj (α := List Line) a2 b2 h2
 have q3 := Enc.inj (α := List Trip) a3 b3 h3
 have q4 := Enc.inj (α := Int) a4 b4 h4
 have q5 := Enc.inj (α := ByteArray) a5 b5 h5
 have q6 := Enc.inj (α := ByteArray) a6 b6 h6
 have q7 := Enc.inj (α := Int) a7 b7 h7
 subst q1; subst q2; subst q3; subst q4; subst q5; subst q6; subst q7; rfl⟩
instance : BxE Line := ⟨fun x y h => Enc.inj x y (congrArg D.agg h)⟩
instance : BxE Network := ⟨fun x y h => Enc.inj x y (congrArg D.agg h)⟩
instance : BxE Trip := ⟨fun x y h => Enc.inj x y (congrArg D.agg h)⟩
instance : BxE Timetable := ⟨fun x y h => Enc.inj x y (congrArg D.agg h)⟩
instance : BxE Log := ⟨fun x y h => Enc.inj x y (congrArg D.agg h)⟩
instance : BxE Console := ⟨fun x y h => Enc.inj x y (congrArg D.agg h)⟩
instance : FlatEnc Trip := ⟨fun _ => flatDB_ok rfl⟩
instance : FlatEnc Log := ⟨fun _ => flatDB_ok rfl⟩
noncomputable def v_szStringS_L1 (a : List ByteArray) : Int × Int → Option (Lp (Int × Int) (Fl (Int) (Int)))
 | (left1, v) =>
  if (decide (v < (a.length : Int))) = true then
   (idx a v).bind fun e =>
   if (decide ((w64 (left1 - (e.size : Int))) < 0)) = true then
    some (.dn (.ret (-1)))
   else
    some (.nx ((w64 (left1 - (e.size : Int))), (w64 (v + 1))))
  else
   some (.dn (.go left1))
noncomputable def v_szStringS (a : List ByteArray) (left : Int) : Option (Int) :=
 if (decide ((w64 (left - (a.length : Int))) < 0)) = true then
  some (-1)
 else
  flb (iter (v_szStringS_L1 a) ((w64 (left - (a.length : Int))), (0 : Int))) fun (left2 : Int) =>
  some left2
noncomputable def v_szIntS (a : List Int) (left : Int) : Option (Int) :=
 if (decide ((w64 (left - (a.length : Int))) < 0)) = true then
  some (-1)
 else
  some (w64 (left - (a.length : Int)))
noncomputable def v_szLine (a : Line) (left : Int) : Option (Int) :=
 if (decide ((w64 (left - (a.Name.size : Int))) < 0)) = true then
  some (-1)
 else
  (v_szIntS a.Stops (w64 (left - (a.Name.size : Int)))).bind fun r =>
  if (decide (r < 0)) = true then
   some (-1)
  else
   (v_szIntS a.Runs r).bind fun r1 =>
   if (decide (r1 < 0)) = true then
    some (-1)
   else
    some r1
noncomputable def v_szLineS_L1 (a : List Line) : Int × Int → Option (Lp (Int × Int) (Fl (Int) (Int)))
 | (left1, v) =>
  if (decide (v < (a.length : Int))) = true then
   (idx a v).bind fun e =>
   (v_szLine e left1).bind fun r =>
   if (decide (r < 0)) = true then
    some (.dn (.ret (-1)))
   else
    some (.nx (r, (w64 (v + 1))))
  else
   some (.dn (.go left1))
noncomputable def v_szLineS (a : List Line) (left : Int) : Option (Int) :=
 if (decide ((w64 (left - (a.length : Int))) < 0)) = true then
  some (-1)
 else
  flb (iter (v_szLineS_L1 a) ((w64 (left - (a.length : Int))), (0 : Int))) fun (left2 : Int) =>
  some left2
noncomputable def v_szNetwork (a : Network) (left : Int) : Option (Int) :=
 (v_szStringS a.Stops left).bind fun r =>
 if (decide (r < 0)) = true then
  some (-1)
 else
  (v_szLineS a.Lines r).bind fun r1 =>
  if (decide (r1 < 0)) = true then
   some (-1)
  else
   some r1
noncomputable def v_szTripS (a : List Trip) (left : Int) : Option (Int) :=
 if (decide ((w64 (left - (a.length : Int))) < 0)) = true then
  some (-1)
 else
  some (w64 (left - (a.length : Int)))
noncomputable def v_szTimetable (a : Timetable) (left : Int) : Option (Int) :=
 (v_szNetwork a.Network left).bind fun r =>
 if (decide (r < 0)) = true then
  some (-1)
 else
  (v_szTripS a.Trips r).bind fun r1 =>
  if (decide (r1 < 0)) = true then
   some (-1)
  else
   some r1
noncomputable def v_toStringS_L1 (a : List ByteArray) : Int × (List ByteArray) → Option (Lp (Int × (List ByteArray)) ((List ByteArray)))
 | (v, i) =>
  if (decide (v < (a.length : Int))) = true then
   (idx a v).bind fun e =>
   (idx i v).bind fun e1 =>
   some (.nx ((w64 (v + 1)), (i.set v.toNat e)))
  else
   some (.dn i)
noncomputable def v_toStringS (a : List ByteArray) : Option ((List ByteArray)) :=
 (chk ((0 : Int) ≤ (a.length : Int) ∧ ((a.length : Int) : Int) ≤ 4294967296)).bind fun u =>
 (iter (v_toStringS_L1 a) ((0 : Int), (List.replicate (a.length : Int).toNat (ByteArray.empty : ByteArray)))).bind fun (i1 : List ByteArray) =>
 some i1
noncomputable def v_toIntS_L1 (a : List Int) : Int × (List Int) → Option (Lp (Int × (List Int)) ((List Int)))
 | (v, i) =>
  if (decide (v < (a.length : Int))) = true then
   (idx a v).bind fun e =>
   (idx i v).bind fun e1 =>
   some (.nx ((w64 (v + 1)), (i.set v.toNat e)))
  else
   some (.dn i)
noncomputable def v_toIntS (a : List Int) : Option ((List Int)) :=
 (chk ((0 : Int) ≤ (a.length : Int) ∧ ((a.length : Int) : Int) ≤ 4294967296)).bind fun u =>
 (iter (v_toIntS_L1 a) ((0 : Int), (List.replicate (a.length : Int).toNat (0 : Int)))).bind fun (i1 : List Int) =>
 some i1
noncomputable def v_toLine (a : Line) : Option (Line) :=
 (v_toIntS a.Stops).bind fun r =>
 (v_toIntS a.Runs).bind fun r1 =>
 some (⟨a.Name, r, r1⟩ : Line)
noncomputable def v_toLineS_L1 (a : List Line) : Int × (List Line) → Option (Lp (Int × (List Line)) ((List Line)))
 | (v, i) =>
  if (decide (v < (a.length : Int))) = true then
   (idx a v).bind fun e =>
   (v_toLine e).bind fun r =>
   (idx i v).bind fun e1 =>
   some (.nx ((w64 (v + 1)), (i.set v.toNat r)))
  else
   some (.dn i)
noncomputable def v_toLineS (a : List Line) : Option ((List Line)) :=
 (chk ((0 : Int) ≤ (a.length : Int) ∧ ((a.length : Int) : Int) ≤ 4294967296)).bind fun u =>
 (iter (v_toLineS_L1 a) ((0 : Int), (List.replicate (a.length : Int).toNat ((⟨ByteArray.empty, ([] : List Int), ([] : List Int)⟩ : Line) : Line)))).bind fun (i1 : List Line) =>
 some i1
noncomputable def v_toNetwork (a : Network) : Option (Network) :=
 (v_toStringS a.Stops).bind fun r =>
 (v_toLineS a.Lines).bind fun r1 =>
 some (⟨r, r1⟩ : Network)
noncomputable def v_toTrip (a : Trip) : Option (Trip) :=
 some a
noncomputable def v_toTripS_L1 (a : List Trip) : Int × (List Trip) → Option (Lp (Int × (List Trip)) ((List Trip)))
 | (v, i) =>
  if (decide (v < (a.length : Int))) = true then
   (idx a v).bind fun e =>
   (v_toTrip e).bind fun r =>
   (idx i v).bind fun e1 =>
   some (.nx ((w64 (v + 1)), (i.set v.toNat r)))
  else
   some (.dn i)
noncomputable def v_toTripS (a : List Trip) : Option ((List Trip)) :=
 (chk ((0 : Int) ≤ (a.length : Int) ∧ ((a.length : Int) : Int) ≤ 4294967296)).bind fun u =>
 (iter (v_toTripS_L1 a) ((0 : Int), (List.replicate (a.length : Int).toNat ((⟨0, 0, 0⟩ : Trip) : Trip)))).bind fun (i1 : List Trip) =>
 some i1
noncomputable def v_toTimetable (a : Timetable) : Option (Timetable) :=
 (v_toNetwork a.Network).bind fun r =>
 (v_toTripS a.Trips).bind fun r1 =>
 some (⟨(⟨r.Stops, r.Lines⟩ : Network), r1⟩ : Timetable)
noncomputable def s_l1In (x : Int) (a : Int) (b : Int) : Option (Bool) :=
 (if (decide (a ≤ x)) = true then some (decide (x ≤ b)) else some false).bind fun (v : Bool) =>
 some v
noncomputable def s_l2Name_L1 (s : ByteArray) : Int → Option (Lp (Int) (Fl (Bool) (Unit)))
 | v1 =>
  if (decide (v1 < (s.size : Int))) = true then
   (chk ((0 : Int) ≤ v1 ∧ v1 < (s.size : Int))).bind fun u2 =>
   (if (decide (((s.data.toList.getD v1.toNat 0).toNat : Int) < 97)) = true then (chk ((0 : Int) ≤ v1 ∧ v1 < (s.size : Int))).bind fun u3 =>
   if (decide (((s.data.toList.getD v1.toNat 0).toNat : Int) < 48)) = true then some true else (chk ((0 : Int) ≤ v1 ∧ v1 < (s.size : Int))).bind fun u4 =>
   some (decide (57 < ((s.data.toList.getD v1.toNat 0).toNat : Int))) else (chk ((0 : Int) ≤ v1 ∧ v1 < (s.size : Int))).bind fun u5 =>
   if (decide (122 < ((s.data.toList.getD v1.toNat 0).toNat : Int))) = true then (chk ((0 : Int) ≤ v1 ∧ v1 < (s.size : Int))).bind fun u6 =>
   if (decide (((s.data.toList.getD v1.toNat 0).toNat : Int) < 48)) = true then some true else (chk ((0 : Int) ≤ v1 ∧ v1 < (s.size : Int))).bind fun u7 =>
   some (decide (57 < ((s.data.toList.getD v1.toNat 0).toNat : Int))) else some false).bind fun (v2 : Bool) =>
   if v2 = true then
    some (.dn (.ret false))
   else
    some (.nx (w64 (v1 + 1)))
  else
   some (.dn (.go ()))
noncomputable def s_l2Name (s : ByteArray) : Option (Bool) :=
 (s_l1In (s.size : Int) 1 8).bind fun r =>
 (if (!r) = true then some true else (chk ((0 : Int) ≤ 0 ∧ 0 < (s.size : Int))).bind fun u =>
 if (decide (((s.data.toList.getD (0 : Int).toNat 0).toNat : Int) < 97)) = true then some true else (chk ((0 : Int) ≤ 0 ∧ 0 < (s.size : Int))).bind fun u1 =>
 some (decide (122 < ((s.data.toList.getD (0 : Int).toNat 0).toNat : Int)))).bind fun (v : Bool) =>
 if v = true then
  some false
 else
  flb (iter (s_l2Name_L1 s) (0 : Int)) fun (_ : Unit) =>
  some true
noncomputable def s_l2Find_L1 (list : List ByteArray) (name : ByteArray) : Int → Option (Lp (Int) (Fl (Int) (Unit)))
 | v =>
  if (decide (v < (list.length : Int))) = true then
   (idx list v).bind fun e =>
   if (e.toList == name.toList) = true then
    some (.dn (.ret v))
   else
    some (.nx (w64 (v + 1)))
  else
   some (.dn (.go ()))
noncomputable def s_l2Find (list : List ByteArray) (name : ByteArray) : Option (Int) :=
 flb (iter (s_l2Find_L1 list name) (0 : Int)) fun (_ : Unit) =>
 some (-1)
noncomputable def s_l2Place_L1 (x : Line) (stop : Int) : Int → Option (Lp (Int) (Fl (Int) (Unit)))
 | v =>
  if (decide (v < (x.Stops.length : Int))) = true then
   (idx x.Stops v).bind fun e =>
   if (e == stop) = true then
    some (.dn (.ret v))
   else
    some (.nx (w64 (v + 1)))
  else
   some (.dn (.go ()))
noncomputable def s_l2Place (x : Line) (stop : Int) : Option (Int) :=
 flb (iter (s_l2Place_L1 x stop) (0 : Int)) fun (_ : Unit) =>
 some (-1)
noncomputable def s_l2Line_L1 (x : Line) (stops : Int) : Int → Option (Lp (Int) (Fl (Bool) (Unit)))
 | v1 =>
  if (decide (v1 < (x.Stops.length : Int))) = true then
   (idx x.Stops v1).bind fun e2 =>
   (s_l1In e2 0 (w64 (stops - 1))).bind fun r4 =>
   (if (!r4) = true then some true else (idx x.Stops v1).bind fun e3 =>
   (s_l2Place x e3).bind fun r5 =>
   some (r5 != v1)).bind fun (v2 : Bool) =>
   if v2 = true then
    some (.dn (.ret false))
   else
    some (.nx (w64 (v1 + 1)))
  else
   some (.dn (.go ()))
noncomputable def s_l2Line_L2 (x : Line) : Int → Option (Lp (Int) (Fl (Bool) (Unit)))
 | v3 =>
  if (decide (v3 < (x.Runs.length : Int))) = true then
   (idx x.Runs v3).bind fun e5 =>
   (s_l1In e5 1 60).bind fun r7 =>
   if (!r7) = true then
    some (.dn (.ret false))
   else
    some (.nx (w64 (v3 + 1)))
  else
   some (.dn (.go ()))
noncomputable def s_l2Line (x : Line) (stops : Int) : Option (Bool) :=
 (s_l2Name x.Name).bind fun r =>
 (if (!r) = true then some true else (s_l1In (x.Stops.length : Int) 2 6).bind fun r1 =>
 if (!r1) = true then some true else some ((x.Runs.length : Int) != (w64 ((x.Stops.length : Int) - 1)))).bind fun (v : Bool) =>
 if v = true then
  some false
 else
  flb (iter (s_l2Line_L1 x stops) (0 : Int)) fun (_ : Unit) =>
  flb (iter (s_l2Line_L2 x) (0 : Int)) fun (_ : Unit) =>
  some true
noncomputable def s_l2LineNamed_L1 (n : Network) (name : ByteArray) : Int → Option (Lp (Int) (Fl (Int) (Unit)))
 | v =>
  if (decide (v < (n.Lines.length : Int))) = true then
   (idx n.Lines v).bind fun e =>
   if (e.Name.toList == name.toList) = true then
    some (.dn (.ret v))
   else
    some (.nx (w64 (v + 1)))
  else
   some (.dn (.go ()))
noncomputable def s_l2LineNamed (n : Network) (name : ByteArray) : Option (Int) :=
 flb (iter (s_l2LineNamed_L1 n name) (0 : Int)) fun (_ : Unit) =>
 some (-1)
noncomputable def s_l2Good_L1 (n : Network) : Int → Option (Lp (Int) (Fl (Bool) (Unit)))
 | i =>
  if (decide (i < (n.Stops.length : Int))) = true then
   (idx n.Stops i).bind fun e2 =>
   (s_l2Name e2).bind fun r4 =>
   (if (!r4) = true then some true else (idx n.Stops i).bind fun e3 =>
   (s_l2Find n.Stops e3).bind fun r5 =>
   some (r5 != i)).bind fun (v1 : Bool) =>
   if v1 = true then
    some (.dn (.ret false))
   else
    some (.nx (w64 (i + 1)))
  else
   some (.dn (.go ()))
noncomputable def s_l2Good_L2 (n : Network) : Int → Option (Lp (Int) (Fl (Bool) (Unit)))
 | v2 =>
  if (decide (v2 < (n.Lines.length : Int))) = true then
   (idx n.Lines v2).bind fun e7 =>
   (s_l2Line e7 (n.Stops.length : Int)).bind fun r9 =>
   (if (!r9) = true then some true else (idx n.Lines v2).bind fun e8 =>
   (s_l2LineNamed n e8.Name).bind fun r10 =>
   some (r10 != v2)).bind fun (v3 : Bool) =>
   if v3 = true then
    some (.dn (.ret false))
   else
    some (.nx (w64 (v2 + 1)))
  else
   some (.dn (.go ()))
noncomputable def s_l2Good (n : Network) : Option (Bool) :=
 (s_l1In (n.Stops.length : Int) 2 8).bind fun r =>
 (if (!r) = true then some true else (s_l1In (n.Lines.length : Int) 1 5).bind fun r1 =>
 some (!r1)).bind fun (v : Bool) =>
 if v = true then
  some false
 else
  flb (iter (s_l2Good_L1 n) (0 : Int)) fun (_ : Unit) =>
  flb (iter (s_l2Good_L2 n) (0 : Int)) fun (_ : Unit) =>
  some true
noncomputable def s_l4Time (t : Int) : Option (Bool) :=
 (s_l1In t 0 1799).bind fun r =>
 some r
noncomputable def s_l5Line (t : Timetable) (i : Int) : Option (Line) :=
 (idx t.Trips i).bind fun e2 =>
 (idx t.Network.Lines e2.Line).bind fun e3 =>
 some e3
noncomputable def s_l5Stops (t : Timetable) (i : Int) : Option ((List Int)) :=
 (s_l5Line t i).bind fun r =>
 some r.Stops
noncomputable def s_l2Run_L1 (x : Line) (to_ : Int) : Int × Int → Option (Lp (Int × Int) (Int))
 | (v, v1) =>
  if (decide (v1 < to_)) = true then
   (idx x.Runs v1).bind fun e =>
   some (.nx ((w64 (v + e)), (w64 (v1 + 1))))
  else
   some (.dn v)
noncomputable def s_l2Run (x : Line) (from_ : Int) (to_ : Int) : Option (Int) :=
 (iter (s_l2Run_L1 x to_) ((0 : Int), from_)).bind fun (v2 : Int) =>
 some v2
noncomputable def s_l5At (t : Timetable) (i : Int) (k : Int) : Option (Int) :=
 (idx t.Trips i).bind fun e1 =>
 (s_l5Line t i).bind fun r2 =>
 (s_l2Run r2 0 k).bind fun r3 =>
 some (w64 (e1.Start + r3))
noncomputable def s_l5End (t : Timetable) (i : Int) : Option (Int) :=
 (s_l5Stops t i).bind fun r2 =>
 (s_l5At t i (w64 ((r2.length : Int) - 1))).bind fun r3 =>
 some r3
noncomputable def s_l5Good_L1 (t : Timetable) : Int → Option (Lp (Int) (Fl (Bool) (Unit)))
 | x =>
  if (decide (x < (t.Trips.length : Int))) = true then
   (idx t.Trips x).bind fun e =>
   (s_l1In e.Id 1 999).bind fun r6 =>
   (if (!r6) = true then some true else (s_l1In e.Line 0 (w64 ((t.Network.Lines.length : Int) - 1))).bind fun r7 =>
   if (!r7) = true then some true else (s_l4Time e.Start).bind fun r8 =>
   if (!r8) = true then some true else (s_l5End t x).bind fun r9 =>
   (s_l4Time r9).bind fun r10 =>
   if (!r10) = true then some true else if (decide (0 < x)) = true then (idx t.Trips (w64 (x - 1))).bind fun e2 =>
   some (decide (e.Id ≤ e2.Id)) else some false).bind fun (v1 : Bool) =>
   if v1 = true then
    some (.dn (.ret false))
   else
    some (.nx (w64 (x + 1)))
  else
   some (.dn (.go ()))
noncomputable def s_l5Good (t : Timetable) : Option (Bool) :=
 (s_l2Good t.Network).bind fun r =>
 (if (!r) = true then some true else some (decide (12 < (t.Trips.length : Int)))).bind fun (v : Bool) =>
 if v = true then
  some false
 else
  flb (iter (s_l5Good_L1 t) (0 : Int)) fun (_ : Unit) =>
  some true
noncomputable def s_l1Own (l : List Int) : Option ((List Int)) :=
 (chk (([] : List Int).length + l.length ≤ 4294967296)).bind fun u =>
 some (([] : List Int) ++ l)
noncomputable def s_l1Own_f (l : List Int) : Option ((List Int)) :=
 (chk (([] : List Int).length + l.length ≤ 4294967296)).bind fun u =>
 some (([] : List Int) ++ l)
noncomputable def s_l2Own_L1 (n : Network) : Int × (List Line) → Option (Lp (Int × (List Line)) ((List Line)))
 | (v, v1) =>
  if (decide (v < (n.Lines.length : Int))) = true then
   (idx n.Lines v).bind fun e3 =>
   (idx n.Lines v).bind fun e4 =>
   (s_l1Own_f e4.Stops).bind fun r2 =>
   (idx n.Lines v).bind fun e5 =>
   (s_l1Own_f e5.Runs).bind fun r3 =>
   (chk (v1.length + ([(⟨e3.Name, r2, r3⟩ : Line)] : List Line).length ≤ 4294967296)).bind fun u2 =>
   some (.nx ((w64 (v + 1)), (v1 ++ ([(⟨e3.Name, r2, r3⟩ : Line)] : List Line))))
  else
   some (.dn v1)
noncomputable def s_l2Own (n : Network) : Option (Network) :=
 (chk (([] : List ByteArray).length + n.Stops.length ≤ 4294967296)).bind fun u =>
 (iter (s_l2Own_L1 n) ((0 : Int), ([] : List Line))).bind fun (v2 : List Line) =>
 some (⟨(([] : List ByteArray) ++ n.Stops), v2⟩ : Network)
noncomputable def s_l5Own (t : Timetable) : Option (Timetable) :=
 (s_l2Own t.Network).bind fun r1 =>
 (chk (([] : List Trip).length + t.Trips.length ≤ 4294967296)).bind fun u1 =>
 some (⟨(⟨r1.Stops, r1.Lines⟩ : Network), (([] : List Trip) ++ t.Trips)⟩ : Timetable)
noncomputable def s_NewConsole (t : Timetable) : Option (Console × Bool) :=
 (s_l5Good t).bind fun r =>
 if (!r) = true then
  some ((⟨(⟨(⟨([] : List ByteArray), ([] : List Line)⟩ : Network), ([] : List Trip)⟩ : Timetable), 0, (⟨ByteArray.empty, ByteArray.empty, 0⟩ : Log)⟩ : Console), false)
 else
  (s_l5Own t).bind fun r1 =>
  some ((⟨(⟨(⟨r1.Network.Stops, r1.Network.Lines⟩ : Network), r1.Trips⟩ : Timetable), 3, (⟨ByteArray.empty, ByteArray.empty, 0⟩ : Log)⟩ : Console), true)
noncomputable def i_within (n : Int) (lo : Int) (hi : Int) : Option (Bool) :=
 (if (decide (lo ≤ n)) = true then some (decide (n ≤ hi)) else some false).bind fun (v : Bool) =>
 some v
noncomputable def i_isName_L1 (s : ByteArray) : Int → Option (Lp (Int) (Fl (Bool) (Unit)))
 | v1 =>
  if (decide (v1 < (s.size : Int))) = true then
   (chk ((0 : Int) ≤ v1 ∧ v1 < (s.size : Int))).bind fun u =>
   (if (decide (97 ≤ ((s.data.toList.getD v1.toNat 0).toNat : Int))) = true then (chk ((0 : Int) ≤ v1 ∧ v1 < (s.size : Int))).bind fun u1 =>
   some (decide (((s.data.toList.getD v1.toNat 0).toNat : Int) ≤ 122)) else some false).bind fun (v2 : Bool) =>
   (if (!v2) = true then if (v1 == 0) = true then some true else (chk ((0 : Int) ≤ v1 ∧ v1 < (s.size : Int))).bind fun u2 =>
   if (decide (((s.data.toList.getD v1.toNat 0).toNat : Int) < 48)) = true then some true else (chk ((0 : Int) ≤ v1 ∧ v1 < (s.size : Int))).bind fun u3 =>
   some (decide (57 < ((s.data.toList.getD v1.toNat 0).toNat : Int))) else some false).bind fun (v3 : Bool) =>
   if v3 = true then
    some (.dn (.ret false))
   else
    some (.nx (w64 (v1 + 1)))
  else
   some (.dn (.go ()))
noncomputable def i_isName (s : ByteArray) : Option (Bool) :=
 (if (decide ((s.size : Int) < 1)) = true then some true else some (decide (8 < (s.size : Int)))).bind fun (v : Bool) =>
 if v = true then
  some false
 else
  flb (iter (i_isName_L1 s) (0 : Int)) fun (_ : Unit) =>
  some true
noncomputable def slices_Index_string_L1 (s : List ByteArray) (v : ByteArray) : Int → Option (Lp (Int) (Fl (Int) (Unit)))
 | v1 =>
  if (decide (v1 < (s.length : Int))) = true then
   (idx s v1).bind fun e =>
   if (v.toList == e.toList) = true then
    some (.dn (.ret v1))
   else
    some (.nx (w64 (v1 + 1)))
  else
   some (.dn (.go ()))
noncomputable def slices_Index_string (s : List ByteArray) (v : ByteArray) : Option (Int) :=
 flb (iter (slices_Index_string_L1 s v) (0 : Int)) fun (_ : Unit) =>
 some (-1)
noncomputable def i_areNames_L1 (names : List ByteArray) : Int → Option (Lp (Int) (Fl (Bool) (Unit)))
 | v =>
  if (decide (v < (names.length : Int))) = true then
   (idx names v).bind fun e =>
   (i_isName e).bind fun r =>
   (if (!r) = true then some true else (slices_Index_string names e).bind fun r1 =>
   some (r1 != v)).bind fun (v1 : Bool) =>
   if v1 = true then
    some (.dn (.ret false))
   else
    some (.nx (w64 (v + 1)))
  else
   some (.dn (.go ()))
noncomputable def i_areNames (names : List ByteArray) : Option (Bool) :=
 flb (iter (i_areNames_L1 names) (0 : Int)) fun (_ : Unit) =>
 some true
noncomputable def i_lineNames_L1 (n : Network) : Int × (List ByteArray) → Option (Lp (Int × (List ByteArray)) ((List ByteArray)))
 | (v, i) =>
  if (decide (v < (n.Lines.length : Int))) = true then
   (idx n.Lines v).bind fun e =>
   (idx i v).bind fun e1 =>
   some (.nx ((w64 (v + 1)), (i.set v.toNat e.Name)))
  else
   some (.dn i)
noncomputable def i_lineNames (n : Network) : Option ((List ByteArray)) :=
 (chk ((0 : Int) ≤ (n.Lines.length : Int) ∧ ((n.Lines.length : Int) : Int) ≤ 4294967296)).bind fun u =>
 (iter (i_lineNames_L1 n) ((0 : Int), (List.replicate (n.Lines.length : Int).toNat (ByteArray.empty : ByteArray)))).bind fun (i1 : List ByteArray) =>
 some i1
noncomputable def i_isStop (n : Network) (stop : Int) : Option (Bool) :=
 (if (decide (0 ≤ stop)) = true then some (decide (stop < (n.Stops.length : Int))) else some false).bind fun (v : Bool) =>
 some v
noncomputable def slices_Index_int_L1 (s : List Int) (v : Int) : Int → Option (Lp (Int) (Fl (Int) (Unit)))
 | v1 =>
  if (decide (v1 < (s.length : Int))) = true then
   (idx s v1).bind fun e =>
   if (v == e) = true then
    some (.dn (.ret v1))
   else
    some (.nx (w64 (v1 + 1)))
  else
   some (.dn (.go ()))
noncomputable def slices_Index_int (s : List Int) (v : Int) : Option (Int) :=
 flb (iter (slices_Index_int_L1 s v) (0 : Int)) fun (_ : Unit) =>
 some (-1)
noncomputable def i_isValidLine_L1 (n : Network) (l : Line) : Int → Option (Lp (Int) (Fl (Bool) (Unit)))
 | v1 =>
  if (decide (v1 < (l.Stops.length : Int))) = true then
   (idx l.Stops v1).bind fun e =>
   (i_isStop n e).bind fun r1 =>
   (if (!r1) = true then some true else (slices_Index_int l.Stops e).bind fun r2 =>
   some (r2 != v1)).bind fun (v2 : Bool) =>
   if v2 = true then
    some (.dn (.ret false))
   else
    some (.nx (w64 (v1 + 1)))
  else
   some (.dn (.go ()))
noncomputable def i_isValidLine_L2 (l : Line) : Int → Option (Lp (Int) (Fl (Bool) (Unit)))
 | v3 =>
  if (decide (v3 < (l.Runs.length : Int))) = true then
   (idx l.Runs v3).bind fun e2 =>
   (i_within e2 1 60).bind fun r4 =>
   if (!r4) = true then
    some (.dn (.ret false))
   else
    some (.nx (w64 (v3 + 1)))
  else
   some (.dn (.go ()))
noncomputable def i_isValidLine (n : Network) (l : Line) : Option (Bool) :=
 (i_within (l.Stops.length : Int) 2 6).bind fun r =>
 (if (!r) = true then some true else some ((l.Runs.length : Int) != (w64 ((l.Stops.length : Int) - 1)))).bind fun (v : Bool) =>
 if v = true then
  some false
 else
  flb (iter (i_isValidLine_L1 n l) (0 : Int)) fun (_ : Unit) =>
  flb (iter (i_isValidLine_L2 l) (0 : Int)) fun (_ : Unit) =>
  some true
noncomputable def i_IsValidNetwork_L1 (n : Network) : Int → Option (Lp (Int) (Fl (Bool) (Unit)))
 | v1 =>
  if (decide (v1 < (n.Lines.length : Int))) = true then
   (idx n.Lines v1).bind fun e =>
   (i_isValidLine n e).bind fun r5 =>
   if (!r5) = true then
    some (.dn (.ret false))
   else
    some (.nx (w64 (v1 + 1)))
  else
   some (.dn (.go ()))
noncomputable def i_IsValidNetwork (n : Network) : Option (Bool) :=
 (i_within (n.Stops.length : Int) 2 8).bind fun r =>
 (if (!r) = true then some true else (i_within (n.Lines.length : Int) 1 5).bind fun r1 =>
 if (!r1) = true then some true else (i_areNames n.Stops).bind fun r2 =>
 if (!r2) = true then some true else (i_lineNames n).bind fun r3 =>
 (i_areNames r3).bind fun r4 =>
 some (!r4)).bind fun (v : Bool) =>
 if v = true then
  some false
 else
  flb (iter (i_IsValidNetwork_L1 n) (0 : Int)) fun (_ : Unit) =>
  some true
noncomputable def i_isLine (n : Network) (line : Int) : Option (Bool) :=
 (if (decide (0 ≤ line)) = true then some (decide (line < (n.Lines.length : Int))) else some false).bind fun (v : Bool) =>
 some v
noncomputable def i_IsValidTime (t : Int) : Option (Bool) :=
 (i_within t 0 1799).bind fun r =>
 some r
noncomputable def i_total_L1 (list : List Int) : Int × Int → Option (Lp (Int × Int) (Int))
 | (v, v1) =>
  if (decide (v1 < (list.length : Int))) = true then
   (idx list v1).bind fun e =>
   some (.nx ((w64 (v + e)), (w64 (v1 + 1))))
  else
   some (.dn v)
noncomputable def i_total (list : List Int) : Option (Int) :=
 (iter (i_total_L1 list) ((0 : Int), (0 : Int))).bind fun (v2 : Int) =>
 some v2
noncomputable def i_endOf (t : Timetable) (x : Trip) : Option (Int) :=
 (idx t.Network.Lines x.Line).bind fun e1 =>
 (i_total e1.Runs).bind fun r1 =>
 some (w64 (x.Start + r1))
noncomputable def i_areTrips_L1 (t : Timetable) : Int × Int → Option (Lp (Int × Int) (Fl (Bool) (Unit)))
 | (v, v1) =>
  if (decide (v1 < (t.Trips.length : Int))) = true then
   (idx t.Trips v1).bind fun e =>
   (if (decide (e.Id ≤ v)) = true then some true else if (decide (999 < e.Id)) = true then some true else (i_isLine t.Network e.Line).bind fun r =>
   if (!r) = true then some true else (i_IsValidTime e.Start).bind fun r1 =>
   if (!r1) = true then some true else (i_endOf t e).bind fun r2 =>
   (i_IsValidTime r2).bind fun r3 =>
   some (!r3)).bind fun (v2 : Bool) =>
   if v2 = true then
    some (.dn (.ret false))
   else
    some (.nx (e.Id, (w64 (v1 + 1))))
  else
   some (.dn (.go ()))
noncomputable def i_areTrips (t : Timetable) : Option (Bool) :=
 if (decide (12 < (t.Trips.length : Int))) = true then
  some false
 else
  flb (iter (i_areTrips_L1 t) ((0 : Int), (0 : Int))) fun (_ : Unit) =>
  some true
noncomputable def i_IsValidTimetable (t : Timetable) : Option (Bool) :=
 (i_IsValidNetwork t.Network).bind fun r =>
 (if r = true then (i_areTrips t).bind fun r1 =>
 some r1 else some false).bind fun (v : Bool) =>
 some v
noncomputable def slices_Clone_string (s : List ByteArray) : Option ((List ByteArray)) :=
 (chk (([] : List ByteArray).length + s.length ≤ 4294967296)).bind fun u =>
 some s
noncomputable def slices_Clone_int (s : List Int) : Option ((List Int)) :=
 (chk (([] : List Int).length + s.length ≤ 4294967296)).bind fun u =>
 some s
noncomputable def i_copyLine (l : Line) : Option (Line) :=
 (slices_Clone_int l.Stops).bind fun r2 =>
 (slices_Clone_int l.Runs).bind fun r3 =>
 some (⟨l.Name, r2, r3⟩ : Line)
noncomputable def i_copyNetwork_L1 (n : Network) : Int × (List Line) → Option (Lp (Int × (List Line)) ((List Line)))
 | (v, v1) =>
  if (decide (v < (n.Lines.length : Int))) = true then
   (idx n.Lines v).bind fun e =>
   (i_copyLine e).bind fun r3 =>
   (idx v1 v).bind fun e2 =>
   some (.nx ((w64 (v + 1)), (v1.set v.toNat r3)))
  else
   some (.dn v1)
noncomputable def i_copyNetwork (n : Network) : Option (Network) :=
 (slices_Clone_string n.Stops).bind fun r1 =>
 (chk ((0 : Int) ≤ (n.Lines.length : Int) ∧ ((n.Lines.length : Int) : Int) ≤ 4294967296)).bind fun u1 =>
 (iter (i_copyNetwork_L1 n) ((0 : Int), (List.replicate (n.Lines.length : Int).toNat ((⟨ByteArray.empty, ([] : List Int), ([] : List Int)⟩ : Line) : Line)))).bind fun (v2 : List Line) =>
 some (⟨r1, v2⟩ : Network)
noncomputable def slices_Clone_Trip (s : List Trip) : Option ((List Trip)) :=
 (chk (([] : List Trip).length + s.length ≤ 4294967296)).bind fun u =>
 some s
noncomputable def i_copyTimetable (t : Timetable) : Option (Timetable) :=
 (i_copyNetwork t.Network).bind fun r2 =>
 (slices_Clone_Trip t.Trips).bind fun r3 =>
 some (⟨(⟨r2.Stops, r2.Lines⟩ : Network), r3⟩ : Timetable)
noncomputable def i_NewConsole (t : Timetable) : Option (Console × Bool) :=
 (i_IsValidTimetable t).bind fun r =>
 if (!r) = true then
  some ((⟨(⟨(⟨([] : List ByteArray), ([] : List Line)⟩ : Network), ([] : List Trip)⟩ : Timetable), 0, (⟨ByteArray.empty, ByteArray.empty, 0⟩ : Log)⟩ : Console), false)
 else
  (i_copyTimetable t).bind fun r1 =>
  some ((⟨(⟨(⟨r1.Network.Stops, r1.Network.Lines⟩ : Network), r1.Trips⟩ : Timetable), 3, (⟨ByteArray.empty, ByteArray.empty, 0⟩ : Log)⟩ : Console), true)
noncomputable def v_eqStringS_L1 (a : List ByteArray) (b : List ByteArray) : Int → Option (Lp (Int) (Fl (Bool) (Unit)))
 | v =>
  if (decide (v < (a.length : Int))) = true then
   (idx a v).bind fun e2 =>
   (idx b v).bind fun e3 =>
   if (!(e2.toList == e3.toList)) = true then
    some (.dn (.ret false))
   else
    some (.nx (w64 (v + 1)))
  else
   some (.dn (.go ()))
noncomputable def v_eqStringS (a : List ByteArray) (b : List ByteArray) : Option (Bool) :=
 if ((a.length : Int) != (b.length : Int)) = true then
  some false
 else
  flb (iter (v_eqStringS_L1 a b) (0 : Int)) fun (_ : Unit) =>
  some true
noncomputable def v_eqIntS_L1 (a : List Int) (b : List Int) : Int → Option (Lp (Int) (Fl (Bool) (Unit)))
 | v =>
  if (decide (v < (a.length : Int))) = true then
   (idx a v).bind fun e2 =>
   (idx b v).bind fun e3 =>
   if (e2 != e3) = true then
    some (.dn (.ret false))
   else
    some (.nx (w64 (v + 1)))
  else
   some (.dn (.go ()))
noncomputable def v_eqIntS (a : List Int) (b : List Int) : Option (Bool) :=
 if ((a.length : Int) != (b.length : Int)) = true then
  some false
 else
  flb (iter (v_eqIntS_L1 a b) (0 : Int)) fun (_ : Unit) =>
  some true
noncomputable def v_eqLine (a : Line) (b : Line) : Option (Bool) :=
 if (!(a.Name.toList == b.Name.toList)) = true then
  some false
 else
  (v_eqIntS a.Stops b.Stops).bind fun r =>
  if (!r) = true then
   some false
  else
   (v_eqIntS a.Runs b.Runs).bind fun r1 =>
   if (!r1) = true then
    some false
   else
    some true
noncomputable def v_eqLineS_L1 (a : List Line) (b : List Line) : Int → Option (Lp (Int) (Fl (Bool) (Unit)))
 | v =>
  if (decide (v < (a.length : Int))) = true then
   (idx a v).bind fun e2 =>
   (idx b v).bind fun e3 =>
   (v_eqLine e2 e3).bind fun r1 =>
   if (!r1) = true then
    some (.dn (.ret false))
   else
    some (.nx (w64 (v + 1)))
  else
   some (.dn (.go ()))
noncomputable def v_eqLineS (a : List Line) (b : List Line) : Option (Bool) :=
 if ((a.length : Int) != (b.length : Int)) = true then
  some false
 else
  flb (iter (v_eqLineS_L1 a b) (0 : Int)) fun (_ : Unit) =>
  some true
noncomputable def v_eqNetwork (a : Network) (b : Network) : Option (Bool) :=
 (v_eqStringS a.Stops b.Stops).bind fun r =>
 if (!r) = true then
  some false
 else
  (v_eqLineS a.Lines b.Lines).bind fun r1 =>
  if (!r1) = true then
   some false
  else
   some true
noncomputable def v_eqTrip (a : Trip) (b : Trip) : Option (Bool) :=
 if (a.Id != b.Id) = true then
  some false
 else
  if (a.Line != b.Line) = true then
   some false
  else
   if (a.Start != b.Start) = true then
    some false
   else
    some true
noncomputable def v_eqTripS_L1 (a : List Trip) (b : List Trip) : Int → Option (Lp (Int) (Fl (Bool) (Unit)))
 | v =>
  if (decide (v < (a.length : Int))) = true then
   (idx a v).bind fun e2 =>
   (idx b v).bind fun e3 =>
   (v_eqTrip e2 e3).bind fun r1 =>
   if (!r1) = true then
    some (.dn (.ret false))
   else
    some (.nx (w64 (v + 1)))
  else
   some (.dn (.go ()))
noncomputable def v_eqTripS (a : List Trip) (b : List Trip) : Option (Bool) :=
 if ((a.length : Int) != (b.length : Int)) = true then
  some false
 else
  flb (iter (v_eqTripS_L1 a b) (0 : Int)) fun (_ : Unit) =>
  some true
noncomputable def v_eqTimetable (a : Timetable) (b : Timetable) : Option (Bool) :=
 (v_eqNetwork a.Network b.Network).bind fun r =>
 if (!r) = true then
  some false
 else
  (v_eqTripS a.Trips b.Trips).bind fun r1 =>
  if (!r1) = true then
   some false
  else
   some true
noncomputable def v_eqLog (a : Log) (b : Log) : Option (Bool) :=
 if (!(a.Durable.toList == b.Durable.toList)) = true then
  some false
 else
  if (!(a.Pending.toList == b.Pending.toList)) = true then
   some false
  else
   if (a.Count != b.Count) = true then
    some false
   else
    some true
noncomputable def v_eqConsole (a : Console) (b : Console) : Option (Bool) :=
 (v_eqTimetable a.Timetable b.Timetable).bind fun r =>
 if (!r) = true then
  some false
 else
  if (a.Change != b.Change) = true then
   some false
  else
   (v_eqLog a.Log b.Log).bind fun r1 =>
   if (!r1) = true then
    some false
   else
    some true
noncomputable def v_markText_L1 : Int × ByteArray → Option (Lp (Int × ByteArray) (ByteArray))
 | (k1, v) =>
  if (decide (0 < k1)) = true then
   (chk ((10 : Int) ≠ 0)).bind fun u =>
   (chk ((bytS ([(mkU8 (IntKind.u8.wrap ((w64 (48 + (k1.tmod 10))))))] : List UInt8)).size + v.size ≤ 4294967296)).bind fun u1 =>
   (chk ((10 : Int) ≠ 0)).bind fun u2 =>
   some (.nx ((w64 (k1.tdiv 10)), ((bytS ([(mkU8 (IntKind.u8.wrap ((w64 (48 + (k1.tmod 10))))))] : List UInt8)) ++ v)))
  else
   some (.dn v)
noncomputable def v_markText (k : Int) : Option (ByteArray) :=
 if (decide (k ≤ 0)) = true then
  some (str [109, 48])
 else
  (iter (v_markText_L1) (k, (str []))).bind fun (v1 : ByteArray) =>
  (chk ((str [109]).size + v1.size ≤ 4294967296)).bind fun u3 =>
  some ((str [109]) ++ v1)
noncomputable def v_markStringS_w_L1 : Int × Int × (List ByteArray) → Option (Lp (Int × Int × (List ByteArray)) (Int × (List ByteArray)))
 | (k1, v, a1) =>
  if (decide (v < (a1.length : Int))) = true then
   (v_markText k1).bind fun r =>
   (idx a1 v).bind fun e =>
   some (.nx ((w64 (k1 + 1)), (w64 (v + 1)), (a1.set v.toNat r)))
  else
   some (.dn (k1, a1))
noncomputable def v_markStringS_w (a : List ByteArray) (k : Int) : Option (Int × (List ByteArray)) :=
 (iter (v_markStringS_w_L1) (k, (0 : Int), a)).bind fun ((k2, a2) : Int × (List ByteArray)) =>
 some (k2, a2)
noncomputable def v_markIntS_w_L1 : Int × Int × (List Int) → Option (Lp (Int × Int × (List Int)) (Int × (List Int)))
 | (k1, v, a1) =>
  if (decide (v < (a1.length : Int))) = true then
   (idx a1 v).bind fun e =>
   some (.nx ((w64 (k1 + 1)), (w64 (v + 1)), (a1.set v.toNat k1)))
  else
   some (.dn (k1, a1))
noncomputable def v_markIntS_w (a : List Int) (k : Int) : Option (Int × (List Int)) :=
 (iter (v_markIntS_w_L1) (k, (0 : Int), a)).bind fun ((k2, a2) : Int × (List Int)) =>
 some (k2, a2)
noncomputable def v_markLineS_w_L1 : Int × Int × (List Line) → Option (Lp (Int × Int × (List Line)) (Int × (List Line)))
 | (k1, v, a1) =>
  if (decide (v < (a1.length : Int))) = true then
   (v_markText k1).bind fun r =>
   (idx a1 v).bind fun e =>
   (idx (a1.set v.toNat (⟨r, e.Stops, e.Runs⟩ : Line)) v).bind fun e1 =>
   (v_markIntS_w ((⟨r, e.Stops, e.Runs⟩ : Line).Stops) (w64 (k1 + 1))).bind fun r1 =>
   (idx ((a1.set v.toNat (⟨r, e.Stops, e.Runs⟩ : Line)).set v.toNat (⟨((⟨r, e.Stops, e.Runs⟩ : Line).Name), r1.2, ((⟨r, e.Stops, e.Runs⟩ : Line).Runs)⟩ : Line)) v).bind fun e2 =>
   (v_markIntS_w ((⟨((⟨r, e.Stops, e.Runs⟩ : Line).Name), r1.2, ((⟨r, e.Stops, e.Runs⟩ : Line).Runs)⟩ : Line).Runs) r1.1).bind fun r2 =>
   some (.nx (r2.1, (w64 (v + 1)), (((a1.set v.toNat (⟨r, e.Stops, e.Runs⟩ : Line)).set v.toNat (⟨((⟨r, e.Stops, e.Runs⟩ : Line).Name), r1.2, ((⟨r, e.Stops, e.Runs⟩ : Line).Runs)⟩ : Line)).set v.toNat (⟨((⟨((⟨r, e.Stops, e.Runs⟩ : Line).Name), r1.2, ((⟨r, e.Stops, e.Runs⟩ : Line).Runs)⟩ : Line).Name), ((⟨((⟨r, e.Stops, e.Runs⟩ : Line).Name), r1.2, ((⟨r, e.Stops, e.Runs⟩ : Line).Runs)⟩ : Line).Stops), r2.2⟩ : Line))))
  else
   some (.dn (k1, a1))
noncomputable def v_markLineS_w (a : List Line) (k : Int) : Option (Int × (List Line)) :=
 (iter (v_markLineS_w_L1) (k, (0 : Int), a)).bind fun ((k2, a2) : Int × (List Line)) =>
 some (k2, a2)
noncomputable def v_markNetwork_a (a : Network) (k : Int) : Option (Int × (List ByteArray) × (List Line)) :=
 (v_markStringS_w a.Stops k).bind fun r =>
 (v_markLineS_w a.Lines r.1).bind fun r1 =>
 some (r1.1, r.2, r1.2)
noncomputable def v_markTripS_w_L1 : Int × Int × (List Trip) → Option (Lp (Int × Int × (List Trip)) (Int × (List Trip)))
 | (k1, v, a1) =>
  if (decide (v < (a1.length : Int))) = true then
   (idx a1 v).bind fun e =>
   (idx (a1.set v.toNat (⟨k1, e.Line, e.Start⟩ : Trip)) v).bind fun e1 =>
   (idx ((a1.set v.toNat (⟨k1, e.Line, e.Start⟩ : Trip)).set v.toNat (⟨e1.Id, (w64 (k1 + 1)), e1.Start⟩ : Trip)) v).bind fun e2 =>
   some (.nx ((w64 ((w64 ((w64 (k1 + 1)) + 1)) + 1)), (w64 (v + 1)), (((a1.set v.toNat (⟨k1, e.Line, e.Start⟩ : Trip)).set v.toNat (⟨e1.Id, (w64 (k1 + 1)), e1.Start⟩ : Trip)).set v.toNat (⟨e2.Id, e2.Line, (w64 ((w64 (k1 + 1)) + 1))⟩ : Trip))))
  else
   some (.dn (k1, a1))
noncomputable def v_markTripS_w (a : List Trip) (k : Int) : Option (Int × (List Trip)) :=
 (iter (v_markTripS_w_L1) (k, (0 : Int), a)).bind fun ((k2, a2) : Int × (List Trip)) =>
 some (k2, a2)
noncomputable def v_markTimetable_a (a : Timetable) (k : Int) : Option (Int × (List ByteArray) × (List Line) × (List Trip)) :=
 (v_markNetwork_a (⟨a.Network.Stops, a.Network.Lines⟩ : Network) k).bind fun r =>
 (v_markTripS_w a.Trips r.1).bind fun r1 =>
 some (r1.1, r.2.1, r.2.2, r1.2)
noncomputable def v_markConsole_a (a : Console) (k : Int) : Option (Int × (List ByteArray) × (List Line) × (List Trip)) :=
 (v_markTimetable_a (⟨(⟨a.Timetable.Network.Stops, a.Timetable.Network.Lines⟩ : Network), a.Timetable.Trips⟩ : Timetable) k).bind fun r =>
 some (r.1, r.2.1, r.2.2.1, r.2.2.2)
noncomputable def v_heldStringS_L1 (a : List ByteArray) : Int × Int → Option (Lp (Int × Int) (Fl (Int) (Int)))
 | (k1, v) =>
  if (decide (v < (a.length : Int))) = true then
   (idx a v).bind fun e1 =>
   (v_markText k1).bind fun r1 =>
   if (!(e1.toList == r1.toList)) = true then
    some (.dn (.ret (-1)))
   else
    some (.nx ((w64 (k1 + 1)), (w64 (v + 1))))
  else
   some (.dn (.go k1))
noncomputable def v_heldStringS (a : List ByteArray) (k : Int) : Option (Int) :=
 flb (iter (v_heldStringS_L1 a) (k, (0 : Int))) fun (k2 : Int) =>
 some k2
noncomputable def v_heldIntS_L1 (a : List Int) : Int × Int → Option (Lp (Int × Int) (Fl (Int) (Int)))
 | (k1, v) =>
  if (decide (v < (a.length : Int))) = true then
   (idx a v).bind fun e =>
   if (e != k1) = true then
    some (.dn (.ret (-1)))
   else
    some (.nx ((w64 (k1 + 1)), (w64 (v + 1))))
  else
   some (.dn (.go k1))
noncomputable def v_heldIntS (a : List Int) (k : Int) : Option (Int) :=
 flb (iter (v_heldIntS_L1 a) (k, (0 : Int))) fun (k2 : Int) =>
 some k2
noncomputable def v_heldLineS_L1 (a : List Line) : Int × Int → Option (Lp (Int × Int) (Fl (Int) (Int)))
 | (k1, v) =>
  if (decide (v < (a.length : Int))) = true then
   (idx a v).bind fun e1 =>
   (v_markText k1).bind fun r1 =>
   if (!(e1.Name.toList == r1.toList)) = true then
    some (.dn (.ret (-1)))
   else
    (idx a v).bind fun e3 =>
    (v_heldIntS e3.Stops (w64 (k1 + 1))).bind fun r3 =>
    if (decide (r3 < 0)) = true then
     some (.dn (.ret (-1)))
    else
     (idx a v).bind fun e5 =>
     (v_heldIntS e5.Runs r3).bind fun r5 =>
     if (decide (r5 < 0)) = true then
      some (.dn (.ret (-1)))
     else
      some (.nx (r5, (w64 (v + 1))))
  else
   some (.dn (.go k1))
noncomputable def v_heldLineS (a : List Line) (k : Int) : Option (Int) :=
 flb (iter (v_heldLineS_L1 a) (k, (0 : Int))) fun (k2 : Int) =>
 some k2
noncomputable def v_heldNetwork (a : Network) (k : Int) : Option (Int) :=
 (v_heldStringS a.Stops k).bind fun r =>
 if (decide (r < 0)) = true then
  some (-1)
 else
  (v_heldLineS a.Lines r).bind fun r1 =>
  if (decide (r1 < 0)) = true then
   some (-1)
  else
   some r1
noncomputable def v_heldTripS_L1 (a : List Trip) : Int × Int → Option (Lp (Int × Int) (Fl (Int) (Int)))
 | (k1, v) =>
  if (decide (v < (a.length : Int))) = true then
   (idx a v).bind fun e =>
   if (e.Id != k1) = true then
    some (.dn (.ret (-1)))
   else
    (idx a v).bind fun e2 =>
    if (e2.Line != (w64 (k1 + 1))) = true then
     some (.dn (.ret (-1)))
    else
     (idx a v).bind fun e4 =>
     if (e4.Start != (w64 ((w64 (k1 + 1)) + 1))) = true then
      some (.dn (.ret (-1)))
     else
      some (.nx ((w64 ((w64 ((w64 (k1 + 1)) + 1)) + 1)), (w64 (v + 1))))
  else
   some (.dn (.go k1))
noncomputable def v_heldTripS (a : List Trip) (k : Int) : Option (Int) :=
 flb (iter (v_heldTripS_L1 a) (k, (0 : Int))) fun (k2 : Int) =>
 some k2
noncomputable def v_heldTimetable (a : Timetable) (k : Int) : Option (Int) :=
 (v_heldNetwork a.Network k).bind fun r =>
 if (decide (r < 0)) = true then
  some (-1)
 else
  (v_heldTripS a.Trips r).bind fun r1 =>
  if (decide (r1 < 0)) = true then
   some (-1)
  else
   some r1
noncomputable def v_heldConsole (a : Console) (k : Int) : Option (Int) :=
 (v_heldTimetable a.Timetable k).bind fun r =>
 if (decide (r < 0)) = true then
  some (-1)
 else
  some r
noncomputable def v_FnExactNewConsole (aT : Timetable) : Option (Bool) :=
 (v_szTimetable aT 1048576).bind fun r =>
 if (decide (r < 0)) = true then
  some true
 else
  (v_toTimetable aT).bind fun r1 =>
  (s_NewConsole r1).bind fun r2 =>
  (v_toTimetable aT).bind fun r3 =>
  (i_NewConsole (⟨(⟨r3.Network.Stops, r3.Network.Lines⟩ : Network), r3.Trips⟩ : Timetable)).bind fun r4 =>
  (v_eqConsole (⟨(⟨(⟨r4.1.Timetable.Network.Stops, r4.1.Timetable.Network.Lines⟩ : Network), r4.1.Timetable.Trips⟩ : Timetable), r4.1.Change, r4.1.Log⟩ : Console) r2.1).bind fun r5 =>
  (if (!r5) = true then some true else some (!(r4.2 == r2.2))).bind fun (v : Bool) =>
  if v = true then
   some false
  else
   (v_toTimetable aT).bind fun r8 =>
   (v_eqTimetable (⟨(⟨r3.Network.Stops, r3.Network.Lines⟩ : Network), r3.Trips⟩ : Timetable) (⟨(⟨r8.Network.Stops, r8.Network.Lines⟩ : Network), r8.Trips⟩ : Timetable)).bind fun r9 =>
   if (!r9) = true then
    some false
   else
    (v_markTimetable_a (⟨(⟨r3.Network.Stops, r3.Network.Lines⟩ : Network), r3.Trips⟩ : Timetable) 1).bind fun r10 =>
    (if (decide (r10.1 < 0)) = true then some true else (v_eqConsole (⟨(⟨(⟨r4.1.Timetable.Network.Stops, r4.1.Timetable.Network.Lines⟩ : Network), r4.1.Timetable.Trips⟩ : Timetable), r4.1.Change, r4.1.Log⟩ : Console) r2.1).bind fun r11 =>
    if (!r11) = true then some true else some (!(r4.2 == r2.2))).bind fun (v1 : Bool) =>
    if v1 = true then
     some false
    else
     (v_markConsole_a (⟨(⟨(⟨r4.1.Timetable.Network.Stops, r4.1.Timetable.Network.Lines⟩ : Network), r4.1.Timetable.Trips⟩ : Timetable), r4.1.Change, r4.1.Log⟩ : Console) 1).bind fun r12 =>
     (v_heldConsole (⟨(⟨(⟨r12.2.1, r12.2.2.1⟩ : Network), r12.2.2.2⟩ : Timetable), r4.1.Change, r4.1.Log⟩ : Console) 1).bind fun r13 =>
     if (decide (r13 < 0)) = true then
      some false
     else
      if (r13 != r12.1) = true then
       some false
      else
       (v_toTimetable aT).bind fun r14 =>
       (i_NewConsole (⟨(⟨r14.Network.Stops, r14.Network.Lines⟩ : Network), r14.Trips⟩ : Timetable)).bind fun r15 =>
       (v_eqConsole (⟨(⟨(⟨r15.1.Timetable.Network.Stops, r15.1.Timetable.Network.Lines⟩ : Network), r15.1.Timetable.Trips⟩ : Timetable), r15.1.Change, r15.1.Log⟩ : Console) r2.1).bind fun r16 =>
       (if (!r16) = true then some true else some (!(r15.2 == r2.2))).bind fun (v2 : Bool) =>
       if v2 = true then
        some false
       else
        (v_heldConsole (⟨(⟨(⟨r12.2.1, r12.2.2.1⟩ : Network), r12.2.2.2⟩ : Timetable), r4.1.Change, r4.1.Log⟩ : Console) 1).bind fun r17 =>
        if (decide (r17 < 0)) = true then
         some false
        else
         if (r17 != r12.1) = true then
          some false
         else
          some true
end Go.Proofs.Ytjahononbnbjnaa
